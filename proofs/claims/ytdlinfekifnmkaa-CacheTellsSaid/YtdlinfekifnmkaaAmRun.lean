/- The abstract machine of these proofs, part 6: its steps in the forms in which walks use them. Conditions: none. -/
import Derived.Test.YtdlinfekifnmkaaAmFx
set_option linter.unusedVariables false
set_option linter.unusedSimpArgs false
namespace Go.Proofs.YtdlinfekifnmkaaAm

def byOf (P : Program) (t : TypeId) : Option Nat := (P.info? t).map (·.bytes)
/-- Where the parts of a struct or an array lie, and how many cells each has. -/
def plOf (P : Program) (t : TypeId) : Option (List (Nat × Nat)) :=
  match P.underlying t with
  | some (.struct fs) => fs.toList.mapM fun f => (szOf P f.type).map fun s => (f.offset, s)
  | some (.array n e) => (szOf P e).map fun s => (List.range n).map fun i => (i * s, s)
  | _ => none

def dOk (d : Option Tmp) (n : Nat) : Bool :=
  match d with
  | some i => Nat.blt i n
  | none => true
theorem dOk_spec {d : Option Tmp} {n : Nat} (h : dOk d n = true) : ∀ i, d = some i → i < n := by
  intro i hi
  subst hi
  exact Nat.le_of_ble_eq_true h

section
variable {P : Program} {ops : Array Oper} {Q : Exit → St → Prop} {l : List Oper} {t : List (Nat × AV)} {n : Nat} {H : Heap} {i : Nat} {op : Op} {ty : TypeId} {pos : String} {af : Array Edge} {g : Option (Nat × Bool)}

theorem aqs {r : AV} (hg : gd ops ⟨some i, op, ty, pos, af, g⟩ t = some true) (h : QOp P ⟨some i, op, ty, pos, af, g⟩ (St.eval ⟨t, n, H⟩) H r) (hd : Nat.blt i n = true)
    (hk : AList P ops Q l ⟨(i, r) :: t, n, H⟩) : AList P ops Q (⟨some i, op, ty, pos, af, g⟩ :: l) ⟨t, n, H⟩ := alist_q hg h (dOk_spec (d := some i) hd) hk
theorem aqn {r : AV} (hg : gd ops ⟨none, op, ty, pos, af, g⟩ t = some true) (h : QOp P ⟨none, op, ty, pos, af, g⟩ (St.eval ⟨t, n, H⟩) H r)
    (hk : AList P ops Q l ⟨t, n, H⟩) : AList P ops Q (⟨none, op, ty, pos, af, g⟩ :: l) ⟨t, n, H⟩ := alist_q hg h (fun i h => by cases h) hk
theorem aes {R : AV → Heap → Prop} (hg : gd ops ⟨some i, op, ty, pos, af, g⟩ t = some true) (h : EOp P ⟨some i, op, ty, pos, af, g⟩ (St.eval ⟨t, n, H⟩) H R) (hd : Nat.blt i n = true)
    (hk : ∀ r H', R r H' → AList P ops Q l ⟨(i, r) :: t, n, H'⟩) : AList P ops Q (⟨some i, op, ty, pos, af, g⟩ :: l) ⟨t, n, H⟩ := alist_e hg h (dOk_spec (d := some i) hd) hk
theorem aen {R : AV → Heap → Prop} (hg : gd ops ⟨none, op, ty, pos, af, g⟩ t = some true) (h : EOp P ⟨none, op, ty, pos, af, g⟩ (St.eval ⟨t, n, H⟩) H R)
    (hk : ∀ r H', R r H' → AList P ops Q l ⟨t, n, H'⟩) : AList P ops Q (⟨none, op, ty, pos, af, g⟩ :: l) ⟨t, n, H⟩ := alist_e hg h (fun i h => by cases h) hk
theorem ans (hg : gd ops ⟨some i, op, ty, pos, af, g⟩ t = some false) (hd : Nat.blt i n = true) (hk : AList P ops Q l ⟨(i, .lit undef) :: t, n, H⟩) : AList P ops Q (⟨some i, op, ty, pos, af, g⟩ :: l) ⟨t, n, H⟩ :=
  alist_not hg (dOk_spec (d := some i) hd) hk
theorem ann (hg : gd ops ⟨none, op, ty, pos, af, g⟩ t = some false) (hk : AList P ops Q l ⟨t, n, H⟩) : AList P ops Q (⟨none, op, ty, pos, af, g⟩ :: l) ⟨t, n, H⟩ :=
  alist_not hg (fun i h => by cases h) hk
/-- The end of a region within a sequence. -/
theorem adone {y : Code} {s : St} (h : AWP P y Q s) : AList P ops (Then (AWP P y Q) Q) [] s := alist_nil h
theorem aend {s : St} (h : Q .normal s) : AList P ops Q [] s := alist_nil h

/-- A value with its head in sight. -/
inductive NV : AV → AV → Prop where
  | lit {v : Value} : NV (.lit v) (.lit v)
  | ro {es : List (List AV)} : NV (.ro es) (.ro es)
  | ptr {u i off : Nat} : NV (.ptr u i off) (.ptr u i off)
  | sl {u l h : Nat} : NV (.sl u l h) (.sl u l h)
  | agg {cs : List AV} : NV (.agg cs) (.agg cs)
  | ip {cs : List AV} : NV (.ip cs) (.ip cs)
  | mp {u : Nat} : NV (.mp u) (.mp u)
  | clo {fn : Fn} {fs cs : List AV} : NV (.clo fn fs cs) (.clo fn fs cs)
  | tup {cs : List AV} : NV (.tup cs) (.tup cs)
  | cro {es : List (List AV)} : NV (.cro es) (.cro es)
  | any : NV .any .any
theorem NV.eq {x y : AV} (h : NV x y) : x = y := by cases h <;> rfl
/-- A value's cells. -/
inductive NC : AV → List AV → Prop where
  | lit {v : Value} : NC (.lit v) [.lit v]
  | agg {cs : List AV} : NC (.agg cs) cs
  | ro {es : List (List AV)} : NC (.ro es) [.ro es]
  | ptr {u i off : Nat} : NC (.ptr u i off) [.ptr u i off]
  | sl {u l h : Nat} : NC (.sl u l h) [.sl u l h]
  | ip {cs : List AV} : NC (.ip cs) [.ip cs]
  | mp {u : Nat} : NC (.mp u) [.mp u]
  | clo {fn : Fn} {fs cs : List AV} : NC (.clo fn fs cs) [.clo fn fs cs]
  | cro {es : List (List AV)} : NC (.cro es) [.cro es]
theorem NC.eq {x : AV} {xs : List AV} (h : NC x xs) : cellsOf x = xs := by cases h <;> rfl
/-- A list with its spine in sight. -/
inductive NL {α : Type} : List α → List α → Prop where
  | nil : NL [] []
  | cons {x : α} {xs ys : List α} (h : NL xs ys) : NL (x :: xs) (x :: ys)
theorem NL.eq {α : Type} {xs ys : List α} (h : NL xs ys) : xs = ys := by induction h with | nil => rfl | cons _ ih => rw [ih]
theorem NL.same {α : Type} (xs : List α) : NL xs xs := by induction xs with | nil => exact .nil | cons x xs ih => exact .cons ih
/-- A row with one element in another's place. -/
inductive NE : List (List AV) → Nat → List AV → List (List AV) → Prop where
  | one {c c2 : List AV} : NE [c] 0 c2 [c2]
  | set {es : List (List AV)} {i : Nat} {c2 : List AV} : NE es i c2 (es.set i c2)
theorem NE.eq {es : List (List AV)} {i : Nat} {c : List AV} {es2 : List (List AV)} (h : NE es i c es2) : es.set i c = es2 := by cases h <;> rfl
/-- An object's place in the heap; the heap with another one there; without it. -/
inductive HAt : Heap → Nat → Ob → Prop where
  | here {H : Heap} {u : Nat} {o : Ob} : HAt ((u, o) :: H) u o
  | there {H : Heap} {u : Nat} {o : Ob} {x : Nat × Ob} (h : HAt H u o) : HAt (x :: H) u o
inductive HSet : Heap → Nat → Nat × Ob → Heap → Prop where
  | here {H : Heap} {u : Nat} {o : Ob} {p : Nat × Ob} : HSet ((u, o) :: H) u p (p :: H)
  | there {H H2 : Heap} {u : Nat} {p x : Nat × Ob} (h : HSet H u p H2) : HSet (x :: H) u p (x :: H2)
theorem HSet.at {H H2 : Heap} {u : Nat} {p : Nat × Ob} (h : HSet H u p H2) : ∃ (q : Nat) (o : Ob), H[q]? = some (u, o) ∧ H2 = H.set q p := by
  induction h with
  | here => exact ⟨0, _, rfl, rfl⟩
  | there h ih => obtain ⟨q, o, h1, h2⟩ := ih; exact ⟨q + 1, o, by simpa using h1, by rw [h2]; rfl⟩
theorem HAt.at {H : Heap} {u : Nat} {o : Ob} (h : HAt H u o) : ∃ q : Nat, H[q]? = some (u, o) := by
  induction h with
  | here => exact ⟨0, rfl⟩
  | there h ih => obtain ⟨q, h⟩ := ih; exact ⟨q + 1, by simpa using h⟩

variable {d : Option Tmp} {ev : Operand → AV}
theorem q_mv {x : Operand} {r : AV} (h : NV (ev x) r) : QOp P ⟨d, .move x, ty, pos, af, g⟩ ev H r := h.eq ▸ q_move
theorem q_as {x : Operand} {r : AV} (h : NV (ev x) r) : QOp P ⟨d, .assign x, ty, pos, af, g⟩ ev H r := h.eq ▸ q_assign
theorem q_pickT {c x y : Operand} {r : AV} (hc : ev c = .lit (.bool true)) (h : NV (ev x) r) : QOp P ⟨d, .pick c x y, ty, pos, af, g⟩ ev H r := q_pick hc (fun _ => h.eq) (fun h => by cases h)
theorem q_pickF {c x y : Operand} {r : AV} (hc : ev c = .lit (.bool false)) (h : NV (ev y) r) : QOp P ⟨d, .pick c x y, ty, pos, af, g⟩ ev H r := q_pick hc (fun h => by cases h) (fun _ => h.eq)
theorem q_ex {tt : Operand} {i : Nat} {vs : List AV} {x r : AV} (ht : ev tt = .tup vs) (hi : vs[i]? = some x) (h : NV x r) : QOp P ⟨d, .extract tt i, ty, pos, af, g⟩ ev H r := h.eq ▸ q_extract ht hi

/-- What a slot holds is looked at. -/
theorem acase {b : Bool} (h1 : b = true → AList P ops Q l ⟨(i, .lit (.bool true)) :: t, n, H⟩) (h2 : b = false → AList P ops Q l ⟨(i, .lit (.bool false)) :: t, n, H⟩) : AList P ops Q l ⟨(i, .lit (.bool b)) :: t, n, H⟩ := by
  cases b with
  | true => exact h1 rfl
  | false => exact h2 rfl

section
variable {tt t2 : TypeId} {x y : Operand} {m k : Int}
theorem wrap_i64 (h1 : -9223372036854775808 ≤ m) (h2 : m ≤ 9223372036854775807) : IntKind.i64.wrap m = m := by
  have e : IntKind.i64.wrap m = (if IntKind.i64.signed && m % (2 ^ IntKind.i64.bits : Int) ≥ (2 ^ (IntKind.i64.bits - 1) : Int) then m % (2 ^ IntKind.i64.bits : Int) - (2 ^ IntKind.i64.bits : Int) else m % (2 ^ IntKind.i64.bits : Int)) := rfl
  rw [e]
  have e1 : (2 ^ IntKind.i64.bits : Int) = 18446744073709551616 := by decide
  have e2 : (2 ^ (IntKind.i64.bits - 1) : Int) = 9223372036854775808 := by decide
  have e3 : IntKind.i64.signed = true := rfl
  rw [e1, e2, e3]
  simp only [Bool.true_and, decide_eq_true_eq]
  split <;> omega
theorem wrap_u64 (h1 : 0 ≤ m) (h2 : m ≤ 18446744073709551615) : IntKind.u64.wrap m = m := by
  have e : IntKind.u64.wrap m = (if IntKind.u64.signed && m % (2 ^ IntKind.u64.bits : Int) ≥ (2 ^ (IntKind.u64.bits - 1) : Int) then m % (2 ^ IntKind.u64.bits : Int) - (2 ^ IntKind.u64.bits : Int) else m % (2 ^ IntKind.u64.bits : Int)) := rfl
  rw [e]
  have e1 : (2 ^ IntKind.u64.bits : Int) = 18446744073709551616 := by decide
  have e3 : IntKind.u64.signed = false := rfl
  rw [e1, e3]
  simp only [Bool.false_and, Bool.false_eq_true, if_false]
  omega
theorem q_add64 (hx : ev x = .lit (.int .i64 m)) (hy : ev y = .lit (.int .i64 k)) (h1 : -9223372036854775808 ≤ m + k) (h2 : m + k ≤ 9223372036854775807) :
    QOp P ⟨d, .binOp .add tt x y t2, ty, pos, af, g⟩ ev H (.lit (.int .i64 (m + k))) := by have := q_add (P := P) (d := d) (ty := ty) (pos := pos) (af := af) (g := g) (H := H) (t := tt) (t2 := t2) hx hy; rwa [wrap_i64 h1 h2] at this
theorem q_sub64 (hx : ev x = .lit (.int .i64 m)) (hy : ev y = .lit (.int .i64 k)) (h1 : -9223372036854775808 ≤ m - k) (h2 : m - k ≤ 9223372036854775807) :
    QOp P ⟨d, .binOp .sub tt x y t2, ty, pos, af, g⟩ ev H (.lit (.int .i64 (m - k))) := by have := q_sub (P := P) (d := d) (ty := ty) (pos := pos) (af := af) (g := g) (H := H) (t := tt) (t2 := t2) hx hy; rwa [wrap_i64 h1 h2] at this
theorem q_mul64 (hx : ev x = .lit (.int .i64 m)) (hy : ev y = .lit (.int .i64 k)) (h1 : -9223372036854775808 ≤ m * k) (h2 : m * k ≤ 9223372036854775807) :
    QOp P ⟨d, .binOp .mul tt x y t2, ty, pos, af, g⟩ ev H (.lit (.int .i64 (m * k))) := by have := q_mul (P := P) (d := d) (ty := ty) (pos := pos) (af := af) (g := g) (H := H) (t := tt) (t2 := t2) hx hy; rwa [wrap_i64 h1 h2] at this
/-- Go's quotient and remainder of what is not below 0. -/
theorem q_quo64 (hx : ev x = .lit (.int .i64 m)) (hy : ev y = .lit (.int .i64 k)) (h0 : 0 ≤ m) (h1 : 1 ≤ k) (h2 : m ≤ 9223372036854775807) :
    QOp P ⟨d, .binOp .quo tt x y t2, ty, pos, af, g⟩ ev H (.lit (.int .i64 (m / k))) := by
  have := q_quo (P := P) (d := d) (ty := ty) (pos := pos) (af := af) (g := g) (H := H) (t := tt) (t2 := t2) hx hy (by omega)
  have e : m.tdiv k = m / k := Int.tdiv_eq_ediv_of_nonneg h0
  have h3 : 0 ≤ m / k := Int.ediv_nonneg h0 (by omega)
  have h4 : m / k ≤ m := Int.ediv_le_self _ h0
  rw [e, wrap_i64 (by omega) (by omega)] at this
  exact this
theorem q_rem64 (hx : ev x = .lit (.int .i64 m)) (hy : ev y = .lit (.int .i64 k)) (h0 : 0 ≤ m) (h1 : 1 ≤ k) :
    QOp P ⟨d, .binOp .rem tt x y t2, ty, pos, af, g⟩ ev H (.lit (.int .i64 (m % k))) := by
  have := q_rem (P := P) (d := d) (ty := ty) (pos := pos) (af := af) (g := g) (H := H) (t := tt) (t2 := t2) hx hy (by omega)
  rwa [Int.tmod_eq_emod_of_nonneg h0] at this
theorem q_neg64 (hx : ev x = .lit (.int .i64 m)) (h1 : -9223372036854775808 ≤ -m) (h2 : -m ≤ 9223372036854775807) :
    QOp P ⟨d, .unOp .neg tt x, ty, pos, af, g⟩ ev H (.lit (.int .i64 (-m))) := by
  have := q_neg (P := P) (d := d) (ty := ty) (pos := pos) (af := af) (g := g) (H := H) (t := tt) hx
  rwa [Int.zero_sub, wrap_i64 h1 h2] at this
theorem q_conv64 {src dst : TypeId} {k' : IntKind} (hx : ev x = .lit (.int k' m)) {u : TypeDesc} (hs : P.underlying src = some u) (hd : P.underlying dst = some (.int .i64)) (h1 : -9223372036854775808 ≤ m) (h2 : m ≤ 9223372036854775807) :
    QOp P ⟨d, .convert src dst x, ty, pos, af, g⟩ ev H (.lit (.int .i64 m)) := by have := q_conv (P := P) (d := d) (ty := ty) (pos := pos) (af := af) (g := g) (H := H) hx hs hd; rwa [wrap_i64 h1 h2] at this
theorem q_convU {src dst : TypeId} {k' : IntKind} (hx : ev x = .lit (.int k' m)) {u : TypeDesc} (hs : P.underlying src = some u) (hd : P.underlying dst = some (.int .u64)) (h1 : 0 ≤ m) (h2 : m ≤ 18446744073709551615) :
    QOp P ⟨d, .convert src dst x, ty, pos, af, g⟩ ev H (.lit (.int .u64 m)) := by have := q_conv (P := P) (d := d) (ty := ty) (pos := pos) (af := af) (g := g) (H := H) hx hs hd; rwa [wrap_u64 h1 h2] at this
end

/-- A struct loaded whole. -/
theorem q_ldW {tt : TypeId} {p : Operand} {cs : List AV} {sz : Nat} (ht : isAg P tt = some true) (hsz : szOf P tt = some sz) (hp : ev p = .ip cs) (hle : cs.length = sz) : QOp P ⟨d, .load tt p, ty, pos, af, g⟩ ev H (.agg cs) := by
  have := q_ldA (P := P) (d := d) (ty := ty) (pos := pos) (af := af) (g := g) (H := H) ht hsz hp (by omega)
  rwa [List.take_of_length_le (by omega)] at this
theorem q_ldP {tt : TypeId} {p : Operand} {cs r : List AV} {sz : Nat} (ht : isAg P tt = some true) (hsz : szOf P tt = some sz) (hp : ev p = .ip cs) (hle : sz ≤ cs.length) (hr : NL (cs.take sz) r) : QOp P ⟨d, .load tt p, ty, pos, af, g⟩ ev H (.agg r) :=
  hr.eq ▸ q_ldA ht hsz hp hle
theorem q_ld1N {tt : TypeId} {p : Operand} {c r : AV} {cs : List AV} (ht : isAg P tt = some false) (hp : ev p = .ip (c :: cs)) (h : NV c r) : QOp P ⟨d, .load tt p, ty, pos, af, g⟩ ev H r := h.eq ▸ q_ld1 ht hp
theorem q_ldpN {tt e : TypeId} {p : Operand} {u i off size : Nat} {es : List (List AV)} {c : List AV} {x r : AV} (ht : isAg P tt = some false) (hp : ev p = .ptr u i off)
    (hq : HAt H u (.arr e size es)) (hi : es[i]? = some c) (hj : c[off]? = some x) (h : NV x r) : QOp P ⟨d, .load tt p, ty, pos, af, g⟩ ev H r := by
  obtain ⟨q, hq⟩ := hq.at
  exact h.eq ▸ q_ldp1 ht hp hq hi hj
theorem q_ldpW {tt e : TypeId} {p : Operand} {u i size sz : Nat} {es : List (List AV)} {c : List AV} (ht : isAg P tt = some true) (hsz : szOf P tt = some sz) (hp : ev p = .ptr u i 0)
    (hq : HAt H u (.arr e size es)) (hi : es[i]? = some c) (hle : c.length = sz) (hz : 0 < sz) : QOp P ⟨d, .load tt p, ty, pos, af, g⟩ ev H (.agg c) := by
  obtain ⟨q, hq⟩ := hq.at
  have := q_ldpA (P := P) (d := d) (ty := ty) (pos := pos) (af := af) (g := g) ht hsz hp hq hi (by omega) hz
  rwa [List.drop_zero, List.take_of_length_le (by omega)] at this
theorem q_ldpP {tt e : TypeId} {p : Operand} {u i off size sz : Nat} {es : List (List AV)} {c r : List AV} (ht : isAg P tt = some true) (hsz : szOf P tt = some sz) (hp : ev p = .ptr u i off)
    (hq : HAt H u (.arr e size es)) (hi : es[i]? = some c) (hle : off + sz ≤ c.length) (hz : 0 < sz) (hr : NL ((c.drop off).take sz) r) : QOp P ⟨d, .load tt p, ty, pos, af, g⟩ ev H (.agg r) := by
  obtain ⟨q, hq⟩ := hq.at
  exact hr.eq ▸ q_ldpA ht hsz hp hq hi hle hz
theorem q_faP {s : TypeId} {p : Operand} {f k sz : Nat} {b : Bool} {cs r : List AV} (hf : fldOf P s f = some (k, sz, b)) (hz : 0 < sz) (hp : ev p = .ip cs) (hr : NL (cs.drop k) r) : QOp P ⟨d, .fieldAddr s p f, ty, pos, af, g⟩ ev H (.ip r) :=
  hr.eq ▸ q_fa hf hz hp
theorem q_fapP {s : TypeId} {p : Operand} {f k sz u i off o2 : Nat} {b : Bool} (hf : fldOf P s f = some (k, sz, b)) (hz : 0 < sz) (hp : ev p = .ptr u i off) (ho : off + k = o2) : QOp P ⟨d, .fieldAddr s p f, ty, pos, af, g⟩ ev H (.ptr u i o2) :=
  ho ▸ q_fap hf hz hp
theorem q_fldN {s : TypeId} {x : Operand} {f k sz : Nat} {cs : List AV} {y r : AV} (hf : fldOf P s f = some (k, sz, false)) (hx : ev x = .agg cs) (hr : cs[k]? = some y) (h : NV y r) : QOp P ⟨d, .field s x f, ty, pos, af, g⟩ ev H r := h.eq ▸ q_fld1 hf hx hr
theorem q_fldP {s : TypeId} {x : Operand} {f k sz : Nat} {cs r : List AV} (hf : fldOf P s f = some (k, sz, true)) (hx : ev x = .agg cs) (hle : k + sz ≤ cs.length) (hr : NL ((cs.drop k).take sz) r) : QOp P ⟨d, .field s x f, ty, pos, af, g⟩ ev H (.agg r) :=
  hr.eq ▸ q_fldA hf hx hle

theorem e_al {tt : TypeId} {zs : List Value} {xs : List AV} {k : Nat} (hz : zeroOf P tt = some zs) (hx : NL (zs.map .lit) xs) (hk : zs.length = k) : EOp P ⟨d, .alloc tt, ty, pos, af, g⟩ ev H (fun r H' => ∃ u, r = .ptr u 0 0 ∧ H' = (u, .arr tt k [xs]) :: H) := by
  have := e_alloc (P := P) (d := d) (ty := ty) (pos := pos) (af := af) (g := g) (ev := ev) (H := H) hz
  rwa [hx.eq, hk] at this
theorem e_bx {tt : TypeId} {x : Operand} {xs : List AV} {k : Nat} (hx : NC (ev x) xs) (hok : xs.all cell1 = true) (hk : xs.length = k) :
    EOp P ⟨d, .box tt x, ty, pos, af, g⟩ ev H (fun r H' => ∃ u, r = .ptr u 0 0 ∧ H' = (u, .arr tt k [xs]) :: H) := by
  have := e_box (P := P) (d := d) (t := tt) (ty := ty) (pos := pos) (af := af) (g := g) (H := H) hx.eq hok
  rwa [hk] at this
/-- A store of a whole variable. -/
theorem e_stW {tt e : TypeId} {p x : Operand} {u size : Nat} {c xs : List AV} {H2 : Heap} (hsz : szOf P tt = some size) (hp : ev p = .ptr u 0 0) (hq : HAt H u (.arr e size [c]))
    (hx : NC (ev x) xs) (hok : xs.all cell1 = true) (hxl : xs.length = size) (hH : HSet H u (u, .arr e size [xs]) H2) :
    EOp P ⟨d, .store tt p x, ty, pos, af, g⟩ ev H (fun r H' => r = .lit undef ∧ H' = H2) := by
  intro C a ok hh
  obtain ⟨q0, hq0⟩ := hq.at
  have hcl : c.length = size := (hh.at hq0).2.2.2.2.1 c (by simp)
  obtain ⟨q, o, h1, h2⟩ := hH.at
  have ho : o = .arr e size [c] := by
    have k1 := List.getElem?_eq_some_iff.1 h1
    have k2 := List.getElem?_eq_some_iff.1 hq0
    have h3 : (H.map (·.1))[q]'(by simpa using k1.1) = (H.map (·.1))[q0]'(by simpa using k2.1) := by simp [k1.2, k2.2]
    have h4 := (List.getElem_inj hh.nodup).1 h3
    subst h4
    rw [h1] at hq0
    simpa using hq0
  subst ho
  refine ((e_store (P := P) (d := d) (ty := ty) (pos := pos) (af := af) (g := g) hsz hp h1 (i := 0) (c := c) rfl hx.eq hok hxl (by omega)).mono ?_) C a ok hh
  rintro r H' ⟨h5, h6⟩
  refine ⟨h5, ?_⟩
  rw [h6, h2]
  simp [hxl, ← hcl]
theorem HSet.ob {C : Cx} (hh : HRel C H) {H2 : Heap} {u : Nat} {p : Nat × Ob} {o : Ob} (hH : HSet H u p H2) (hq : HAt H u o) : ∃ q : Nat, H[q]? = some (u, o) ∧ H2 = H.set q p := by
  obtain ⟨q0, hq0⟩ := hq.at
  obtain ⟨q, o2, h1, h2⟩ := hH.at
  have k1 := List.getElem?_eq_some_iff.1 h1
  have k2 := List.getElem?_eq_some_iff.1 hq0
  have h3 : (H.map (·.1))[q]'(by simpa using k1.1) = (H.map (·.1))[q0]'(by simpa using k2.1) := by simp [k1.2, k2.2]
  have h4 := (List.getElem_inj hh.nodup).1 h3
  subst h4
  exact ⟨q, hq0, h2⟩
/-- A store into a part. -/
theorem e_stP {tt e : TypeId} {p x : Operand} {u i off size sz : Nat} {es es2 : List (List AV)} {c xs c2 : List AV} {H2 : Heap} (hsz : szOf P tt = some sz) (hp : ev p = .ptr u i off) (hq : HAt H u (.arr e size es)) (hi : es[i]? = some c)
    (hx : NC (ev x) xs) (hok : xs.all cell1 = true) (hxl : xs.length = sz) (hle : off + sz ≤ size) (hc : NL (c.take off ++ xs ++ c.drop (off + xs.length)) c2) (hes : NE es i c2 es2) (hH : HSet H u (u, .arr e size es2) H2) :
    EOp P ⟨d, .store tt p x, ty, pos, af, g⟩ ev H (fun r H' => r = .lit undef ∧ H' = H2) := by
  intro C a ok hh
  obtain ⟨q, h1, h2⟩ := hH.ob hh hq
  exact ((e_store (P := P) (d := d) (ty := ty) (pos := pos) (af := af) (g := g) hsz hp h1 hi hx.eq hok hxl hle).mono (by rintro r H' ⟨h3, h4⟩; exact ⟨h3, by rw [h4, h2, hc.eq, hes.eq]⟩)) C a ok hh
theorem e_callN {f : FuncId} {fo : Operand} {xs : Array Operand} {ts : Array TypeId} {args : List AV} {R : AV → Heap → Prop} (hc : Callable P f) (h : ACall P f args H R) (hfo : fo = .func f)
    (hargs : xs.toList.map ev = args) : EOp P ⟨d, .call { callee := .value fo, args := xs, argTypes := ts }, ty, pos, af, g⟩ ev H R :=
  e_call (first := []) (caps := []) hc (.inr ⟨hfo, rfl, rfl⟩) (by rw [List.nil_append, List.append_nil]; exact hargs) h
theorem e_callC {f : FuncId} {fo : Operand} {xs : Array Operand} {ts : Array TypeId} {args first caps : List AV} {R : AV → Heap → Prop} (hc : Callable P f) (h : ACall P f args H R) (hfo : ev fo = .clo (.func f) first caps)
    (hargs : first ++ xs.toList.map ev ++ caps = args) : EOp P ⟨d, .call { callee := .value fo, args := xs, argTypes := ts }, ty, pos, af, g⟩ ev H R :=
  e_call hc (.inl hfo) hargs h
theorem awp_skipT {y : Code} {s : St} (h : AWP P y Q s) : AWP P .skip (Then (AWP P y Q) Q) s := awp_skip h
/-- Ends of bodies. -/
theorem retq1 {e : Exit} {tt : List (Nat × AV)} {n : Nat} {H H' : Heap} {k : Nat} {r : AV} (he : e = .normal ∨ e = .ret) (hr : look tt k = r) (hs : H'.Sublist H) :
    RetQ P [.tmp k] (fun r' H2 => r' = r ∧ H2 = H') e ⟨tt, n, H⟩ := ⟨he, [look tt k], H', .cons .tmp .nil, hs, hr, rfl⟩
end

end Go.Proofs.YtdlinfekifnmkaaAm
