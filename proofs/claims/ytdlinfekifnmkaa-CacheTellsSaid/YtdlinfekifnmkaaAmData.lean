/- The data of the laws' parameters, and how they open. Conditions: none. -/
import Derived.Test.YtdlinfekifnmkaaAmFrame
import Derived.Test.YtdlinfekifnmkaaAmTypes
set_option linter.unusedVariables false
set_option linter.unusedSimpArgs false
namespace Go.Proofs.YtdlinfekifnmkaaAm
open Go.Proofs
abbrev cI (n : Int) : List AV := [.lit (.int .i64 n)]
abbrev cU (n : Int) : List AV := [.lit (.int .u64 n)]
abbrev c8 (n : Int) : List AV := [.lit (.int .u8 n)]
abbrev cB (b : Bool) : List AV := [.lit (.bool b)]
abbrev cS (s : ByteArray) : List AV := [.lit (.string s)]
theorem wf_i64 {n : Int} (h : (Lit.int .i64 n).wf = true) : -9223372036854775808 ≤ n ∧ n ≤ 9223372036854775807 := by simpa [Lit.wf, IntKind.min, IntKind.max, IntKind.signed, IntKind.bits] using h
theorem wf_u64 {n : Int} (h : (Lit.int .u64 n).wf = true) : 0 ≤ n ∧ n ≤ 18446744073709551615 := by simpa [Lit.wf, IntKind.min, IntKind.max, IntKind.signed, IntKind.bits] using h
theorem wf_u8 {n : Int} (h : (Lit.int .u8 n).wf = true) : 0 ≤ n ∧ n ≤ 255 := by simpa [Lit.wf, IntKind.min, IntKind.max, IntKind.signed, IntKind.bits] using h
theorem all_form {α : Type} {F : α → List AV} {Q : α → Prop} : ∀ {es : List (List AV)}, (∀ x ∈ es, ∃ d, x = F d ∧ Q d) → ∃ ds : List α, es = ds.map F ∧ ∀ d ∈ ds, Q d
  | [], _ => ⟨[], rfl, by simp⟩
  | e :: es, h => by
    obtain ⟨d, rfl, hq⟩ := h e (by simp)
    obtain ⟨ds, rfl, hqs⟩ := all_form (es := es) fun x hx => h x (by simp [hx])
    exact ⟨d :: ds, rfl, by simpa using ⟨hq, hqs⟩⟩
theorem len_succ {n : Nat} {cs : List Value} (h : cs.length = n + 1) : ∃ c ds, cs = c :: ds ∧ ds.length = n := by cases cs with | nil => simp at h | cons c ds => exact ⟨c, ds, rfl, by simpa using h⟩
theorem maxLen_eq : maxLen = 9223372036854775807 := by decide
theorem maxLen_le {n : Nat} (h : n ≤ maxLen) : n ≤ 9223372036854775807 := maxLen_eq ▸ h
variable {W : World} {cs : List Value}
theorem cells9 : Try.prog.cellsOf 9 = 1 := by kernel_rfl
theorem op9 (h : Opens Try.prog W 9 cs) : ∃ xs, RVL (cx0 W) xs cs ∧ ∃ d : ByteArray, xs = [.lit (.string d)] ∧ (d.size ≤ 9223372036854775807) := by
  obtain ⟨xs, hr, n, rfl, hw⟩ := op_string Try.underlying9 h
  exact ⟨_, hr, n, rfl, maxLen_le hw⟩
theorem cells22 : Try.prog.cellsOf 22 = 1 := by kernel_rfl
theorem op22 (h : Opens Try.prog W 22 cs) : ∃ xs, RVL (cx0 W) xs cs ∧ ∃ d : Int, xs = [.lit (.int .u64 d)] ∧ (0 ≤ d ∧ d ≤ 18446744073709551615) := by
  obtain ⟨xs, hr, n, rfl, hw⟩ := op_int Try.underlying22 h
  exact ⟨_, hr, n, rfl, wf_u64 hw⟩
theorem cells3 : Try.prog.cellsOf 3 = 1 := by kernel_rfl
theorem op3 (h : Opens Try.prog W 3 cs) : ∃ xs, RVL (cx0 W) xs cs ∧ ∃ d : Int, xs = [.lit (.int .i64 d)] ∧ (-9223372036854775808 ≤ d ∧ d ≤ 9223372036854775807) := by
  obtain ⟨xs, hr, n, rfl, hw⟩ := op_int Try.underlying3 h
  exact ⟨_, hr, n, rfl, wf_i64 hw⟩
theorem cells5 : Try.prog.cellsOf 5 = 1 := by kernel_rfl
theorem op5 (h : Opens Try.prog W 5 cs) : ∃ xs, RVL (cx0 W) xs cs ∧ ∃ d : Int, xs = [.lit (.int .u8 d)] ∧ (0 ≤ d ∧ d ≤ 255) := by
  obtain ⟨xs, hr, n, rfl, hw⟩ := op_int Try.underlying5 h
  exact ⟨_, hr, n, rfl, wf_u8 hw⟩
theorem cells29 : Try.prog.cellsOf 29 = 2 := by kernel_rfl
structure Key where
  sum : Int
  len : Int
  deriving DecidableEq
abbrev Key.cells (d : Key) : List AV := [.lit (.int .u64 d.sum), .lit (.int .i64 d.len)]
def Key.Wf (d : Key) : Prop := (0 ≤ d.sum ∧ d.sum ≤ 18446744073709551615) ∧ (-9223372036854775808 ≤ d.len ∧ d.len ≤ 9223372036854775807)
theorem op29 (h : Opens Try.prog W 29 cs) : ∃ xs, RVL (cx0 W) xs cs ∧ ∃ d : Key, xs = d.cells ∧ d.Wf := by
  obtain ⟨hl, hf⟩ := op_struct Try.underlying29 cells29 h
  obtain ⟨c0, t0, rfl, g0⟩ := len_succ hl
  obtain ⟨c1, t1, rfl, g1⟩ := len_succ g0
  obtain rfl := List.length_eq_zero_iff.1 g1
  have h0 : Opens Try.prog W 22 [c0] := by have := hf 0 _ rfl; simpa [cells22] using this
  obtain ⟨x0, r0, d0, rfl, w0⟩ := op22 h0
  have h1 : Opens Try.prog W 3 [c1] := by have := hf 1 _ rfl; simpa [cells3] using this
  obtain ⟨x1, r1, d1, rfl, w1⟩ := op3 h1
  exact ⟨_, (r0.append r1), ⟨d0, d1⟩, rfl, w0, w1⟩
theorem cells40 : Try.prog.cellsOf 40 = 5 := by kernel_rfl
structure Slot where
  key : Key
  left : ByteArray
  right : ByteArray
  val : ByteArray
  deriving DecidableEq
abbrev Slot.cells (d : Slot) : List AV := [.lit (.int .u64 d.key.sum), .lit (.int .i64 d.key.len), .lit (.string d.left), .lit (.string d.right), .lit (.string d.val)]
def Slot.Wf (d : Slot) : Prop := d.key.Wf ∧ (d.left.size ≤ 9223372036854775807) ∧ (d.right.size ≤ 9223372036854775807) ∧ (d.val.size ≤ 9223372036854775807)
theorem op40 (h : Opens Try.prog W 40 cs) : ∃ xs, RVL (cx0 W) xs cs ∧ ∃ d : Slot, xs = d.cells ∧ d.Wf := by
  obtain ⟨hl, hf⟩ := op_struct Try.underlying40 cells40 h
  obtain ⟨c0, t0, rfl, g0⟩ := len_succ hl
  obtain ⟨c1, t1, rfl, g1⟩ := len_succ g0
  obtain ⟨c2, t2, rfl, g2⟩ := len_succ g1
  obtain ⟨c3, t3, rfl, g3⟩ := len_succ g2
  obtain ⟨c4, t4, rfl, g4⟩ := len_succ g3
  obtain rfl := List.length_eq_zero_iff.1 g4
  have h0 : Opens Try.prog W 29 [c0, c1] := by have := hf 0 _ rfl; simpa [cells29] using this
  obtain ⟨x0, r0, d0, rfl, w0⟩ := op29 h0
  have h1 : Opens Try.prog W 9 [c2] := by have := hf 1 _ rfl; simpa [cells9] using this
  obtain ⟨x1, r1, d1, rfl, w1⟩ := op9 h1
  have h2 : Opens Try.prog W 9 [c3] := by have := hf 2 _ rfl; simpa [cells9] using this
  obtain ⟨x2, r2, d2, rfl, w2⟩ := op9 h2
  have h3 : Opens Try.prog W 9 [c4] := by have := hf 3 _ rfl; simpa [cells9] using this
  obtain ⟨x3, r3, d3, rfl, w3⟩ := op9 h3
  exact ⟨_, (r0.append (r1.append (r2.append r3))), ⟨d0, d1, d2, d3⟩, rfl, w0, w1, w2, w3⟩
theorem cells38 : Try.prog.cellsOf 38 = 1 := by kernel_rfl
theorem op38 (h : Opens Try.prog W 38 cs) : ∃ xs, RVL (cx0 W) xs cs ∧ ∃ d : List Slot, xs = [.ro (d.map Slot.cells)] ∧ ((∀ y ∈ d, y.Wf) ∧ d.length ≤ 9223372036854775807) := by
  obtain ⟨xs, hr, es, rfl, hw, hl⟩ := op_slice (F := fun xs => ∃ d, xs = Slot.cells d ∧ d.Wf) Try.underlying38 cells40 (by decide) (fun cs h => op40 h) h
  obtain ⟨ds, rfl, hq⟩ := all_form hw
  exact ⟨_, hr, ds, rfl, hq, by rw [List.length_map] at hl; exact maxLen_le hl⟩
theorem cells25 : Try.prog.cellsOf 25 = 1 := by kernel_rfl
theorem op25 (h : Opens Try.prog W 25 cs) : ∃ xs, RVL (cx0 W) xs cs ∧ ∃ d : List Int, xs = [.ro (d.map cI)] ∧ ((∀ y ∈ d, (-9223372036854775808 ≤ y ∧ y ≤ 9223372036854775807)) ∧ d.length ≤ 9223372036854775807) := by
  obtain ⟨xs, hr, es, rfl, hw, hl⟩ := op_slice (F := fun xs => ∃ d, xs = cI d ∧ (-9223372036854775808 ≤ d ∧ d ≤ 9223372036854775807)) Try.underlying25 cells3 (by decide) (fun cs h => op3 h) h
  obtain ⟨ds, rfl, hq⟩ := all_form hw
  exact ⟨_, hr, ds, rfl, hq, by rw [List.length_map] at hl; exact maxLen_le hl⟩
theorem cells4 : Try.prog.cellsOf 4 = 1 := by kernel_rfl
theorem op4 (h : Opens Try.prog W 4 cs) : ∃ xs, RVL (cx0 W) xs cs ∧ ∃ d : Bool, xs = [.lit (.bool d)] ∧ True := by
  obtain ⟨xs, hr, n, rfl⟩ := op_bool Try.underlying4 h
  exact ⟨_, hr, n, rfl, trivial⟩
theorem cells54 : Try.prog.cellsOf 54 = 1 := by kernel_rfl
theorem op54 (h : Opens Try.prog W 54 cs) : ∃ xs, RVL (cx0 W) xs cs ∧ ∃ d : List Bool, xs = [.ro (d.map cB)] ∧ ((∀ y ∈ d, True) ∧ d.length ≤ 9223372036854775807) := by
  obtain ⟨xs, hr, es, rfl, hw, hl⟩ := op_slice (F := fun xs => ∃ d, xs = cB d ∧ True) Try.underlying54 cells4 (by decide) (fun cs h => op4 h) h
  obtain ⟨ds, rfl, hq⟩ := all_form hw
  exact ⟨_, hr, ds, rfl, hq, by rw [List.length_map] at hl; exact maxLen_le hl⟩
theorem cells75 : Try.prog.cellsOf 75 = 4 := by kernel_rfl
structure Task where
  req : Int
  slot : Int
  left : ByteArray
  right : ByteArray
  deriving DecidableEq
abbrev Task.cells (d : Task) : List AV := [.lit (.int .i64 d.req), .lit (.int .i64 d.slot), .lit (.string d.left), .lit (.string d.right)]
def Task.Wf (d : Task) : Prop := (-9223372036854775808 ≤ d.req ∧ d.req ≤ 9223372036854775807) ∧ (-9223372036854775808 ≤ d.slot ∧ d.slot ≤ 9223372036854775807) ∧ (d.left.size ≤ 9223372036854775807) ∧ (d.right.size ≤ 9223372036854775807)
theorem op75 (h : Opens Try.prog W 75 cs) : ∃ xs, RVL (cx0 W) xs cs ∧ ∃ d : Task, xs = d.cells ∧ d.Wf := by
  obtain ⟨hl, hf⟩ := op_struct Try.underlying75 cells75 h
  obtain ⟨c0, t0, rfl, g0⟩ := len_succ hl
  obtain ⟨c1, t1, rfl, g1⟩ := len_succ g0
  obtain ⟨c2, t2, rfl, g2⟩ := len_succ g1
  obtain ⟨c3, t3, rfl, g3⟩ := len_succ g2
  obtain rfl := List.length_eq_zero_iff.1 g3
  have h0 : Opens Try.prog W 3 [c0] := by have := hf 0 _ rfl; simpa [cells3] using this
  obtain ⟨x0, r0, d0, rfl, w0⟩ := op3 h0
  have h1 : Opens Try.prog W 3 [c1] := by have := hf 1 _ rfl; simpa [cells3] using this
  obtain ⟨x1, r1, d1, rfl, w1⟩ := op3 h1
  have h2 : Opens Try.prog W 9 [c2] := by have := hf 2 _ rfl; simpa [cells9] using this
  obtain ⟨x2, r2, d2, rfl, w2⟩ := op9 h2
  have h3 : Opens Try.prog W 9 [c3] := by have := hf 3 _ rfl; simpa [cells9] using this
  obtain ⟨x3, r3, d3, rfl, w3⟩ := op9 h3
  exact ⟨_, (r0.append (r1.append (r2.append r3))), ⟨d0, d1, d2, d3⟩, rfl, w0, w1, w2, w3⟩
theorem cells61 : Try.prog.cellsOf 61 = 1 := by kernel_rfl
theorem op61 (h : Opens Try.prog W 61 cs) : ∃ xs, RVL (cx0 W) xs cs ∧ ∃ d : List Task, xs = [.ro (d.map Task.cells)] ∧ ((∀ y ∈ d, y.Wf) ∧ d.length ≤ 9223372036854775807) := by
  obtain ⟨xs, hr, es, rfl, hw, hl⟩ := op_slice (F := fun xs => ∃ d, xs = Task.cells d ∧ d.Wf) Try.underlying61 cells75 (by decide) (fun cs h => op75 h) h
  obtain ⟨ds, rfl, hq⟩ := all_form hw
  exact ⟨_, hr, ds, rfl, hq, by rw [List.length_map] at hl; exact maxLen_le hl⟩
theorem cells63 : Try.prog.cellsOf 63 = 3 := by kernel_rfl
structure Queue where
  room : Int
  closed : Bool
  tasks : List Task
  deriving DecidableEq
abbrev Queue.cells (d : Queue) : List AV := [.lit (.int .i64 d.room), .lit (.bool d.closed), .ro (d.tasks.map Task.cells)]
def Queue.Wf (d : Queue) : Prop := (-9223372036854775808 ≤ d.room ∧ d.room ≤ 9223372036854775807) ∧ True ∧ ((∀ y ∈ d.tasks, y.Wf) ∧ d.tasks.length ≤ 9223372036854775807)
theorem op63 (h : Opens Try.prog W 63 cs) : ∃ xs, RVL (cx0 W) xs cs ∧ ∃ d : Queue, xs = d.cells ∧ d.Wf := by
  obtain ⟨hl, hf⟩ := op_struct Try.underlying63 cells63 h
  obtain ⟨c0, t0, rfl, g0⟩ := len_succ hl
  obtain ⟨c1, t1, rfl, g1⟩ := len_succ g0
  obtain ⟨c2, t2, rfl, g2⟩ := len_succ g1
  obtain rfl := List.length_eq_zero_iff.1 g2
  have h0 : Opens Try.prog W 3 [c0] := by have := hf 0 _ rfl; simpa [cells3] using this
  obtain ⟨x0, r0, d0, rfl, w0⟩ := op3 h0
  have h1 : Opens Try.prog W 4 [c1] := by have := hf 1 _ rfl; simpa [cells4] using this
  obtain ⟨x1, r1, d1, rfl, w1⟩ := op4 h1
  have h2 : Opens Try.prog W 61 [c2] := by have := hf 2 _ rfl; simpa [cells61] using this
  obtain ⟨x2, r2, d2, rfl, w2⟩ := op61 h2
  exact ⟨_, (r0.append (r1.append r2)), ⟨d0, d1, d2⟩, rfl, w0, w1, w2⟩
theorem cells83 : Try.prog.cellsOf 83 = 3 := by kernel_rfl
structure Tri where
  a : Int
  b : Int
  c : Int
  deriving DecidableEq
abbrev Tri.cells (d : Tri) : List AV := [.lit (.int .i64 d.a), .lit (.int .i64 d.b), .lit (.int .i64 d.c)]
def Tri.Wf (d : Tri) : Prop := (-9223372036854775808 ≤ d.a ∧ d.a ≤ 9223372036854775807) ∧ (-9223372036854775808 ≤ d.b ∧ d.b ≤ 9223372036854775807) ∧ (-9223372036854775808 ≤ d.c ∧ d.c ≤ 9223372036854775807)
theorem op83 (h : Opens Try.prog W 83 cs) : ∃ xs, RVL (cx0 W) xs cs ∧ ∃ d : Tri, xs = d.cells ∧ d.Wf := by
  obtain ⟨hl, hf⟩ := op_array Try.underlying83 cells83 h
  obtain ⟨c0, t0, rfl, g0⟩ := len_succ hl
  obtain ⟨c1, t1, rfl, g1⟩ := len_succ g0
  obtain ⟨c2, t2, rfl, g2⟩ := len_succ g1
  obtain rfl := List.length_eq_zero_iff.1 g2
  have h0 : Opens Try.prog W 3 [c0] := by have := hf 0 (by decide); simpa [cells3] using this
  obtain ⟨x0, r0, d0, rfl, w0⟩ := op3 h0
  have h1 : Opens Try.prog W 3 [c1] := by have := hf 1 (by decide); simpa [cells3] using this
  obtain ⟨x1, r1, d1, rfl, w1⟩ := op3 h1
  have h2 : Opens Try.prog W 3 [c2] := by have := hf 2 (by decide); simpa [cells3] using this
  obtain ⟨x2, r2, d2, rfl, w2⟩ := op3 h2
  exact ⟨_, (r0.append (r1.append r2)), ⟨d0, d1, d2⟩, rfl, w0, w1, w2⟩
theorem cells64 : Try.prog.cellsOf 64 = 1 := by kernel_rfl
theorem op64 (h : Opens Try.prog W 64 cs) : ∃ xs, RVL (cx0 W) xs cs ∧ ∃ d : List Tri, xs = [.ro (d.map Tri.cells)] ∧ ((∀ y ∈ d, y.Wf) ∧ d.length ≤ 9223372036854775807) := by
  obtain ⟨xs, hr, es, rfl, hw, hl⟩ := op_slice (F := fun xs => ∃ d, xs = Tri.cells d ∧ d.Wf) Try.underlying64 cells83 (by decide) (fun cs h => op83 h) h
  obtain ⟨ds, rfl, hq⟩ := all_form hw
  exact ⟨_, hr, ds, rfl, hq, by rw [List.length_map] at hl; exact maxLen_le hl⟩
theorem cells108 : Try.prog.cellsOf 108 = 5 := by kernel_rfl
structure Event where
  kind : Int
  who : Int
  key : Int
  val : Int
  has : Bool
  deriving DecidableEq
abbrev Event.cells (d : Event) : List AV := [.lit (.int .i64 d.kind), .lit (.int .i64 d.who), .lit (.int .i64 d.key), .lit (.int .i64 d.val), .lit (.bool d.has)]
def Event.Wf (d : Event) : Prop := (-9223372036854775808 ≤ d.kind ∧ d.kind ≤ 9223372036854775807) ∧ (-9223372036854775808 ≤ d.who ∧ d.who ≤ 9223372036854775807) ∧ (-9223372036854775808 ≤ d.key ∧ d.key ≤ 9223372036854775807) ∧ (-9223372036854775808 ≤ d.val ∧ d.val ≤ 9223372036854775807) ∧ True
theorem op108 (h : Opens Try.prog W 108 cs) : ∃ xs, RVL (cx0 W) xs cs ∧ ∃ d : Event, xs = d.cells ∧ d.Wf := by
  obtain ⟨hl, hf⟩ := op_struct Try.underlying108 cells108 h
  obtain ⟨c0, t0, rfl, g0⟩ := len_succ hl
  obtain ⟨c1, t1, rfl, g1⟩ := len_succ g0
  obtain ⟨c2, t2, rfl, g2⟩ := len_succ g1
  obtain ⟨c3, t3, rfl, g3⟩ := len_succ g2
  obtain ⟨c4, t4, rfl, g4⟩ := len_succ g3
  obtain rfl := List.length_eq_zero_iff.1 g4
  have h0 : Opens Try.prog W 3 [c0] := by have := hf 0 _ rfl; simpa [cells3] using this
  obtain ⟨x0, r0, d0, rfl, w0⟩ := op3 h0
  have h1 : Opens Try.prog W 3 [c1] := by have := hf 1 _ rfl; simpa [cells3] using this
  obtain ⟨x1, r1, d1, rfl, w1⟩ := op3 h1
  have h2 : Opens Try.prog W 3 [c2] := by have := hf 2 _ rfl; simpa [cells3] using this
  obtain ⟨x2, r2, d2, rfl, w2⟩ := op3 h2
  have h3 : Opens Try.prog W 3 [c3] := by have := hf 3 _ rfl; simpa [cells3] using this
  obtain ⟨x3, r3, d3, rfl, w3⟩ := op3 h3
  have h4 : Opens Try.prog W 4 [c4] := by have := hf 4 _ rfl; simpa [cells4] using this
  obtain ⟨x4, r4, d4, rfl, w4⟩ := op4 h4
  exact ⟨_, (r0.append (r1.append (r2.append (r3.append r4)))), ⟨d0, d1, d2, d3, d4⟩, rfl, w0, w1, w2, w3, w4⟩
theorem cells88 : Try.prog.cellsOf 88 = 1 := by kernel_rfl
theorem op88 (h : Opens Try.prog W 88 cs) : ∃ xs, RVL (cx0 W) xs cs ∧ ∃ d : List Event, xs = [.ro (d.map Event.cells)] ∧ ((∀ y ∈ d, y.Wf) ∧ d.length ≤ 9223372036854775807) := by
  obtain ⟨xs, hr, es, rfl, hw, hl⟩ := op_slice (F := fun xs => ∃ d, xs = Event.cells d ∧ d.Wf) Try.underlying88 cells108 (by decide) (fun cs h => op108 h) h
  obtain ⟨ds, rfl, hq⟩ := all_form hw
  exact ⟨_, hr, ds, rfl, hq, by rw [List.length_map] at hl; exact maxLen_le hl⟩
theorem cells155 : Try.prog.cellsOf 155 = 4 := by kernel_rfl
structure Quad where
  a : Int
  b : Int
  c : Int
  d : Int
  deriving DecidableEq
abbrev Quad.cells (d : Quad) : List AV := [.lit (.int .i64 d.a), .lit (.int .i64 d.b), .lit (.int .i64 d.c), .lit (.int .i64 d.d)]
def Quad.Wf (d : Quad) : Prop := (-9223372036854775808 ≤ d.a ∧ d.a ≤ 9223372036854775807) ∧ (-9223372036854775808 ≤ d.b ∧ d.b ≤ 9223372036854775807) ∧ (-9223372036854775808 ≤ d.c ∧ d.c ≤ 9223372036854775807) ∧ (-9223372036854775808 ≤ d.d ∧ d.d ≤ 9223372036854775807)
theorem op155 (h : Opens Try.prog W 155 cs) : ∃ xs, RVL (cx0 W) xs cs ∧ ∃ d : Quad, xs = d.cells ∧ d.Wf := by
  obtain ⟨hl, hf⟩ := op_array Try.underlying155 cells155 h
  obtain ⟨c0, t0, rfl, g0⟩ := len_succ hl
  obtain ⟨c1, t1, rfl, g1⟩ := len_succ g0
  obtain ⟨c2, t2, rfl, g2⟩ := len_succ g1
  obtain ⟨c3, t3, rfl, g3⟩ := len_succ g2
  obtain rfl := List.length_eq_zero_iff.1 g3
  have h0 : Opens Try.prog W 3 [c0] := by have := hf 0 (by decide); simpa [cells3] using this
  obtain ⟨x0, r0, d0, rfl, w0⟩ := op3 h0
  have h1 : Opens Try.prog W 3 [c1] := by have := hf 1 (by decide); simpa [cells3] using this
  obtain ⟨x1, r1, d1, rfl, w1⟩ := op3 h1
  have h2 : Opens Try.prog W 3 [c2] := by have := hf 2 (by decide); simpa [cells3] using this
  obtain ⟨x2, r2, d2, rfl, w2⟩ := op3 h2
  have h3 : Opens Try.prog W 3 [c3] := by have := hf 3 (by decide); simpa [cells3] using this
  obtain ⟨x3, r3, d3, rfl, w3⟩ := op3 h3
  exact ⟨_, (r0.append (r1.append (r2.append r3))), ⟨d0, d1, d2, d3⟩, rfl, w0, w1, w2, w3⟩
theorem cells89 : Try.prog.cellsOf 89 = 1 := by kernel_rfl
theorem op89 (h : Opens Try.prog W 89 cs) : ∃ xs, RVL (cx0 W) xs cs ∧ ∃ d : List Quad, xs = [.ro (d.map Quad.cells)] ∧ ((∀ y ∈ d, y.Wf) ∧ d.length ≤ 9223372036854775807) := by
  obtain ⟨xs, hr, es, rfl, hw, hl⟩ := op_slice (F := fun xs => ∃ d, xs = Quad.cells d ∧ d.Wf) Try.underlying89 cells155 (by decide) (fun cs h => op155 h) h
  obtain ⟨ds, rfl, hq⟩ := all_form hw
  exact ⟨_, hr, ds, rfl, hq, by rw [List.length_map] at hl; exact maxLen_le hl⟩
theorem cells103 : Try.prog.cellsOf 103 = 7 := by kernel_rfl
structure Call where
  put : Bool
  who : Int
  key : Int
  val : Int
  has : Bool
  frm : Int
  to : Int
  deriving DecidableEq
abbrev Call.cells (d : Call) : List AV := [.lit (.bool d.put), .lit (.int .i64 d.who), .lit (.int .i64 d.key), .lit (.int .i64 d.val), .lit (.bool d.has), .lit (.int .i64 d.frm), .lit (.int .i64 d.to)]
def Call.Wf (d : Call) : Prop := True ∧ (-9223372036854775808 ≤ d.who ∧ d.who ≤ 9223372036854775807) ∧ (-9223372036854775808 ≤ d.key ∧ d.key ≤ 9223372036854775807) ∧ (-9223372036854775808 ≤ d.val ∧ d.val ≤ 9223372036854775807) ∧ True ∧ (-9223372036854775808 ≤ d.frm ∧ d.frm ≤ 9223372036854775807) ∧ (-9223372036854775808 ≤ d.to ∧ d.to ≤ 9223372036854775807)
theorem op103 (h : Opens Try.prog W 103 cs) : ∃ xs, RVL (cx0 W) xs cs ∧ ∃ d : Call, xs = d.cells ∧ d.Wf := by
  obtain ⟨hl, hf⟩ := op_struct Try.underlying103 cells103 h
  obtain ⟨c0, t0, rfl, g0⟩ := len_succ hl
  obtain ⟨c1, t1, rfl, g1⟩ := len_succ g0
  obtain ⟨c2, t2, rfl, g2⟩ := len_succ g1
  obtain ⟨c3, t3, rfl, g3⟩ := len_succ g2
  obtain ⟨c4, t4, rfl, g4⟩ := len_succ g3
  obtain ⟨c5, t5, rfl, g5⟩ := len_succ g4
  obtain ⟨c6, t6, rfl, g6⟩ := len_succ g5
  obtain rfl := List.length_eq_zero_iff.1 g6
  have h0 : Opens Try.prog W 4 [c0] := by have := hf 0 _ rfl; simpa [cells4] using this
  obtain ⟨x0, r0, d0, rfl, w0⟩ := op4 h0
  have h1 : Opens Try.prog W 3 [c1] := by have := hf 1 _ rfl; simpa [cells3] using this
  obtain ⟨x1, r1, d1, rfl, w1⟩ := op3 h1
  have h2 : Opens Try.prog W 3 [c2] := by have := hf 2 _ rfl; simpa [cells3] using this
  obtain ⟨x2, r2, d2, rfl, w2⟩ := op3 h2
  have h3 : Opens Try.prog W 3 [c3] := by have := hf 3 _ rfl; simpa [cells3] using this
  obtain ⟨x3, r3, d3, rfl, w3⟩ := op3 h3
  have h4 : Opens Try.prog W 4 [c4] := by have := hf 4 _ rfl; simpa [cells4] using this
  obtain ⟨x4, r4, d4, rfl, w4⟩ := op4 h4
  have h5 : Opens Try.prog W 3 [c5] := by have := hf 5 _ rfl; simpa [cells3] using this
  obtain ⟨x5, r5, d5, rfl, w5⟩ := op3 h5
  have h6 : Opens Try.prog W 3 [c6] := by have := hf 6 _ rfl; simpa [cells3] using this
  obtain ⟨x6, r6, d6, rfl, w6⟩ := op3 h6
  exact ⟨_, (r0.append (r1.append (r2.append (r3.append (r4.append (r5.append r6)))))), ⟨d0, d1, d2, d3, d4, d5, d6⟩, rfl, w0, w1, w2, w3, w4, w5, w6⟩
theorem cells90 : Try.prog.cellsOf 90 = 1 := by kernel_rfl
theorem op90 (h : Opens Try.prog W 90 cs) : ∃ xs, RVL (cx0 W) xs cs ∧ ∃ d : List Call, xs = [.ro (d.map Call.cells)] ∧ ((∀ y ∈ d, y.Wf) ∧ d.length ≤ 9223372036854775807) := by
  obtain ⟨xs, hr, es, rfl, hw, hl⟩ := op_slice (F := fun xs => ∃ d, xs = Call.cells d ∧ d.Wf) Try.underlying90 cells103 (by decide) (fun cs h => op103 h) h
  obtain ⟨ds, rfl, hq⟩ := all_form hw
  exact ⟨_, hr, ds, rfl, hq, by rw [List.length_map] at hl; exact maxLen_le hl⟩
theorem cells115 : Try.prog.cellsOf 115 = 4 := by kernel_rfl
structure Fill where
  left : ByteArray
  right : ByteArray
  by_ : Int
  waiting : List Int
  deriving DecidableEq
abbrev Fill.cells (d : Fill) : List AV := [.lit (.string d.left), .lit (.string d.right), .lit (.int .i64 d.by_), .ro (d.waiting.map cI)]
def Fill.Wf (d : Fill) : Prop := (d.left.size ≤ 9223372036854775807) ∧ (d.right.size ≤ 9223372036854775807) ∧ (-9223372036854775808 ≤ d.by_ ∧ d.by_ ≤ 9223372036854775807) ∧ ((∀ y ∈ d.waiting, (-9223372036854775808 ≤ y ∧ y ≤ 9223372036854775807)) ∧ d.waiting.length ≤ 9223372036854775807)
theorem op115 (h : Opens Try.prog W 115 cs) : ∃ xs, RVL (cx0 W) xs cs ∧ ∃ d : Fill, xs = d.cells ∧ d.Wf := by
  obtain ⟨hl, hf⟩ := op_struct Try.underlying115 cells115 h
  obtain ⟨c0, t0, rfl, g0⟩ := len_succ hl
  obtain ⟨c1, t1, rfl, g1⟩ := len_succ g0
  obtain ⟨c2, t2, rfl, g2⟩ := len_succ g1
  obtain ⟨c3, t3, rfl, g3⟩ := len_succ g2
  obtain rfl := List.length_eq_zero_iff.1 g3
  have h0 : Opens Try.prog W 9 [c0] := by have := hf 0 _ rfl; simpa [cells9] using this
  obtain ⟨x0, r0, d0, rfl, w0⟩ := op9 h0
  have h1 : Opens Try.prog W 9 [c1] := by have := hf 1 _ rfl; simpa [cells9] using this
  obtain ⟨x1, r1, d1, rfl, w1⟩ := op9 h1
  have h2 : Opens Try.prog W 3 [c2] := by have := hf 2 _ rfl; simpa [cells3] using this
  obtain ⟨x2, r2, d2, rfl, w2⟩ := op3 h2
  have h3 : Opens Try.prog W 25 [c3] := by have := hf 3 _ rfl; simpa [cells25] using this
  obtain ⟨x3, r3, d3, rfl, w3⟩ := op25 h3
  exact ⟨_, (r0.append (r1.append (r2.append r3))), ⟨d0, d1, d2, d3⟩, rfl, w0, w1, w2, w3⟩
theorem cells112 : Try.prog.cellsOf 112 = 1 := by kernel_rfl
theorem op112 (h : Opens Try.prog W 112 cs) : ∃ xs, RVL (cx0 W) xs cs ∧ ∃ d : List Fill, xs = [.ro (d.map Fill.cells)] ∧ ((∀ y ∈ d, y.Wf) ∧ d.length ≤ 9223372036854775807) := by
  obtain ⟨xs, hr, es, rfl, hw, hl⟩ := op_slice (F := fun xs => ∃ d, xs = Fill.cells d ∧ d.Wf) Try.underlying112 cells115 (by decide) (fun cs h => op115 h) h
  obtain ⟨ds, rfl, hq⟩ := all_form hw
  exact ⟨_, hr, ds, rfl, hq, by rw [List.length_map] at hl; exact maxLen_le hl⟩
theorem cells113 : Try.prog.cellsOf 113 = 2 := by kernel_rfl
structure Two where
  a : Int
  b : Int
  deriving DecidableEq
abbrev Two.cells (d : Two) : List AV := [.lit (.int .i64 d.a), .lit (.int .i64 d.b)]
def Two.Wf (d : Two) : Prop := (-9223372036854775808 ≤ d.a ∧ d.a ≤ 9223372036854775807) ∧ (-9223372036854775808 ≤ d.b ∧ d.b ≤ 9223372036854775807)
theorem op113 (h : Opens Try.prog W 113 cs) : ∃ xs, RVL (cx0 W) xs cs ∧ ∃ d : Two, xs = d.cells ∧ d.Wf := by
  obtain ⟨hl, hf⟩ := op_array Try.underlying113 cells113 h
  obtain ⟨c0, t0, rfl, g0⟩ := len_succ hl
  obtain ⟨c1, t1, rfl, g1⟩ := len_succ g0
  obtain rfl := List.length_eq_zero_iff.1 g1
  have h0 : Opens Try.prog W 3 [c0] := by have := hf 0 (by decide); simpa [cells3] using this
  obtain ⟨x0, r0, d0, rfl, w0⟩ := op3 h0
  have h1 : Opens Try.prog W 3 [c1] := by have := hf 1 (by decide); simpa [cells3] using this
  obtain ⟨x1, r1, d1, rfl, w1⟩ := op3 h1
  exact ⟨_, (r0.append r1), ⟨d0, d1⟩, rfl, w0, w1⟩
end Go.Proofs.YtdlinfekifnmkaaAm
