/- The abstract machine of these proofs, part 7: strings, slices, literals, equality of structs. Conditions: none. -/
import Derived.Test.YtdlinfekifnmkaaAmRun
import Derived.Laws.Strings
import Derived.Laws.Slices
import Derived.Laws.Build
set_option linter.unusedVariables false
set_option linter.unusedSimpArgs false
namespace Go.Proofs.YtdlinfekifnmkaaAm

/-- A byte of a string. -/
def byteAt (s : ByteArray) (i : Nat) : Int := ((s.data.toList.getD i 0).toNat : Int)
theorem byteAt_range (s : ByteArray) (i : Nat) : 0 ≤ byteAt s i ∧ byteAt s i ≤ 255 := by
  unfold byteAt
  have := (s.data.toList.getD i 0).toNat_lt
  omega

section
variable {P : Program} {ops : Array Oper} {Q : Exit → St → Prop} {l : List Oper} {t : List (Nat × AV)} {n : Nat} {H : Heap} {i : Nat} {op : Op} {ty : TypeId} {pos : String} {af : Array Edge} {g : Option (Nat × Bool)}
variable {d : Option Tmp} {ev : Operand → AV}

/-! ### Draws -/
theorem glq {n : Nat} {Hc Hv : Heap} {cl : List (Nat × Bool)} {K : List (Nat × AV) → Heap → Prop} {o : Oper} {r : AV} (ho : ops[i]? = some o) (hq : QOne P ops n Hc o t r) (hd : dOk o.dst n = true)
    (hk : GL P ops n Hc cl (putT t o.dst r) Hv K) : GL P ops n Hc ((i, false) :: cl) t Hv K := ⟨o, r, ho, hq, dOk_spec hd, hk⟩
theorem gla {n : Nat} {Hc Hv : Heap} {cl : List (Nat × Bool)} {K : List (Nat × AV) → Heap → Prop} {o : Oper} {R : AV → Heap → Prop} (ho : ops[i]? = some o) (hg : gd ops o t = some true)
    (he : EOp P o (St.eval ⟨t, n, Hc⟩) (Hc ++ Hv) (fun r H' => ∃ Hv', H' = Hc ++ Hv' ∧ R r Hv')) (hd : dOk o.dst n = true) (hk : ∀ r Hv', R r Hv' → GL P ops n Hc cl (putT t o.dst r) Hv' K) :
    GL P ops n Hc ((i, true) :: cl) t Hv K := ⟨o, R, ho, hg, he, dOk_spec hd, hk⟩

/-! ### Strings -/
theorem q_ixs {tt : TypeId} {x i : Operand} {s : ByteArray} {k : IntKind} {m : Int} (ht : P.underlying tt = some .string) (hx : ev x = .lit (.string s)) (hi : ev i = .lit (.int k m)) (h0 : 0 ≤ m) (h1 : m < s.size) :
    QOp P ⟨d, .index tt x i, ty, pos, af, g⟩ ev H (.lit (.int .u8 (byteAt s m.toNat))) :=
  qop_same (s := fun ρ => Instr.index tt (ρ x) (ρ i)) (fun ρ => rfl) fun C a ok hh he => by
    have h2 := he x (by simp [Op.operands])
    have h3 := he i (by simp [Op.operands])
    rw [hx] at h2
    rw [hi] at h3
    rw [rv_lit h2, rv_lit h3]
    have hlt : m.toNat < s.size := by omega
    have hlt2 : m.toNat < s.data.toList.length := by simpa using hlt
    refine ⟨.int .u8 (s[m.toNat].toNat : Nat), ?_, ?_⟩
    · unfold Instr.index asIntOf
      simp [run_under ht, h0, hlt]
    · have : byteAt s m.toNat = ((s[m.toNat].toNat : Nat) : Int) := by
        unfold byteAt
        rw [List.getD_eq_getElem?_getD, List.getElem?_eq_getElem hlt2]
        rfl
      rw [this]; exact .lit
/-- 's[lo:hi]'; a bound that is not there: 'none'. -/
def bnd (ev : Operand → AV) : Option Operand → Nat → Nat → Prop
  | none, dflt, v => v = dflt
  | some o, _, v => ∃ (k : IntKind) (m : Int), ev o = .lit (.int k m) ∧ m = (v : Int)
theorem q_slS {tt : TypeId} {x : Operand} {lo hi : Option Operand} {s : ByteArray} {l h : Nat} (ht : P.underlying tt = some .string) (hx : ev x = .lit (.string s)) (hl : bnd ev lo 0 l) (hh : bnd ev hi s.size h) (h1 : l ≤ h) (h2 : h ≤ s.size) :
    QOp P ⟨d, .slice tt x lo hi none, ty, pos, af, g⟩ ev H (.lit (.string (s.extract l h))) :=
  qop_same (s := fun ρ => Instr.sliceAt tt (ρ x) (lo.map ρ) (hi.map ρ) (Option.map ρ none)) (fun ρ => rfl) fun C a ok hhe he => by
    have h3 := he x (by simp [Op.operands])
    rw [hx] at h3
    rw [rv_lit h3]
    refine ⟨.string (s.extract l h), ?_, .lit⟩
    have hhi : ∀ v, v = hi.map a.eval → (v = none ∧ h = s.size) ∨ ∃ k, v = some (.int k (h : Int)) := by
      intro v hv
      subst hv
      cases hi with
      | none => exact .inl ⟨rfl, hh⟩
      | some o =>
        obtain ⟨k, m, h4, h5⟩ := hh
        have h6 := he o (by simp [Op.operands])
        rw [h4] at h6
        exact .inr ⟨k, by simp [rv_lit h6, h5]⟩
    have hlo : ∀ v, v = lo.map a.eval → (v = none ∧ l = 0) ∨ ∃ k, v = some (.int k (l : Int)) := by
      intro v hv
      subst hv
      cases lo with
      | none => exact .inl ⟨rfl, hl⟩
      | some o =>
        obtain ⟨k, m, h4, h5⟩ := hl
        have h6 := he o (by simp [Op.operands])
        rw [h4] at h6
        exact .inr ⟨k, by simp [rv_lit h6, h5]⟩
    unfold Instr.sliceAt
    simp only [run_under ht, Sem.run_bind, Result.andThen_ok]
    unfold Instr.slice Instr.sliceBounds Instr.sliceBound asIntOf
    rcases hlo _ rfl with ⟨e1, rfl⟩ | ⟨k1, e1⟩ <;> rcases hhi _ rfl with ⟨e2, rfl⟩ | ⟨k2, e2⟩ <;> simp [e1, e2, run_under ht, h1, h2]

/-! ### Places in slices and arrays -/
theorem q_iaN {tt e : TypeId} {x i : Operand} {es : List (List AV)} {k : IntKind} {m : Int} {sz : Nat} {c r : List AV} (ht : P.underlying tt = some (.slice e)) (hsz : szOf P e = some sz)
    (hx : ev x = .ro es ∨ ev x = .cro es) (hi : ev i = .lit (.int k m)) (h0 : 0 ≤ m) (he : es[m.toNat]? = some c) (hc : c.length = sz) (hz : 0 < sz) (hr : NL c r) : QOp P ⟨d, .indexAddr tt x i, ty, pos, af, g⟩ ev H (.ip r) :=
  hr.eq ▸ q_ia ht hsz hx hi (q := m.toNat) (by omega) he hc hz
theorem q_iaS {tt e : TypeId} {x i : Operand} {u l h : Nat} {k : IntKind} {m : Int} {sz j : Nat} (ht : P.underlying tt = some (.slice e)) (hsz : szOf P e = some sz)
    (hx : ev x = .sl u l h) {es : List (List AV)} (hq : HAt H u (.arr e sz es)) (hi : ev i = .lit (.int k m)) (h0 : 0 ≤ m) (h1 : l + m.toNat < h) (hj : l + m.toNat = j) : QOp P ⟨d, .indexAddr tt x i, ty, pos, af, g⟩ ev H (.ptr u j 0) :=
  qop_same (s := fun ρ => Instr.indexAt tt (ρ x) (ρ i)) (fun ρ => rfl) fun C a ok hh hev => by
    have h2 := hev x (by simp [Op.operands])
    have h3 := hev i (by simp [Op.operands])
    rw [hi] at h3
    rw [hx] at h2
    generalize a.eval x = v at h2
    cases h2 with
    | sl hu hlh hhc hA hn hcap =>
      obtain ⟨q, hq⟩ := hq.at
      obtain ⟨_, k1, _, _, _, k6⟩ := hh.at hq
      have hne : ¬ (C.ph u).cap = l := by omega
      have hA := hA hne
      rcases k6 with h0c | ⟨gb, off, arr, hA0, _⟩
      · omega
      · rw [hA0] at hA
        simp only [Option.map_some] at hA
        subst hA
        subst hn
        rw [rv_lit h3]
        refine ⟨_, run_indexAt_slice ht hsz h0 (by omega) C.w, ?_⟩
        rw [add_add, k1, ← Nat.add_mul, hj]
        have := RV.ptr (C := C) (u := u) (i := j) (off := 0) hu hA0
        rw [Nat.add_zero, k1] at this
        exact this
theorem q_iaA {tt e : TypeId} {x i : Operand} {u i0 off len o2 : Nat} {k : IntKind} {m : Int} {sz : Nat} (ht : P.underlying tt = some (.array len e)) (hsz : szOf P e = some sz) (hx : ev x = .ptr u i0 off) (hi : ev i = .lit (.int k m)) (h0 : 0 ≤ m) (h1 : m < len)
    (ho : off + m.toNat * sz = o2) : QOp P ⟨d, .indexAddr tt x i, ty, pos, af, g⟩ ev H (.ptr u i0 o2) :=
  qop_same (s := fun ρ => Instr.indexAt tt (ρ x) (ρ i)) (fun ρ => rfl) fun C a ok hh hev => by
    have h2 := hev x (by simp [Op.operands])
    have h3 := hev i (by simp [Op.operands])
    rw [hi] at h3
    rw [hx] at h2
    generalize a.eval x = v at h2
    cases h2 with
    | ptr hu ha =>
      rename_i a0
      rw [rv_lit h3]
      refine ⟨.pointer (some ((a0.add (i0 * (C.ph u).size + off)).add (m.toNat * sz))), ?_, ?_⟩
      · unfold Instr.indexAt asIntOf
        simp [run_under ht, run_szOf hsz, Instr.sureAddr, h0, h1]
      · rw [add_add, Nat.add_assoc, ho]
        exact .ptr hu ha
theorem q_ixA {tt e : TypeId} {x i : Operand} {cs r : List AV} {len sz : Nat} {k : IntKind} {m : Int} {y : AV} (ht : P.underlying tt = some (.array len e)) (hsz : szOf P e = some sz) (hag : isAg P e = some false) (hx : ev x = .agg cs) (hi : ev i = .lit (.int k m)) (h0 : 0 ≤ m) (h1 : m < len)
    (hy : cs[m.toNat * sz]? = some y) : QOp P ⟨d, .index tt x i, ty, pos, af, g⟩ ev H y :=
  qop_same (s := fun ρ => Instr.index tt (ρ x) (ρ i)) (fun ρ => rfl) fun C a ok hh hev => by
    have h2 := hev x (by simp [Op.operands])
    have h3 := hev i (by simp [Op.operands])
    rw [hi] at h3
    rw [hx] at h2
    generalize a.eval x = v at h2
    cases h2 with
    | agg hs hrv =>
      rename_i vs
      rw [rv_lit h3]
      have hlt : m.toNat * sz < vs.size := by rw [hs]; exact (List.getElem?_eq_some_iff.1 hy).1
      refine ⟨vs[m.toNat * sz], ?_, by simpa [hlt] using hrv _ y hy⟩
      unfold Instr.index asIntOf
      simp [run_under ht, run_szOf hsz, run_isAg hag, h0, h1, part, hlt]

/-- The length of an object's slice. -/
theorem q_lenO {x : Operand} {tt e e2 : TypeId} {u l h size m : Nat} {es : List (List AV)} (ht : P.underlying tt = some (.slice e)) (hx : ev x = .sl u l h) (hq : HAt H u (.arr e2 size es)) (hm : h ≤ es.length) (hle : h - l = m) :
    QOp P ⟨d, .call { callee := .builtin .len, args := #[x], argTypes := #[tt] }, ty, pos, af, g⟩ ev H (.lit (.int .i64 m)) := by
  obtain ⟨q, hq⟩ := hq.at
  have h1 : SV H (ev x) ((es.drop l).take (h - l)) := by rw [hx]; exact .sl hq hm
  have := q_len (P := P) (d := d) (ty := ty) (pos := pos) (af := af) (g := g) ht h1
  rw [List.length_take, List.length_drop, Nat.min_eq_left (by omega), hle] at this
  exact this

/-- 'xs[lo:hi]' of what is read. -/
theorem q_slR {tt e : TypeId} {x : Operand} {lo hi : Option Operand} {es : List (List AV)} {l h sz : Nat} (ht : P.underlying tt = some (.slice e)) (hsz : szOf P e = some sz) (hx : ev x = .ro es ∨ ev x = .cro es) (hl : bnd ev lo 0 l) (hh : bnd ev hi es.length h) (h1 : l ≤ h) (h2 : h ≤ es.length)
    (hes : ∀ c ∈ es, c.length = sz) : QOp P ⟨d, .slice tt x lo hi none, ty, pos, af, g⟩ ev H (.ro ((es.drop l).take (h - l))) :=
  qop_same (s := fun ρ => Instr.sliceAt tt (ρ x) (lo.map ρ) (hi.map ρ) (Option.map ρ none)) (fun ρ => rfl) fun C a ok hhe he => by
    have h3 := he x (by simp [Op.operands])
    have h3 : RV C (.ro es) (a.eval x) := by
      rcases hx with hx | hx
      · rwa [hx] at h3
      · rw [hx] at h3; cases h3 with | cro A hv h => exact h
    obtain ⟨A, m, cap, size, vs, hv, hm, hmc, hcm, hsizes, hcells, hcrv⟩ := cells_of_ro h3
    rw [hv]
    subst hm
    have hhi : ∀ v, v = hi.map a.eval → (v = none ∧ h = es.length) ∨ ∃ k, v = some (.int k (h : Int)) := by
      intro v hv
      subst hv
      cases hi with
      | none => exact .inl ⟨rfl, hh⟩
      | some o =>
        obtain ⟨k, m, h4, h5⟩ := hh
        have h6 := he o (by simp [Op.operands])
        rw [h4] at h6
        exact .inr ⟨k, by simp [rv_lit h6, h5]⟩
    have hlo : ∀ v, v = lo.map a.eval → (v = none ∧ l = 0) ∨ ∃ k, v = some (.int k (l : Int)) := by
      intro v hv
      subst hv
      cases lo with
      | none => exact .inl ⟨rfl, hl⟩
      | some o =>
        obtain ⟨k, m, h4, h5⟩ := hl
        have h6 := he o (by simp [Op.operands])
        rw [h4] at h6
        exact .inr ⟨k, by simp [rv_lit h6, h5]⟩
    refine ⟨.slice (if cap = l then A else A.map (·.add (l * sz))) (h - l) (cap - l), ?_, ?_⟩
    · unfold Instr.sliceAt
      simp only [run_under ht, Sem.run_bind, Result.andThen_ok]
      unfold Instr.slice Instr.sliceBounds Instr.sliceBound asIntOf
      have h2c : h ≤ cap := Nat.le_trans h2 hmc
      rcases hlo _ rfl with ⟨e1, rfl⟩ | ⟨k1, e1⟩ <;> rcases hhi _ rfl with ⟨e2, rfl⟩ | ⟨k2, e2⟩ <;> simp [e1, e2, run_under ht, run_szOf hsz, h1, h2c, hmc]
    · have hget : ∀ j c, ((es.drop l).take (h - l))[j]? = some c → j < h - l ∧ es[l + j]? = some c := fun j c hj => by
        have hlt : j < h - l := by
          have := (List.getElem?_eq_some_iff.1 hj).1
          simp at this; omega
        rw [List.getElem?_take_of_lt hlt, List.getElem?_drop] at hj
        exact ⟨hlt, hj⟩
      refine .ro (size := sz) (fun j => vs (l + j)) (by simp; omega) (by omega) (by omega) (fun c hc => hes c (List.mem_of_mem_drop (List.mem_of_mem_take hc))) (fun j c hj k x hx => ?_) (fun j c hj k x hx => ?_)
      · obtain ⟨hlt, hj'⟩ := hget j c hj
        have hne : ¬ cap = l := by omega
        rw [if_neg hne]
        obtain ⟨a0, rfl, hu, hc⟩ := hcells (l + j) c hj' k x hx
        have hsize : size = sz := by rw [← hes c (List.mem_of_getElem? hj'), hsizes c (List.mem_of_getElem? hj')]
        subst hsize
        refine ⟨a0.add (l * size), rfl, by rw [add_block]; exact hu, ?_⟩
        rw [add_add, ← Nat.add_assoc, ← Nat.add_mul]
        exact hc
      · obtain ⟨hlt, hj'⟩ := hget j c hj
        exact hcrv (l + j) c hj' k x hx
/-- The same of an object. -/
theorem q_slO {tt e : TypeId} {x : Operand} {lo hi : Option Operand} {es : List (List AV)} {u l0 h0 l h sz a b : Nat} (ht : P.underlying tt = some (.slice e)) (hsz : szOf P e = some sz) (hx : ev x = .sl u l0 h0) (hq : HAt H u (.arr e sz es)) (hl : bnd ev lo 0 l) (hh : bnd ev hi (h0 - l0) h)
    (h1 : l ≤ h) (h2 : h ≤ h0 - l0) (ha : l0 + l = a) (hb : l0 + h = b) : QOp P ⟨d, .slice tt x lo hi none, ty, pos, af, g⟩ ev H (.sl u a b) :=
  qop_same (s := fun ρ => Instr.sliceAt tt (ρ x) (lo.map ρ) (hi.map ρ) (Option.map ρ none)) (fun ρ => rfl) fun C ac ok hhe he => by
    have h3 := he x (by simp [Op.operands])
    rw [hx] at h3
    generalize hv : ac.eval x = v at h3
    cases h3 with
    | sl hu hlh hhc hA hn hcap =>
      rename_i A n c
      obtain ⟨q, hq⟩ := hq.at
      have hsize := (hhe.at hq).2.1
      have hhi : ∀ v, v = hi.map ac.eval → (v = none ∧ h = n) ∨ ∃ k, v = some (.int k (h : Int)) := by
        intro v hv
        subst hv
        cases hi with
        | none => exact .inl ⟨rfl, by rw [hn]; exact hh⟩
        | some o =>
          obtain ⟨k, m, h4, h5⟩ := hh
          have h6 := he o (by simp [Op.operands])
          rw [h4] at h6
          exact .inr ⟨k, by simp [rv_lit h6, h5]⟩
      have hlo : ∀ v, v = lo.map ac.eval → (v = none ∧ l = 0) ∨ ∃ k, v = some (.int k (l : Int)) := by
        intro v hv
        subst hv
        cases lo with
        | none => exact .inl ⟨rfl, hl⟩
        | some o =>
          obtain ⟨k, m, h4, h5⟩ := hl
          have h6 := he o (by simp [Op.operands])
          rw [h4] at h6
          exact .inr ⟨k, by simp [rv_lit h6, h5]⟩
      refine ⟨.slice (if c = l then A else A.map (·.add (l * sz))) (h - l) (c - l), ?_, ?_⟩
      · unfold Instr.sliceAt
        simp only [run_under ht, Sem.run_bind, Result.andThen_ok]
        unfold Instr.slice Instr.sliceBounds Instr.sliceBound asIntOf
        have h2c : h ≤ c := by omega
        have h2n : n ≤ c := by omega
        rcases hlo _ rfl with ⟨e1, rfl⟩ | ⟨k1, e1⟩ <;> rcases hhi _ rfl with ⟨e2, rfl⟩ | ⟨k2, e2⟩ <;> simp [e1, e2, run_under ht, run_szOf hsz, h1, h2c, h2n]
      · subst ha
        subst hb
        refine .sl hu (by omega) (by omega) (fun hne => ?_) (by omega) (by omega)
        subst hcap
        rw [if_neg (by omega), hA (by omega), hsize, Option.map_map]
        congr 1
        funext a0
        simp [add_add, Nat.add_mul]
end

end Go.Proofs.YtdlinfekifnmkaaAm
