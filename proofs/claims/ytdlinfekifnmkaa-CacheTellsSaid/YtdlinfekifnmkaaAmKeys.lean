/- The keys of the maps of this program. Conditions: none. -/
import Derived.Test.YtdlinfekifnmkaaAmSlices
set_option linter.unusedVariables false
set_option linter.unusedSimpArgs false
set_option maxRecDepth 20000
namespace Go.Proofs.YtdlinfekifnmkaaAm
open Go.Proofs

theorem chk_int {P : Program} {k : IntKind} {t : TypeId} (ht : P.underlying t = some (.int k)) (w : World) (em : Bool) (n : Nat) (m : Int) : (Instr.checkKey em (n + 1) t (.int k m)).run P w = .ok () w := by
  unfold Instr.checkKey
  simp only [Sem.run_bind, run_under ht, Result.andThen_ok]
  rfl
theorem chk29 (w : World) (em : Bool) (a b : Int) : (Instr.checkKey em 10000 29 (.agg #[.int .u64 a, .int .i64 b])).run Try.prog w = .ok () w := by
  show (Instr.checkKey em (9998 + 1 + 1) 29 (.agg #[.int .u64 a, .int .i64 b])).run Try.prog w = .ok () w
  rw [Instr.checkKey]
  simp only [Sem.run_bind, run_under Try.underlying29, Result.andThen_ok]
  simp [part_scalar ag22 (cs := #[.int .u64 a, .int .i64 b]) (off := 0) rfl w, part_scalar ag3 (cs := #[.int .u64 a, .int .i64 b]) (off := 1) rfl w, chk_int Try.underlying22, chk_int Try.underlying3]

/-- Keys that are compared by asking. -/
theorem KL.asking {P : Program} {k : TypeId} {td : TypeDesc} {D : Value → Prop} (hk : P.underlying k = some td) (hnow : ∀ x y, D x → D y → Instr.sameNow td x y = none)
    (hchk : ∀ (w : World) (em : Bool) {v : Value}, D v → (Instr.checkKey em 10000 k v).run P w = .ok () w)
    (heq : ∀ (w : World) {x y : Value}, D x → D y → ∃ b, (Op.equal k x y).run P w = .ok b w ∧ (b = true ↔ x = y))
    (hst : ∀ {v : Value}, D v → Instr.sameBits 10000 v v = true) : KL P k D where
  check := hchk
  stays := fun w v h => by simp [Instr.keyThatStays, hst h]
  find := fun w x hx es hes => by
    have ask : ∀ (es : List MapEntry) (i : Nat), (∀ e ∈ es, D e.key) → ((Instr.findAsking k x es i).run P w = .ok none w ∧ ∀ e ∈ es, e.key ≠ x) ∨ ∃ (j : Nat) (e : MapEntry), (Instr.findAsking k x es i).run P w = .ok (some (i + j, e.val)) w ∧ es[j]? = some e ∧ e.key = x := by
      intro es
      induction es with
      | nil => exact fun i _ => .inl ⟨rfl, by simp⟩
      | cons e es ih =>
        intro i he
        obtain ⟨b, hb, hiff⟩ := heq w hx (he e (by simp))
        cases b with
        | true => exact .inr ⟨0, e, by simp [Instr.findAsking, hb], rfl, (hiff.1 rfl).symm⟩
        | false =>
          have hne : e.key ≠ x := fun h => by have := hiff.2 h.symm; cases this
          rcases ih (i + 1) (fun e' he' => he e' (by simp [he'])) with ⟨h1, h2⟩ | ⟨j, e', h1, h2, h3⟩
          · refine .inl ⟨by simp [Instr.findAsking, hb, h1], fun e' he' => ?_⟩
            rcases List.mem_cons.1 he' with rfl | he'
            · exact hne
            · exact h2 e' he'
          · refine .inr ⟨j + 1, e', ?_, by simpa using h2, h3⟩
            simp [Instr.findAsking, hb, h1]
            omega
    cases es with
    | nil => exact .inl ⟨by simp [Instr.findKey, run_under hk, Instr.findNow], by simp⟩
    | cons e es =>
      have hn : Instr.findNow td x (e :: es) 0 = none := by simp [Instr.findNow, hnow x e.key hx (hes e (by simp))]
      rcases ask (e :: es) 0 hes with ⟨h1, h2⟩ | ⟨j, e', h1, h2, h3⟩
      · exact .inl ⟨by simp [Instr.findKey, run_under hk, hn, h1], h2⟩
      · exact .inr ⟨j, e', by simp [Instr.findKey, run_under hk, hn, h1], h2, h3⟩

def keyV (k : Key) : Value := .agg #[.int .u64 k.sum, .int .i64 k.len]
theorem keyV_inj {a b : Key} : keyV a = keyV b ↔ a = b := by
  constructor
  · intro h
    cases a; cases b
    simp [keyV] at h
    obtain ⟨rfl, rfl⟩ := h
    rfl
  · rintro rfl; rfl
def D29 (v : Value) : Prop := ∃ k : Key, v = keyV k
theorem KL29 : KL Try.prog 29 D29 := by
  refine KL.asking Try.underlying29 (fun x y _ _ => by cases x <;> cases y <;> rfl) (fun w em v h => ?_) (fun w x y hx hy => ?_) (fun {v} h => ?_)
  · obtain ⟨k, rfl⟩ := h
    exact chk29 w em _ _
  · obtain ⟨a, rfl⟩ := hx
    obtain ⟨b, rfl⟩ := hy
    refine ⟨(a.sum == b.sum) && (a.len == b.len), ?_, ?_⟩
    · show (Op.equalIn 10000 29 (.agg #[.int .u64 a.sum, .int .i64 a.len]) (.agg #[.int .u64 b.sum, .int .i64 b.len])).run Try.prog w = _
      exact eq29 w
    · rw [keyV_inj]
      cases a; cases b
      simp
  · obtain ⟨k, rfl⟩ := h
    show Instr.sameBits (9998 + 1 + 1) (keyV k) (keyV k) = true
    simp [Instr.sameBits, keyV]
theorem kv29 {a b : Int} : KV (.agg [.lit (.int .u64 a), .lit (.int .i64 b)]) (keyV ⟨a, b⟩) := KV.agg (vs := [.int .u64 a, .int .i64 b])
theorem KL3 : KL Try.prog 3 (fun v => ∃ n, v = .int .i64 n) := KL.int Try.underlying3
end Go.Proofs.YtdlinfekifnmkaaAm
