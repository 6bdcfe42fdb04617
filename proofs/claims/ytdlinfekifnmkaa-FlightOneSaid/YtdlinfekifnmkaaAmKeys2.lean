/- The keys of the maps of this program, second part: two texts. Conditions: none. -/
import Derived.Test.YtdlinfekifnmkaaAmBase
import Derived.DeepKeys2
set_option linter.unusedVariables false
set_option linter.unusedSimpArgs false
set_option maxRecDepth 20000
namespace Go.Proofs.YtdlinfekifnmkaaAm
open Go.Proofs
theorem chk_str {P : Program} {t : TypeId} (ht : P.underlying t = some .string) (w : World) (em : Bool) (n : Nat) (s : ByteArray) : (Instr.checkKey em (n + 1) t (.string s)).run P w = .ok () w := by
  unfold Instr.checkKey
  simp only [Sem.run_bind, run_under ht, Result.andThen_ok]
  rfl
theorem chk55 (w : World) (em : Bool) (a b : ByteArray) : (Instr.checkKey em 10000 55 (.agg #[.string a, .string b])).run Try.prog w = .ok () w := by
  show (Instr.checkKey em (9998 + 1 + 1) 55 (.agg #[.string a, .string b])).run Try.prog w = .ok () w
  rw [Instr.checkKey]
  simp only [Sem.run_bind, run_under Try.underlying55, Result.andThen_ok]
  simp [Std.Legacy.Range.forIn_eq_forIn_range', List.range', run_szOf sz9, part_scalar ag9 (cs := #[.string a, .string b]) (off := 0) rfl w, part_scalar ag9 (cs := #[.string a, .string b]) (off := 1) rfl w, chk_str Try.underlying9]
theorem eq55 (w : World) (a b c d : ByteArray) : (Op.equalIn 10000 55 (.agg #[.string a, .string b]) (.agg #[.string c, .string d])).run Try.prog w = .ok ((a.toList == c.toList) && (b.toList == d.toList)) w := by
  show (Op.equalIn (9998 + 1 + 1) 55 (.agg #[.string a, .string b]) (.agg #[.string c, .string d])).run Try.prog w = _
  rw [Op.equalIn]
  simp only [Sem.run_bind, run_under Try.underlying55, Result.andThen_ok]
  simp [Std.Legacy.Range.forIn_eq_forIn_range', List.range', run_szOf sz9, part_scalar ag9 (cs := #[.string a, .string b]) (off := 0) rfl w, part_scalar ag9 (cs := #[.string a, .string b]) (off := 1) rfl w, part_scalar ag9 (cs := #[.string c, .string d]) (off := 0) rfl w, part_scalar ag9 (cs := #[.string c, .string d]) (off := 1) rfl w, run_equalIn_string _ _ _ _ _ Try.underlying9]
  by_cases h1 : a.toList = c.toList <;> by_cases h2 : b.toList = d.toList <;> simp [h1, h2]
def ssV (k : ByteArray × ByteArray) : Value := .agg #[.string k.1, .string k.2]
theorem ssV_inj : ∀ a b : ByteArray × ByteArray, ssV a = ssV b → a = b := by
  rintro ⟨a, b⟩ ⟨c, d⟩ h
  simp [ssV] at h
  rw [h.1, h.2]
def D55 (v : Value) : Prop := ∃ k : ByteArray × ByteArray, v = ssV k
theorem KL55 : KL Try.prog 55 D55 := by
  refine KL.asking Try.underlying55 (fun x y _ _ => by cases x <;> cases y <;> rfl) (fun w em v h => ?_) (fun w x y hx hy => ?_) (fun {v} h => ?_)
  · obtain ⟨k, rfl⟩ := h
    exact chk55 w em _ _
  · obtain ⟨a, rfl⟩ := hx
    obtain ⟨b, rfl⟩ := hy
    refine ⟨(a.1.toList == b.1.toList) && (a.2.toList == b.2.toList), eq55 w _ _ _ _, ?_⟩
    constructor
    · intro h
      rw [str_eq, str_eq] at h
      simp only [Bool.and_eq_true, decide_eq_true_eq] at h
      exact congrArg ssV (Prod.ext h.1 h.2)
    · intro h
      rw [ssV_inj a b h]; simp
  · obtain ⟨k, rfl⟩ := h
    show Instr.sameBits (9998 + 1 + 1) (ssV k) (ssV k) = true
    simp [Instr.sameBits, ssV, beq_toListBytes]
theorem kvSS {a b : ByteArray} : KV (.agg [.lit (.string a), .lit (.string b)]) (ssV (a, b)) := KV.agg (vs := [.string a, .string b])
end Go.Proofs.YtdlinfekifnmkaaAm
