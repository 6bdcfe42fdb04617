/- Small lemmas that the layers share. Conditions: none. -/
import Derived.Test.YtdlinfekifnmkaaAmKeys
set_option linter.unusedVariables false
set_option linter.unusedSimpArgs false
namespace Go.Proofs.YtdlinfekifnmkaaAm
open Go.Proofs
theorem take_next {α : Type} {l : List α} {i : Nat} {s : α} (h : l[i]? = some s) : l.take (i + 1) = l.take i ++ [s] := by rw [List.take_add_one, h]; rfl
theorem tdiv_range (c n : Int) (h1 : -9223372036854775808 ≤ c) (h2 : c ≤ 9223372036854775807) (h3 : 2 ≤ n) : -9223372036854775808 ≤ c.tdiv n ∧ c.tdiv n ≤ 9223372036854775807 := by
  by_cases h : 0 ≤ c
  · have := Int.ediv_nonneg h (show 0 ≤ n by omega)
    have := Int.ediv_le_self n h
    rw [Int.tdiv_eq_ediv_of_nonneg h]
    omega
  · obtain ⟨d, rfl⟩ : ∃ d, c = -d := ⟨-c, by omega⟩
    have hd : 0 ≤ d := by omega
    rw [Int.neg_tdiv, Int.tdiv_eq_ediv_of_nonneg hd]
    have := Int.ediv_nonneg hd (show 0 ≤ n by omega)
    have := Int.ediv_le_self n hd
    omega
theorem cI_at {ks : List Int} {i : Nat} (h : i < ks.length) : (ks.map cI)[i]? = some [.lit (.int .i64 (ks.getD i 0))] := by
  rw [List.getElem?_map, List.getElem?_eq_getElem h, List.getD_eq_getElem?_getD, List.getElem?_eq_getElem h]
  rfl
theorem awp_mid1 {P : Program} {c : Code} {Q : Exit → St → Prop} {t : List (Nat × AV)} {n : Nat} {H : Heap} (x : List (Nat × AV)) (h1 : AWP P c (fun e s => e = .normal ∧ Sub s ⟨x, n, H⟩) ⟨t, n, H⟩) (h2 : Q .normal ⟨x, n, H⟩) : AWP P c Q ⟨t, n, H⟩ := fun C a hr =>
  Code.wp_mono (fun e a' w' ⟨C', s', hw, hr', hl, hn, he, hs⟩ => by subst he; exact ⟨C', ⟨x, n, H⟩, hw, hr'.sub hs, hl, New.refl _ _, h2⟩) (h1 C a hr)
theorem bytes_ext {a b : ByteArray} (h : a.data.toList = b.data.toList) : a = b := by
  cases a; cases b
  simp at h
  rw [h]
theorem str_eq (a b : ByteArray) : (a.toList == b.toList) = decide (a = b) := by
  rw [ByteArray.toList_eq, ByteArray.toList_eq]
  by_cases h : a = b
  · subst h; simp
  · have : ¬ a.data.toList = b.data.toList := fun e => h (bytes_ext e)
    simp [h]
    intro e
    exact this (by rw [e])
end Go.Proofs.YtdlinfekifnmkaaAm
