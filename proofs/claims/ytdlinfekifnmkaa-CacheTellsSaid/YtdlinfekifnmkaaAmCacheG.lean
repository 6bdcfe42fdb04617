/- Caches small enough, and what layer 14 asks of itself. Conditions: none. -/
import Derived.Test.YtdlinfekifnmkaaAmCacheF
set_option linter.unusedVariables false
set_option linter.unusedSimpArgs false
set_option maxRecDepth 20000
namespace Go.Proofs.YtdlinfekifnmkaaAm
open Go.Proofs
section
variable {c c' : Cach} {l r v g : ByteArray} {p q w e : Int} {H : Heap}
theorem get116_p (hl : CLen c) (hsz : l.size + r.size ≤ 1000000000) (h : getC c l r = (g, c', e)) : QCall Try.prog 116 [.agg c.cells, .lit (.string l), .lit (.string r)] H (.tup [.lit (.string g), .agg c'.cells, .lit (.int .i64 e)]) := by
  have := get116_c c hl l r hsz H
  rw [h] at this; exact this
theorem get117_p (hl : CLen c) (hsz : l.size + r.size ≤ 1000000000) (h : getC c l r = (g, c', e)) : QCall Try.prog 117 [.agg c.cells, .lit (.string l), .lit (.string r)] H (.tup [.lit (.string g), .agg c'.cells, .lit (.int .i64 e)]) := by
  have := get117_c c hl l r hsz H
  rw [h] at this; exact this
theorem put118_p (hl : CLen c) (hsz : l.size + r.size ≤ 1000000000) (h : putC c l r v = (c', e)) : QCall Try.prog 118 [.agg c.cells, .lit (.string l), .lit (.string r), .lit (.string v)] H (.tup [.agg c'.cells, .lit (.int .i64 e)]) := by
  have := put118_c c hl l r v hsz H
  rw [h] at this; exact this
theorem put119_p (hl : CLen c) (hsz : l.size + r.size ≤ 1000000000) (h : putC c l r v = (c', e)) : QCall Try.prog 119 [.agg c.cells, .lit (.string l), .lit (.string r), .lit (.string v)] H (.tup [.agg c'.cells, .lit (.int .i64 e)]) := by
  have := put119_c c hl l r v hsz H
  rw [h] at this; exact this
theorem new107_p (h : newC p q w = (c', e)) : QCall Try.prog 107 [.lit (.int .i64 p), .lit (.int .i64 q), .lit (.int .i64 w)] H (.tup [.agg c'.cells, .lit (.int .i64 e)]) := by
  have := new107_c p q w H
  rw [h] at this; exact this
theorem new108_p (h : newC p q w = (c', e)) : QCall Try.prog 108 [.lit (.int .i64 p), .lit (.int .i64 q), .lit (.int .i64 w)] H (.tup [.agg c'.cells, .lit (.int .i64 e)]) := by
  have := new108_c p q w H
  rw [h] at this; exact this
end
/-- Right, and its texts are short. -/
structure CGood (c : Cach) : Prop where
  right : CRight c
  t : ∀ j, ∀ s ∈ pt c j, s.left.size + s.right.size ≤ 1000
theorem CGood.clen {c : Cach} (h : CGood c) : CLen c := by
  have hr := h.right
  refine ⟨by have := hr.n16; omega, fun j => ?_, fun j s hs => by have := h.t j s hs; omega, fun j s hs => ?_⟩
  · by_cases hj : j < c.parts.length
    · have h1 := hr.len j hj
      have h2 := room_le hr.n1 hr.room
      have h3 : c.room / c.parts.length ≤ 4096 := by
        have := Int.ediv_le_self (b := (c.parts.length : Int)) hr.room.1 
        have := hr.room
        omega
      unfold roomOf at h1
      split at h1 <;> omega
    · rw [pt_nil hj]; simp
  · by_cases hj : j < c.parts.length
    · rw [(hr.key j hj s hs).1]; exact both_range _ _ _
    · rw [pt_nil hj] at hs; simp at hs
theorem good_get {c : Cach} (h : CGood c) (l r : ByteArray) : CGood (getC c l r).2.1 :=
  ⟨get_cright h.right l r, fun j s hs => h.t j s (((get_parts h.right l r).2.2.2.2 j s).1 hs)⟩
theorem good_put {c : Cach} (h : CGood c) {l r : ByteArray} (hs : l.size + r.size ≤ 1000) (v : ByteArray) : CGood (putC c l r v).1 :=
  ⟨put_cright h.right l r v, fun j s hm => by
    rcases put_mem h.right hm with rfl | ⟨h1, _⟩
    · exact hs
    · exact h.t j s h1⟩
theorem good_rep {w r : Int} {n : Nat} {a b d e : Int} (h : CRight ⟨w, r, List.replicate n [], a, b, d, e⟩) : CGood ⟨w, r, List.replicate n [], a, b, d, e⟩ := ⟨h, fun j s hs => by rw [pt_rep] at hs; simp at hs⟩
theorem good_dec {c : Cach} (h : cRight c = true) (ht : c.parts.all (fun l => l.all fun s => decide (s.left.size + s.right.size ≤ 1000)) = true) : CGood c := by
  refine ⟨cright_iff.1 h, fun j s hs => ?_⟩
  by_cases hj : j < c.parts.length
  · have h1 := pt_get hj
    have h2 := List.all_eq_true.1 ht _ (List.mem_of_getElem? h1)
    have h3 := List.all_eq_true.1 h2 _ hs
    simpa using h3
  · rw [pt_nil hj] at hs; simp at hs
theorem clen_zero : CLen zeroC := ⟨by simp [zeroC], fun j => by rw [pt_nil (by simp [zeroC])]; simp, fun j s hs => by rw [pt_nil (by simp [zeroC])] at hs; simp at hs, fun j s hs => by rw [pt_nil (by simp [zeroC])] at hs; simp at hs⟩
set_option maxHeartbeats 16000000 in
theorem awake105_c : QCall Try.prog 105 [] [] (.lit (.bool true)) := by
  obtain ⟨c0, h0⟩ : ∃ c, c = (⟨0, 1, [[]], 0, 0, 0, 0⟩ : Cach) := ⟨_, rfl⟩
  obtain ⟨c1, h1⟩ : ∃ c, c = (⟨0, 1, [[⟨⟨0, 2⟩, ⟨#[97]⟩, ⟨#[98]⟩, ⟨#[118]⟩⟩]], 0, 0, 0, 0⟩ : Cach) := ⟨_, rfl⟩
  obtain ⟨c2, h2⟩ : ∃ c, c = (⟨0, 1, [[⟨⟨0, 2⟩, ⟨#[97]⟩, ⟨#[98]⟩, ⟨#[118]⟩⟩]], 1, 0, 0, 0⟩ : Cach) := ⟨_, rfl⟩
  obtain ⟨c3, h3⟩ : ∃ c, c = (⟨0, 1, [[⟨⟨0, 2⟩, ⟨#[97]⟩, ⟨#[98]⟩, ⟨#[118]⟩⟩]], 1, 0, 1, 0⟩ : Cach) := ⟨_, rfl⟩
  obtain ⟨c4, h4⟩ : ∃ c, c = (⟨0, 1, [[⟨⟨0, 2⟩, ⟨#[97]⟩, ⟨#[98]⟩, ⟨#[118]⟩⟩]], 1, 1, 1, 0⟩ : Cach) := ⟨_, rfl⟩
  obtain ⟨c5, h5⟩ : ∃ c, c = (⟨0, 1, [[⟨⟨0, 2⟩, ⟨#[99]⟩, ⟨#[100]⟩, ⟨#[119]⟩⟩]], 1, 1, 1, 0⟩ : Cach) := ⟨_, rfl⟩
  have l0 : CLen c0 := (good_dec (by rw [h0]; decide +kernel) (by rw [h0]; decide +kernel)).clen
  have l1 : CLen c1 := (good_dec (by rw [h1]; decide +kernel) (by rw [h1]; decide +kernel)).clen
  have l2 : CLen c2 := (good_dec (by rw [h2]; decide +kernel) (by rw [h2]; decide +kernel)).clen
  have l3 : CLen c3 := (good_dec (by rw [h3]; decide +kernel) (by rw [h3]; decide +kernel)).clen
  have l4 : CLen c4 := (good_dec (by rw [h4]; decide +kernel) (by rw [h4]; decide +kernel)).clen
  have l5 : CLen c5 := (good_dec (by rw [h5]; decide +kernel) (by rw [h5]; decide +kernel)).clen
  have e0 : newC 1 1 0 = (c0, 0) := by rw [h0]; decide +kernel
  have e1 : putC c0 ⟨#[97]⟩ ⟨#[98]⟩ ⟨#[118]⟩ = (c1, 0) := by rw [h0, h1]; decide +kernel
  have e2 : getC c1 ⟨#[97]⟩ ⟨#[98]⟩ = (⟨#[118]⟩, c2, 0) := by rw [h1, h2]; decide +kernel
  have e3 : getC c2 ⟨#[99]⟩ ⟨#[100]⟩ = (⟨#[]⟩, c3, 10) := by rw [h2, h3]; decide +kernel
  have e4 : getC c3 ⟨#[99]⟩ ⟨#[]⟩ = (⟨#[]⟩, c4, 10) := by rw [h3, h4]; decide +kernel
  have e5 : putC c4 ⟨#[99]⟩ ⟨#[100]⟩ ⟨#[119]⟩ = (c5, 0) := by rw [h4, h5]; decide +kernel
  have e6 : newC 0 1 1 = (zeroC, 1) := by decide +kernel
  have e7 : getC zeroC ⟨#[]⟩ ⟨#[]⟩ = (⟨#[]⟩, zeroC, 1) := by decide +kernel
  have e8 : cRight c5 = true := by rw [h5]; decide +kernel
  have e9 : cRight zeroC = false := by decide +kernel
  have ea : sizeC c5 = 1 := by rw [h5]; decide +kernel
  have g2 : c2.hits = 1 := by rw [h2]
  have g3 : c3.clashes = 1 := by rw [h3]
  have g4 : c4.misses = 1 := by rw [h4]
  have g5 : c5.evicted = 0 := by rw [h5]
  refine acall_intro (n := 131) (rvs := [.tmp 0]) Try.func105 rfl rfl rfl (Nat.le_of_ble_eq_true rfl) ?_
  refine awp_seq ?_
  refine awp_region ?_
  refine aqs rfl (q_as (by constructor)) rfl ?_
  refine alist_nil ?_
  show AWP _ _ _ _
  refine awp_seq ?_
  refine awp_region ?_
  first | refine aqs rfl (e_callN cb107 (e0 ▸ new107_c 1 1 0 _) rfl rfl) rfl ?_ | refine aqs rfl (e_callN cb107 (ACall.arg (e0 ▸ new107_c 1 1 0 _) (by repeat (first | exact ArgL.nil | (apply ArgL.cons; (· first | exact .same | exact .cro | exact .nil))))) rfl rfl) rfl ?_
  refine aqs rfl (q_mv (by constructor)) rfl ?_
  refine aqs rfl (q_ex rfl rfl (by constructor)) rfl ?_
  refine aqs rfl (q_ex rfl rfl (by constructor)) rfl ?_
  (refine aes rfl (e_al (xs := [.lit (.int .i64 0), .lit (.int .i64 0), .lit (.slice none 0 0), .lit (.int .i64 0), .lit (.int .i64 0), .lit (.int .i64 0), .lit (.int .i64 0)]) (k := 7) zr136 (.same _) rfl) rfl ?_; rintro _ _ ⟨u1, rfl, rfl⟩)
  first | (refine aen rfl (e_stW sz136 rfl (by repeat (first | exact .here | assumption | (apply HAt.left; assumption) | apply HAt.there | apply HAt.right)) (by constructor) (by first | rfl | assumption | (simp [*]; done) | fail) rfl (by repeat (first | exact .here | apply HSet.there))) ?_; rintro _ _ ⟨rfl, rfl⟩) | (refine aen rfl (e_stP sz136 rfl (by repeat (first | exact .here | assumption | (apply HAt.left; assumption) | apply HAt.there | apply HAt.right)) (by first | rfl | assumption | (simp [*]; done) | fail) (by constructor) (by first | rfl | assumption | (simp [*]; done) | fail) rfl (by first | decide | omega) (by first | ((repeat constructor); done) | exact .same _) (by first | exact .one | exact .set) (by repeat (first | exact .here | apply HSet.there))) ?_; rintro _ _ ⟨rfl, rfl⟩)
  refine aqs rfl (q_as (by constructor)) rfl ?_
  refine alist_nil ?_
  show AWP _ _ _ _
  refine awp_seq ?_
  refine awp_region ?_
  first | refine aqs rfl (q_ldpW ag136 sz136 rfl (by repeat (first | exact .here | assumption | (apply HAt.left; assumption) | apply HAt.there | apply HAt.right)) (by first | rfl | assumption | (simp [*]; done) | fail) (by first | rfl | assumption | (simp [*]; done) | fail) (by decide)) rfl ?_ | refine aqs rfl (q_ldW ag136 sz136 rfl (by first | rfl | assumption | (simp [*]; done) | fail)) rfl ?_ | refine aqs rfl (q_ldpP ag136 sz136 rfl (by repeat (first | exact .here | assumption | (apply HAt.left; assumption) | apply HAt.there | apply HAt.right)) (by first | rfl | assumption | (simp [*]; done) | fail) (by first | decide | (simp; done) | omega | fail) (by decide) (by first | ((repeat constructor); done) | exact .same _)) rfl ?_ | refine aqs rfl (q_ldP ag136 sz136 rfl (by first | decide | (simp; done) | omega | fail) (by first | ((repeat constructor); done) | exact .same _)) rfl ?_
  first | refine aqs rfl (e_callN cb118 (e1 ▸ put118_c c0 l0 ⟨#[97]⟩ ⟨#[98]⟩ ⟨#[118]⟩ (by decide) _) rfl rfl) rfl ?_ | refine aqs rfl (e_callN cb118 (ACall.arg (e1 ▸ put118_c c0 l0 ⟨#[97]⟩ ⟨#[98]⟩ ⟨#[118]⟩ (by decide) _) (by repeat (first | exact ArgL.nil | (apply ArgL.cons; (· first | exact .same | exact .cro | exact .nil))))) rfl rfl) rfl ?_
  refine aqs rfl (q_mv (by constructor)) rfl ?_
  refine aqs rfl (q_ex rfl rfl (by constructor)) rfl ?_
  refine aqs rfl (q_ex rfl rfl (by constructor)) rfl ?_
  (refine aes rfl (e_al (xs := [.lit (.int .i64 0), .lit (.int .i64 0), .lit (.slice none 0 0), .lit (.int .i64 0), .lit (.int .i64 0), .lit (.int .i64 0), .lit (.int .i64 0)]) (k := 7) zr136 (.same _) rfl) rfl ?_; rintro _ _ ⟨u3, rfl, rfl⟩)
  first | (refine aen rfl (e_stW sz136 rfl (by repeat (first | exact .here | assumption | (apply HAt.left; assumption) | apply HAt.there | apply HAt.right)) (by constructor) (by first | rfl | assumption | (simp [*]; done) | fail) rfl (by repeat (first | exact .here | apply HSet.there))) ?_; rintro _ _ ⟨rfl, rfl⟩) | (refine aen rfl (e_stP sz136 rfl (by repeat (first | exact .here | assumption | (apply HAt.left; assumption) | apply HAt.there | apply HAt.right)) (by first | rfl | assumption | (simp [*]; done) | fail) (by constructor) (by first | rfl | assumption | (simp [*]; done) | fail) rfl (by first | decide | omega) (by first | ((repeat constructor); done) | exact .same _) (by first | exact .one | exact .set) (by repeat (first | exact .here | apply HSet.there))) ?_; rintro _ _ ⟨rfl, rfl⟩)
  refine aqs rfl (q_as (by constructor)) rfl ?_
  refine alist_nil ?_
  show AWP _ _ _ _
  refine awp_seq ?_
  refine awp_region ?_
  first | refine aqs rfl (q_ldpW ag136 sz136 rfl (by repeat (first | exact .here | assumption | (apply HAt.left; assumption) | apply HAt.there | apply HAt.right)) (by first | rfl | assumption | (simp [*]; done) | fail) (by first | rfl | assumption | (simp [*]; done) | fail) (by decide)) rfl ?_ | refine aqs rfl (q_ldW ag136 sz136 rfl (by first | rfl | assumption | (simp [*]; done) | fail)) rfl ?_ | refine aqs rfl (q_ldpP ag136 sz136 rfl (by repeat (first | exact .here | assumption | (apply HAt.left; assumption) | apply HAt.there | apply HAt.right)) (by first | rfl | assumption | (simp [*]; done) | fail) (by first | decide | (simp; done) | omega | fail) (by decide) (by first | ((repeat constructor); done) | exact .same _)) rfl ?_ | refine aqs rfl (q_ldP ag136 sz136 rfl (by first | decide | (simp; done) | omega | fail) (by first | ((repeat constructor); done) | exact .same _)) rfl ?_
  first | refine aqs rfl (e_callN cb116 (e2 ▸ get116_c c1 l1 ⟨#[97]⟩ ⟨#[98]⟩ (by decide) _) rfl rfl) rfl ?_ | refine aqs rfl (e_callN cb116 (ACall.arg (e2 ▸ get116_c c1 l1 ⟨#[97]⟩ ⟨#[98]⟩ (by decide) _) (by repeat (first | exact ArgL.nil | (apply ArgL.cons; (· first | exact .same | exact .cro | exact .nil))))) rfl rfl) rfl ?_
  refine aqs rfl (q_mv (by constructor)) rfl ?_
  refine aqs rfl (q_ex rfl rfl (by constructor)) rfl ?_
  refine aqs rfl (q_ex rfl rfl (by constructor)) rfl ?_
  refine aqs rfl (q_ex rfl rfl (by constructor)) rfl ?_
  (refine aes rfl (e_al (xs := [.lit (.int .i64 0), .lit (.int .i64 0), .lit (.slice none 0 0), .lit (.int .i64 0), .lit (.int .i64 0), .lit (.int .i64 0), .lit (.int .i64 0)]) (k := 7) zr136 (.same _) rfl) rfl ?_; rintro _ _ ⟨u6, rfl, rfl⟩)
  refine aqs rfl (q_as (by constructor)) rfl ?_
  first | (refine aen rfl (e_stW sz136 rfl (by repeat (first | exact .here | assumption | (apply HAt.left; assumption) | apply HAt.there | apply HAt.right)) (by constructor) (by first | rfl | assumption | (simp [*]; done) | fail) rfl (by repeat (first | exact .here | apply HSet.there))) ?_; rintro _ _ ⟨rfl, rfl⟩) | (refine aen rfl (e_stP sz136 rfl (by repeat (first | exact .here | assumption | (apply HAt.left; assumption) | apply HAt.there | apply HAt.right)) (by first | rfl | assumption | (simp [*]; done) | fail) (by constructor) (by first | rfl | assumption | (simp [*]; done) | fail) rfl (by first | decide | omega) (by first | ((repeat constructor); done) | exact .same _) (by first | exact .one | exact .set) (by repeat (first | exact .here | apply HSet.there))) ?_; rintro _ _ ⟨rfl, rfl⟩)
  refine aqs rfl (q_as (by constructor)) rfl ?_
  refine alist_nil ?_
  show AWP _ _ _ _
  refine awp_seq ?_
  refine awp_region ?_
  first | refine aqs rfl (q_ldpW ag136 sz136 rfl (by repeat (first | exact .here | assumption | (apply HAt.left; assumption) | apply HAt.there | apply HAt.right)) (by first | rfl | assumption | (simp [*]; done) | fail) (by first | rfl | assumption | (simp [*]; done) | fail) (by decide)) rfl ?_ | refine aqs rfl (q_ldW ag136 sz136 rfl (by first | rfl | assumption | (simp [*]; done) | fail)) rfl ?_ | refine aqs rfl (q_ldpP ag136 sz136 rfl (by repeat (first | exact .here | assumption | (apply HAt.left; assumption) | apply HAt.there | apply HAt.right)) (by first | rfl | assumption | (simp [*]; done) | fail) (by first | decide | (simp; done) | omega | fail) (by decide) (by first | ((repeat constructor); done) | exact .same _)) rfl ?_ | refine aqs rfl (q_ldP ag136 sz136 rfl (by first | decide | (simp; done) | omega | fail) (by first | ((repeat constructor); done) | exact .same _)) rfl ?_
  first | refine aqs rfl (e_callN cb116 (e3 ▸ get116_c c2 l2 ⟨#[99]⟩ ⟨#[100]⟩ (by decide) _) rfl rfl) rfl ?_ | refine aqs rfl (e_callN cb116 (ACall.arg (e3 ▸ get116_c c2 l2 ⟨#[99]⟩ ⟨#[100]⟩ (by decide) _) (by repeat (first | exact ArgL.nil | (apply ArgL.cons; (· first | exact .same | exact .cro | exact .nil))))) rfl rfl) rfl ?_
  refine aqs rfl (q_mv (by constructor)) rfl ?_
  refine aqs rfl (q_ex rfl rfl (by constructor)) rfl ?_
  refine aqs rfl (q_ex rfl rfl (by constructor)) rfl ?_
  refine aqs rfl (q_ex rfl rfl (by constructor)) rfl ?_
  (refine aes rfl (e_al (xs := [.lit (.int .i64 0), .lit (.int .i64 0), .lit (.slice none 0 0), .lit (.int .i64 0), .lit (.int .i64 0), .lit (.int .i64 0), .lit (.int .i64 0)]) (k := 7) zr136 (.same _) rfl) rfl ?_; rintro _ _ ⟨u9, rfl, rfl⟩)
  refine aqs rfl (q_as (by constructor)) rfl ?_
  first | (refine aen rfl (e_stW sz136 rfl (by repeat (first | exact .here | assumption | (apply HAt.left; assumption) | apply HAt.there | apply HAt.right)) (by constructor) (by first | rfl | assumption | (simp [*]; done) | fail) rfl (by repeat (first | exact .here | apply HSet.there))) ?_; rintro _ _ ⟨rfl, rfl⟩) | (refine aen rfl (e_stP sz136 rfl (by repeat (first | exact .here | assumption | (apply HAt.left; assumption) | apply HAt.there | apply HAt.right)) (by first | rfl | assumption | (simp [*]; done) | fail) (by constructor) (by first | rfl | assumption | (simp [*]; done) | fail) rfl (by first | decide | omega) (by first | ((repeat constructor); done) | exact .same _) (by first | exact .one | exact .set) (by repeat (first | exact .here | apply HSet.there))) ?_; rintro _ _ ⟨rfl, rfl⟩)
  refine aqs rfl (q_as (by constructor)) rfl ?_
  refine alist_nil ?_
  show AWP _ _ _ _
  refine awp_seq ?_
  refine awp_region ?_
  first | refine aqs rfl (q_ldpW ag136 sz136 rfl (by repeat (first | exact .here | assumption | (apply HAt.left; assumption) | apply HAt.there | apply HAt.right)) (by first | rfl | assumption | (simp [*]; done) | fail) (by first | rfl | assumption | (simp [*]; done) | fail) (by decide)) rfl ?_ | refine aqs rfl (q_ldW ag136 sz136 rfl (by first | rfl | assumption | (simp [*]; done) | fail)) rfl ?_ | refine aqs rfl (q_ldpP ag136 sz136 rfl (by repeat (first | exact .here | assumption | (apply HAt.left; assumption) | apply HAt.there | apply HAt.right)) (by first | rfl | assumption | (simp [*]; done) | fail) (by first | decide | (simp; done) | omega | fail) (by decide) (by first | ((repeat constructor); done) | exact .same _)) rfl ?_ | refine aqs rfl (q_ldP ag136 sz136 rfl (by first | decide | (simp; done) | omega | fail) (by first | ((repeat constructor); done) | exact .same _)) rfl ?_
  first | refine aqs rfl (e_callN cb116 (e4 ▸ get116_c c3 l3 ⟨#[99]⟩ ⟨#[]⟩ (by decide) _) rfl rfl) rfl ?_ | refine aqs rfl (e_callN cb116 (ACall.arg (e4 ▸ get116_c c3 l3 ⟨#[99]⟩ ⟨#[]⟩ (by decide) _) (by repeat (first | exact ArgL.nil | (apply ArgL.cons; (· first | exact .same | exact .cro | exact .nil))))) rfl rfl) rfl ?_
  refine aqs rfl (q_mv (by constructor)) rfl ?_
  refine aqs rfl (q_ex rfl rfl (by constructor)) rfl ?_
  refine aqs rfl (q_ex rfl rfl (by constructor)) rfl ?_
  refine aqs rfl (q_ex rfl rfl (by constructor)) rfl ?_
  (refine aes rfl (e_al (xs := [.lit (.int .i64 0), .lit (.int .i64 0), .lit (.slice none 0 0), .lit (.int .i64 0), .lit (.int .i64 0), .lit (.int .i64 0), .lit (.int .i64 0)]) (k := 7) zr136 (.same _) rfl) rfl ?_; rintro _ _ ⟨u12, rfl, rfl⟩)
  refine aqs rfl (q_as (by constructor)) rfl ?_
  first | (refine aen rfl (e_stW sz136 rfl (by repeat (first | exact .here | assumption | (apply HAt.left; assumption) | apply HAt.there | apply HAt.right)) (by constructor) (by first | rfl | assumption | (simp [*]; done) | fail) rfl (by repeat (first | exact .here | apply HSet.there))) ?_; rintro _ _ ⟨rfl, rfl⟩) | (refine aen rfl (e_stP sz136 rfl (by repeat (first | exact .here | assumption | (apply HAt.left; assumption) | apply HAt.there | apply HAt.right)) (by first | rfl | assumption | (simp [*]; done) | fail) (by constructor) (by first | rfl | assumption | (simp [*]; done) | fail) rfl (by first | decide | omega) (by first | ((repeat constructor); done) | exact .same _) (by first | exact .one | exact .set) (by repeat (first | exact .here | apply HSet.there))) ?_; rintro _ _ ⟨rfl, rfl⟩)
  refine aqs rfl (q_as (by constructor)) rfl ?_
  refine alist_nil ?_
  show AWP _ _ _ _
  refine awp_seq ?_
  refine awp_region ?_
  first | refine aqs rfl (q_ldpW ag136 sz136 rfl (by repeat (first | exact .here | assumption | (apply HAt.left; assumption) | apply HAt.there | apply HAt.right)) (by first | rfl | assumption | (simp [*]; done) | fail) (by first | rfl | assumption | (simp [*]; done) | fail) (by decide)) rfl ?_ | refine aqs rfl (q_ldW ag136 sz136 rfl (by first | rfl | assumption | (simp [*]; done) | fail)) rfl ?_ | refine aqs rfl (q_ldpP ag136 sz136 rfl (by repeat (first | exact .here | assumption | (apply HAt.left; assumption) | apply HAt.there | apply HAt.right)) (by first | rfl | assumption | (simp [*]; done) | fail) (by first | decide | (simp; done) | omega | fail) (by decide) (by first | ((repeat constructor); done) | exact .same _)) rfl ?_ | refine aqs rfl (q_ldP ag136 sz136 rfl (by first | decide | (simp; done) | omega | fail) (by first | ((repeat constructor); done) | exact .same _)) rfl ?_
  first | refine aqs rfl (e_callN cb118 (e5 ▸ put118_c c4 l4 ⟨#[99]⟩ ⟨#[100]⟩ ⟨#[119]⟩ (by decide) _) rfl rfl) rfl ?_ | refine aqs rfl (e_callN cb118 (ACall.arg (e5 ▸ put118_c c4 l4 ⟨#[99]⟩ ⟨#[100]⟩ ⟨#[119]⟩ (by decide) _) (by repeat (first | exact ArgL.nil | (apply ArgL.cons; (· first | exact .same | exact .cro | exact .nil))))) rfl rfl) rfl ?_
  refine aqs rfl (q_mv (by constructor)) rfl ?_
  refine aqs rfl (q_ex rfl rfl (by constructor)) rfl ?_
  refine aqs rfl (q_ex rfl rfl (by constructor)) rfl ?_
  (refine aes rfl (e_al (xs := [.lit (.int .i64 0), .lit (.int .i64 0), .lit (.slice none 0 0), .lit (.int .i64 0), .lit (.int .i64 0), .lit (.int .i64 0), .lit (.int .i64 0)]) (k := 7) zr136 (.same _) rfl) rfl ?_; rintro _ _ ⟨u14, rfl, rfl⟩)
  first | (refine aen rfl (e_stW sz136 rfl (by repeat (first | exact .here | assumption | (apply HAt.left; assumption) | apply HAt.there | apply HAt.right)) (by constructor) (by first | rfl | assumption | (simp [*]; done) | fail) rfl (by repeat (first | exact .here | apply HSet.there))) ?_; rintro _ _ ⟨rfl, rfl⟩) | (refine aen rfl (e_stP sz136 rfl (by repeat (first | exact .here | assumption | (apply HAt.left; assumption) | apply HAt.there | apply HAt.right)) (by first | rfl | assumption | (simp [*]; done) | fail) (by constructor) (by first | rfl | assumption | (simp [*]; done) | fail) rfl (by first | decide | omega) (by first | ((repeat constructor); done) | exact .same _) (by first | exact .one | exact .set) (by repeat (first | exact .here | apply HSet.there))) ?_; rintro _ _ ⟨rfl, rfl⟩)
  refine aqs rfl (q_as (by constructor)) rfl ?_
  refine alist_nil ?_
  show AWP _ _ _ _
  refine awp_seq ?_
  refine awp_region ?_
  first | refine aqs rfl (e_callN cb107 (e6 ▸ new107_c 0 1 1 _) rfl rfl) rfl ?_ | refine aqs rfl (e_callN cb107 (ACall.arg (e6 ▸ new107_c 0 1 1 _) (by repeat (first | exact ArgL.nil | (apply ArgL.cons; (· first | exact .same | exact .cro | exact .nil))))) rfl rfl) rfl ?_
  refine aqs rfl (q_mv (by constructor)) rfl ?_
  refine aqs rfl (q_ex rfl rfl (by constructor)) rfl ?_
  refine aqs rfl (q_ex rfl rfl (by constructor)) rfl ?_
  (refine aes rfl (e_al (xs := [.lit (.int .i64 0), .lit (.int .i64 0), .lit (.slice none 0 0), .lit (.int .i64 0), .lit (.int .i64 0), .lit (.int .i64 0), .lit (.int .i64 0)]) (k := 7) zr136 (.same _) rfl) rfl ?_; rintro _ _ ⟨u16, rfl, rfl⟩)
  first | (refine aen rfl (e_stW sz136 rfl (by repeat (first | exact .here | assumption | (apply HAt.left; assumption) | apply HAt.there | apply HAt.right)) (by constructor) (by first | rfl | assumption | (simp [*]; done) | fail) rfl (by repeat (first | exact .here | apply HSet.there))) ?_; rintro _ _ ⟨rfl, rfl⟩) | (refine aen rfl (e_stP sz136 rfl (by repeat (first | exact .here | assumption | (apply HAt.left; assumption) | apply HAt.there | apply HAt.right)) (by first | rfl | assumption | (simp [*]; done) | fail) (by constructor) (by first | rfl | assumption | (simp [*]; done) | fail) rfl (by first | decide | omega) (by first | ((repeat constructor); done) | exact .same _) (by first | exact .one | exact .set) (by repeat (first | exact .here | apply HSet.there))) ?_; rintro _ _ ⟨rfl, rfl⟩)
  refine aqs rfl (q_as (by constructor)) rfl ?_
  refine alist_nil ?_
  show AWP _ _ _ _
  refine awp_seq ?_
  refine awp_region ?_
  refine aqs rfl (q_bd st136 zr136 (by first | ((repeat constructor); done) | exact .same _) (by repeat (first | exact BD.nil | (apply BD.cons; (· rfl); (· constructor); (· rfl); (· rfl); (· exact Nat.le_of_ble_eq_true (by rfl)); (· exact (by first | ((repeat constructor); done) | exact .same _)))))) rfl ?_
  refine alist_niltmp (cs2 := zeroC.cells) 58 rfl (.cons .same (.cons .same (.cons .nil .same))) ?_
  first | refine aqs rfl (e_callN cb116 (e7 ▸ get116_c zeroC clen_zero ⟨#[]⟩ ⟨#[]⟩ (by decide) _) rfl rfl) rfl ?_ | refine aqs rfl (e_callN cb116 (ACall.arg (e7 ▸ get116_c zeroC clen_zero ⟨#[]⟩ ⟨#[]⟩ (by decide) _) (by repeat (first | exact ArgL.nil | (apply ArgL.cons; (· first | exact .same | exact .cro | exact .nil))))) rfl rfl) rfl ?_
  refine aqs rfl (q_mv (by constructor)) rfl ?_
  refine aqs rfl (q_ex rfl rfl (by constructor)) rfl ?_
  refine aqs rfl (q_ex rfl rfl (by constructor)) rfl ?_
  refine aqs rfl (q_ex rfl rfl (by constructor)) rfl ?_
  (refine aes rfl (e_al (xs := [.lit (.int .i64 0), .lit (.int .i64 0), .lit (.slice none 0 0), .lit (.int .i64 0), .lit (.int .i64 0), .lit (.int .i64 0), .lit (.int .i64 0)]) (k := 7) zr136 (.same _) rfl) rfl ?_; rintro _ _ ⟨u19, rfl, rfl⟩)
  refine aqs rfl (q_as (by constructor)) rfl ?_
  first | (refine aen rfl (e_stW sz136 rfl (by repeat (first | exact .here | assumption | (apply HAt.left; assumption) | apply HAt.there | apply HAt.right)) (by constructor) (by first | rfl | assumption | (simp [*]; done) | fail) rfl (by repeat (first | exact .here | apply HSet.there))) ?_; rintro _ _ ⟨rfl, rfl⟩) | (refine aen rfl (e_stP sz136 rfl (by repeat (first | exact .here | assumption | (apply HAt.left; assumption) | apply HAt.there | apply HAt.right)) (by first | rfl | assumption | (simp [*]; done) | fail) (by constructor) (by first | rfl | assumption | (simp [*]; done) | fail) rfl (by first | decide | omega) (by first | ((repeat constructor); done) | exact .same _) (by first | exact .one | exact .set) (by repeat (first | exact .here | apply HSet.there))) ?_; rintro _ _ ⟨rfl, rfl⟩)
  refine aqs rfl (q_as (by constructor)) rfl ?_
  refine alist_nil ?_
  show AWP _ _ _ _
  refine awp_seq ?_
  refine awp_region ?_
  refine aqs rfl (q_mv (by constructor)) rfl ?_
  refine aqs rfl (castT (q_eql rfl rfl) (by rfl)) rfl ?_
  refine aqs rfl (q_mv (by constructor)) rfl ?_
  first | refine ans rfl rfl ?_ | refine aqs rfl (q_mv (by constructor)) rfl ?_
  refine aqs rfl (castT (q_eql rfl rfl) (by rfl)) rfl ?_
  first | refine aqs rfl (q_pickT rfl (by constructor)) rfl ?_ | refine aqs rfl (q_pickF rfl (by constructor)) rfl ?_
  refine aqs rfl (q_mv (by constructor)) rfl ?_
  first | refine ans rfl rfl ?_ | refine aqs rfl (q_mv (by constructor)) rfl ?_
  refine aqs rfl (castT (q_seql rfl rfl) (by simp)) rfl ?_
  first | refine aqs rfl (q_pickT rfl (by constructor)) rfl ?_ | refine aqs rfl (q_pickF rfl (by constructor)) rfl ?_
  refine aqs rfl (q_mv (by constructor)) rfl ?_
  first | refine ans rfl rfl ?_ | refine aqs rfl (q_mv (by constructor)) rfl ?_
  refine aqs rfl (castT (q_eql rfl rfl) (by rfl)) rfl ?_
  first | refine aqs rfl (q_pickT rfl (by constructor)) rfl ?_ | refine aqs rfl (q_pickF rfl (by constructor)) rfl ?_
  refine aqs rfl (q_mv (by constructor)) rfl ?_
  first | refine ans rfl rfl ?_ | refine aqs rfl (q_fapP fl136_3 (by decide) rfl rfl) rfl ?_ | refine aqs rfl (q_faP fl136_3 (by decide) rfl (by first | ((repeat constructor); done) | exact .same _)) rfl ?_
  first | refine ans rfl rfl ?_ | refine aqs rfl (q_ldpN ag3 rfl (by repeat (first | exact .here | assumption | (apply HAt.left; assumption) | apply HAt.there | apply HAt.right)) (by first | rfl | assumption | (simp [*]; done) | fail) (by first | rfl | assumption | (simp [*]; done) | fail) (by constructor)) rfl ?_ | refine aqs rfl (q_ld1N ag3 rfl (by constructor)) rfl ?_
  refine aqs rfl (castT (q_eql rfl rfl) (by rw [g2]; rfl)) rfl ?_
  first | refine aqs rfl (q_pickT rfl (by constructor)) rfl ?_ | refine aqs rfl (q_pickF rfl (by constructor)) rfl ?_
  refine aqs rfl (q_mv (by constructor)) rfl ?_
  first | refine ans rfl rfl ?_ | refine aqs rfl (q_mv (by constructor)) rfl ?_
  refine aqs rfl (castT (q_eql rfl rfl) (by rfl)) rfl ?_
  first | refine aqs rfl (q_pickT rfl (by constructor)) rfl ?_ | refine aqs rfl (q_pickF rfl (by constructor)) rfl ?_
  refine aqs rfl (q_mv (by constructor)) rfl ?_
  first | refine ans rfl rfl ?_ | refine aqs rfl (q_fapP fl136_5 (by decide) rfl rfl) rfl ?_ | refine aqs rfl (q_faP fl136_5 (by decide) rfl (by first | ((repeat constructor); done) | exact .same _)) rfl ?_
  first | refine ans rfl rfl ?_ | refine aqs rfl (q_ldpN ag3 rfl (by repeat (first | exact .here | assumption | (apply HAt.left; assumption) | apply HAt.there | apply HAt.right)) (by first | rfl | assumption | (simp [*]; done) | fail) (by first | rfl | assumption | (simp [*]; done) | fail) (by constructor)) rfl ?_ | refine aqs rfl (q_ld1N ag3 rfl (by constructor)) rfl ?_
  refine aqs rfl (castT (q_eql rfl rfl) (by rw [g3]; rfl)) rfl ?_
  first | refine aqs rfl (q_pickT rfl (by constructor)) rfl ?_ | refine aqs rfl (q_pickF rfl (by constructor)) rfl ?_
  refine aqs rfl (q_mv (by constructor)) rfl ?_
  first | refine ans rfl rfl ?_ | refine aqs rfl (q_mv (by constructor)) rfl ?_
  refine aqs rfl (castT (q_eql rfl rfl) (by rfl)) rfl ?_
  first | refine aqs rfl (q_pickT rfl (by constructor)) rfl ?_ | refine aqs rfl (q_pickF rfl (by constructor)) rfl ?_
  refine aqs rfl (q_mv (by constructor)) rfl ?_
  first | refine ans rfl rfl ?_ | refine aqs rfl (q_fapP fl136_4 (by decide) rfl rfl) rfl ?_ | refine aqs rfl (q_faP fl136_4 (by decide) rfl (by first | ((repeat constructor); done) | exact .same _)) rfl ?_
  first | refine ans rfl rfl ?_ | refine aqs rfl (q_ldpN ag3 rfl (by repeat (first | exact .here | assumption | (apply HAt.left; assumption) | apply HAt.there | apply HAt.right)) (by first | rfl | assumption | (simp [*]; done) | fail) (by first | rfl | assumption | (simp [*]; done) | fail) (by constructor)) rfl ?_ | refine aqs rfl (q_ld1N ag3 rfl (by constructor)) rfl ?_
  refine aqs rfl (castT (q_eql rfl rfl) (by rw [g4]; rfl)) rfl ?_
  first | refine aqs rfl (q_pickT rfl (by constructor)) rfl ?_ | refine aqs rfl (q_pickF rfl (by constructor)) rfl ?_
  refine aqs rfl (q_mv (by constructor)) rfl ?_
  first | refine ans rfl rfl ?_ | refine aqs rfl (q_mv (by constructor)) rfl ?_
  refine aqs rfl (castT (q_eql rfl rfl) (by rfl)) rfl ?_
  first | refine aqs rfl (q_pickT rfl (by constructor)) rfl ?_ | refine aqs rfl (q_pickF rfl (by constructor)) rfl ?_
  refine aqs rfl (q_mv (by constructor)) rfl ?_
  first | refine ans rfl rfl ?_ | refine aqs rfl (q_fapP fl136_6 (by decide) rfl rfl) rfl ?_ | refine aqs rfl (q_faP fl136_6 (by decide) rfl (by first | ((repeat constructor); done) | exact .same _)) rfl ?_
  first | refine ans rfl rfl ?_ | refine aqs rfl (q_ldpN ag3 rfl (by repeat (first | exact .here | assumption | (apply HAt.left; assumption) | apply HAt.there | apply HAt.right)) (by first | rfl | assumption | (simp [*]; done) | fail) (by first | rfl | assumption | (simp [*]; done) | fail) (by constructor)) rfl ?_ | refine aqs rfl (q_ld1N ag3 rfl (by constructor)) rfl ?_
  refine aqs rfl (castT (q_eql rfl rfl) (by rw [g5]; rfl)) rfl ?_
  first | refine aqs rfl (q_pickT rfl (by constructor)) rfl ?_ | refine aqs rfl (q_pickF rfl (by constructor)) rfl ?_
  refine aqs rfl (q_mv (by constructor)) rfl ?_
  first | refine ans rfl rfl ?_ | refine aqs rfl (q_ldpW ag136 sz136 rfl (by repeat (first | exact .here | assumption | (apply HAt.left; assumption) | apply HAt.there | apply HAt.right)) (by first | rfl | assumption | (simp [*]; done) | fail) (by first | rfl | assumption | (simp [*]; done) | fail) (by decide)) rfl ?_ | refine aqs rfl (q_ldW ag136 sz136 rfl (by first | rfl | assumption | (simp [*]; done) | fail)) rfl ?_ | refine aqs rfl (q_ldpP ag136 sz136 rfl (by repeat (first | exact .here | assumption | (apply HAt.left; assumption) | apply HAt.there | apply HAt.right)) (by first | rfl | assumption | (simp [*]; done) | fail) (by first | decide | (simp; done) | omega | fail) (by decide) (by first | ((repeat constructor); done) | exact .same _)) rfl ?_ | refine aqs rfl (q_ldP ag136 sz136 rfl (by first | decide | (simp; done) | omega | fail) (by first | ((repeat constructor); done) | exact .same _)) rfl ?_
  first | refine ans rfl rfl ?_ | refine aqs rfl (e_callN cb114 (ea ▸ size114_c c5 l5 _) rfl rfl) rfl ?_ | refine aqs rfl (e_callN cb114 (ACall.arg (ea ▸ size114_c c5 l5 _) (by repeat (first | exact ArgL.nil | (apply ArgL.cons; (· first | exact .same | exact .cro | exact .nil))))) rfl rfl) rfl ?_
  refine aqs rfl (castT (q_eql rfl rfl) (by rfl)) rfl ?_
  first | refine aqs rfl (q_pickT rfl (by constructor)) rfl ?_ | refine aqs rfl (q_pickF rfl (by constructor)) rfl ?_
  refine aqs rfl (q_mv (by constructor)) rfl ?_
  first | refine ans rfl rfl ?_ | refine aqs rfl (q_mv (by constructor)) rfl ?_
  refine aqs rfl (castT (q_eql rfl rfl) (by rfl)) rfl ?_
  first | refine aqs rfl (q_pickT rfl (by constructor)) rfl ?_ | refine aqs rfl (q_pickF rfl (by constructor)) rfl ?_
  refine aqs rfl (q_mv (by constructor)) rfl ?_
  first | refine ans rfl rfl ?_ | refine aqs rfl (q_mv (by constructor)) rfl ?_
  refine aqs rfl (castT (q_eql rfl rfl) (by rfl)) rfl ?_
  first | refine aqs rfl (q_pickT rfl (by constructor)) rfl ?_ | refine aqs rfl (q_pickF rfl (by constructor)) rfl ?_
  refine aqs rfl (q_mv (by constructor)) rfl ?_
  first | refine ans rfl rfl ?_ | refine aqs rfl (q_ldpW ag136 sz136 rfl (by repeat (first | exact .here | assumption | (apply HAt.left; assumption) | apply HAt.there | apply HAt.right)) (by first | rfl | assumption | (simp [*]; done) | fail) (by first | rfl | assumption | (simp [*]; done) | fail) (by decide)) rfl ?_ | refine aqs rfl (q_ldW ag136 sz136 rfl (by first | rfl | assumption | (simp [*]; done) | fail)) rfl ?_ | refine aqs rfl (q_ldpP ag136 sz136 rfl (by repeat (first | exact .here | assumption | (apply HAt.left; assumption) | apply HAt.there | apply HAt.right)) (by first | rfl | assumption | (simp [*]; done) | fail) (by first | decide | (simp; done) | omega | fail) (by decide) (by first | ((repeat constructor); done) | exact .same _)) rfl ?_ | refine aqs rfl (q_ldP ag136 sz136 rfl (by first | decide | (simp; done) | omega | fail) (by first | ((repeat constructor); done) | exact .same _)) rfl ?_
  first | refine ans rfl rfl ?_ | refine aqs rfl (e_callN cb112 (e8 ▸ right112_c c5 l5 _) rfl rfl) rfl ?_ | refine aqs rfl (e_callN cb112 (ACall.arg (e8 ▸ right112_c c5 l5 _) (by repeat (first | exact ArgL.nil | (apply ArgL.cons; (· first | exact .same | exact .cro | exact .nil))))) rfl rfl) rfl ?_
  first | refine aqs rfl (q_pickT rfl (by constructor)) rfl ?_ | refine aqs rfl (q_pickF rfl (by constructor)) rfl ?_
  refine aqs rfl (q_mv (by constructor)) rfl ?_
  first | refine ans rfl rfl ?_ | refine aqs rfl (q_bd st136 zr136 (by first | ((repeat constructor); done) | exact .same _) (by repeat (first | exact BD.nil | (apply BD.cons; (· rfl); (· constructor); (· rfl); (· rfl); (· exact Nat.le_of_ble_eq_true (by rfl)); (· exact (by first | ((repeat constructor); done) | exact .same _)))))) rfl ?_
  refine alist_niltmp (cs2 := zeroC.cells) 127 rfl (.cons .same (.cons .same (.cons .nil .same))) ?_
  first | refine ans rfl rfl ?_ | refine aqs rfl (e_callN cb112 (e9 ▸ right112_c zeroC clen_zero _) rfl rfl) rfl ?_ | refine aqs rfl (e_callN cb112 (ACall.arg (e9 ▸ right112_c zeroC clen_zero _) (by repeat (first | exact ArgL.nil | (apply ArgL.cons; (· first | exact .same | exact .cro | exact .nil))))) rfl rfl) rfl ?_
  refine aqs rfl (castT (q_not rfl) (by rfl)) rfl ?_
  first | refine aqs rfl (q_pickT rfl (by constructor)) rfl ?_ | refine aqs rfl (q_pickF rfl (by constructor)) rfl ?_
  refine aqs rfl (q_as (by constructor)) rfl ?_
  refine alist_nil ?_
  show AWP _ _ _ _
  refine awp_ret ?_
  repeat first | with_reducible refine then_ret ?_ | with_reducible refine blk_ret ?_ | with_reducible refine nogo_ret ?_
  apply retq (.inr rfl) (.cons (rok_t rfl) .nil)
  rotate_left
  ·exact ⟨rfl, rfl⟩
  repeat (first | exact List.Sublist.refl _ | exact List.nil_sublist _ | exact List.sublist_append_left _ _ | apply List.Sublist.cons)
end Go.Proofs.YtdlinfekifnmkaaAm
