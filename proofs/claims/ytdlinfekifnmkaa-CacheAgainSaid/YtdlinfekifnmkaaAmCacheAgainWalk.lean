/- The walk of CacheAgain. Conditions: none. -/
import Derived.Test.YtdlinfekifnmkaaAmCacheH
set_option linter.unusedVariables false
set_option linter.unusedSimpArgs false
set_option maxRecDepth 20000
namespace Go.Proofs.YtdlinfekifnmkaaAm
open Go.Proofs
def sNew : ByteArray := ⟨#[110, 101, 119]⟩
def sV : ByteArray := ⟨#[118]⟩
theorem again2 {c : Cach} (h : CGood c) {l r : ByteArray} (hs : l.size + r.size ≤ 1000) (v : ByteArray) : ∃ d g d1 d2 e, putC c l r v = (d, 0) ∧ getC d l r = (g, d1, e) ∧ getC d1 l r = (g, d2, e) ∧ ((e = 0 ∧ g = v) ∨ (e = 10 ∧ c.room < c.parts.length)) ∧
    (⟨d2.width, d2.room, d2.parts, d.hits, d.misses, d2.clashes, d2.evicted⟩ : Cach) = d ∧ CGood d ∧ CGood d1 ∧ CGood d2 := by
  have hp := put_parts h.right l r v
  have g1 := good_put h hs v
  have g2 := good_get g1 l r
  have g3 := good_get g2 l r
  obtain ⟨d, hd⟩ : ∃ d, d = (putC c l r v).1 := ⟨_, rfl⟩
  have he : putC c l r v = (d, 0) := by rw [hd, ← hp.2.2.2.2.2.2]
  have ha := again_law h.right l r v
  rw [← hd] at ha g1 g2 g3
  rcases ha with ⟨h1, h2⟩ | ⟨h0, h1, h2⟩
  · rw [h1] at g2 g3
    simp only at g2 g3
    rw [h2] at g3
    exact ⟨d, v, _, _, 0, he, h1, h2, .inl ⟨rfl, rfl⟩, rfl, g1, g2, g3⟩
  · rw [h1] at g2 g3
    simp only at g2 g3
    rw [h2] at g3
    exact ⟨d, ⟨#[]⟩, _, _, 10, he, h1, h2, .inr ⟨rfl, h0⟩, rfl, g1, g2, g3⟩
theorem good_lone {w : Int} (hw : 0 ≤ w ∧ w ≤ 64) : CGood ⟨w, 50, [[]], 0, 0, 0, 0⟩ := by
  have hf : cFits 1 50 w = true := by
    unfold cFits
    simp only [Bool.and_eq_true, decide_eq_true_eq]
    omega
  exact good_rep (n := 1) (new_right hf)
theorem lone2 {w : Int} (hw : 0 ≤ w ∧ w ≤ 64) {l r x y : ByteArray} (hs : l.size + r.size ≤ 1000) : ∃ p g q e, putC ⟨w, 50, [[]], 0, 0, 0, 0⟩ l r sV = (p, 0) ∧ getC p x y = (g, q, e) ∧ CGood p ∧ CGood q ∧
    decide (e = 0) = ((l.toList == x.toList) && (r.toList == y.toList)) ∧ q.clashes = if ((l.toList == x.toList) && (r.toList == y.toList)) = false ∧ bothS x y w = bothS l r w then 1 else 0 := by
  obtain ⟨_, h2, h3⟩ := lone_put hw l r sV
  have g1 := good_put (good_lone hw) hs sV
  have g2 := good_get g1 x y
  have hg := lone_get (p := x) (q := y) h3
  refine ⟨(putC ⟨w, 50, [[]], 0, 0, 0, 0⟩ l r sV).1, (getC (putC ⟨w, 50, [[]], 0, 0, 0, 0⟩ l r sV).1 x y).1, (getC (putC ⟨w, 50, [[]], 0, 0, 0, 0⟩ l r sV).1 x y).2.1, (getC (putC ⟨w, 50, [[]], 0, 0, 0, 0⟩ l r sV).1 x y).2.2, Prod.ext rfl h2, rfl, g1, g2, ?_⟩
  rw [str_eq, str_eq]
  rcases hg with ⟨e1, ⟨e2, e3⟩, e4⟩ | ⟨e1, e2, e3⟩
  · rw [e1, e4]; subst e2 e3; simp
  · have : ¬ (l = x ∧ r = y) := fun h => e2 ⟨h.1.symm, h.2.symm⟩
    rw [e1, e3]
    have e : (decide (l = x) && decide (r = y)) = false := by
      simp only [Bool.and_eq_false_iff, decide_eq_false_iff_not]
      by_cases h : l = x
      · exact .inr fun h2 => this ⟨h, h2⟩
      · exact .inl h
    rw [e]
    exact ⟨rfl, by simp⟩
theorem key64_S {a b c d : Int} (h : bothS (textS c) (textS d) 64 = bothS (textS a) (textS b) 64) : textS c = textS a ∧ textS d = textS b := by
  have H : ∀ k, ∃ n : Nat, n < 6 ∧ textS k = text6 n := fun k => by
    have h0 := pick_nonneg k 6 (by omega)
    have h1 := pick_lt k 6 (by omega)
    exact ⟨(pick k 6).toNat, by omega, by rw [textS, show (((pick k 6).toNat : Nat) : Int) = pick k 6 by omega]⟩
  obtain ⟨a', ha, ea⟩ := H a
  obtain ⟨b', hb, eb⟩ := H b
  obtain ⟨c', hc, ec⟩ := H c
  obtain ⟨d', hd, ed⟩ := H d
  rw [ea, eb, ec, ed] at h ⊢
  obtain ⟨rfl, rfl⟩ := key64_inj hc hd ha hb h
  exact ⟨rfl, rfl⟩
set_option maxHeartbeats 16000000 in
theorem walkCacheAgain (n : Tri) (puts : List Tri) (k : Quad) (wn : n.Wf) (wp : (∀ y ∈ puts, y.Wf) ∧ puts.length ≤ 9223372036854775807) (wk : k.Wf) :
    QCall Try.prog 33 [.agg n.cells, .ro (puts.map Tri.cells), .agg k.cells] [] (.lit (.bool true)) := by
  have hgd := good_cach n (puts.take 20)
  obtain ⟨c, hc00⟩ : ∃ c0, c0 = cachS n (puts.take 20) := ⟨_, rfl⟩
  have hg : CGood c := hc00 ▸ hgd
  have hcl := hg.clen
  have htw1 := text_two k.a k.b
  have htw2 := text_two k.c k.d
  have hk6 := key64_S (a := k.a) (b := k.b) (c := k.c) (d := k.d)
  obtain ⟨l, hl⟩ : ∃ l, l = textS k.a := ⟨_, rfl⟩
  obtain ⟨r, hr⟩ : ∃ r, r = textS k.b := ⟨_, rfl⟩
  obtain ⟨x, hx⟩ : ∃ l, l = textS k.c := ⟨_, rfl⟩
  obtain ⟨y, hy⟩ : ∃ r, r = textS k.d := ⟨_, rfl⟩
  rw [← hl, ← hr] at htw1
  rw [← hx, ← hy] at htw2
  rw [← hl, ← hr, ← hx, ← hy] at hk6
  obtain ⟨d, g, d1, d2, e, hp, hp1, hp2, hcs, heq, gd, gd1, gd2⟩ := again2 hg (l := l) (r := r) (by omega) sNew
  have hcm : CLen ⟨d2.width, d2.room, d2.parts, d.hits, d.misses, d2.clashes, d2.evicted⟩ := heq ▸ gd.clen
  have hrn : (c.parts.map partCells).length = c.parts.length := List.length_map ..
  have hrm := hg.right.n16
  have hrr := hg.right.room
  have n64 : newC 1 50 64 = (⟨64, 50, [[]], 0, 0, 0, 0⟩, 0) := (lone_put (by omega) l r sV).1
  have n0 : newC 1 50 0 = (⟨0, 50, [[]], 0, 0, 0, 0⟩, 0) := (lone_put (by omega) l r sV).1
  obtain ⟨p6, g6, q6, e6, hp6, hq6, gp6, gq6, he6, hc6⟩ := lone2 (w := 64) (by omega) (l := l) (r := r) (x := x) (y := y) (by omega)
  obtain ⟨p0, g0, q0, e0, hp0, hq0, gp0, gq0, he0, hcz⟩ := lone2 (w := 0) (by omega) (l := l) (r := r) (x := x) (y := y) (by omega)
  have hc6 : q6.clashes = 0 := by
    rw [hc6]
    split
    · rename_i h
      obtain ⟨h1, h2⟩ := hk6 h.2
      rw [h1, h2] at h
      simp at h
    · rfl
  obtain ⟨S, hS⟩ : ∃ S, S = ((l.toList == x.toList) && (r.toList == y.toList)) := ⟨_, rfl⟩
  rw [← hS] at he6 he0 hcz
  have hcz : q0.clashes = if S = false ∧ (l.size : Int) + r.size = x.size + y.size then 1 else 0 := by
    rw [hcz, both_zero, both_zero]
    by_cases h : (l.size : Int) + r.size = x.size + y.size
    · rw [h]; simp
    · have : ¬ (⟨0, (x.size : Int) + y.size⟩ : Key) = ⟨0, (l.size : Int) + r.size⟩ := fun e => h (by simpa using (congrArg Key.len e).symm)
      simp [h, this]
  refine acall_intro (n := 218) (rvs := [.tmp 6]) Try.func33 rfl rfl rfl (Nat.le_of_ble_eq_true rfl) ?_
  refine awp_seq ?_
  refine awp_region ?_
  (refine aes rfl (e_bx (by constructor) rfl rfl) rfl ?_; rintro _ _ ⟨u3, rfl, rfl⟩)
  (refine aes rfl (e_bx (by constructor) rfl rfl) rfl ?_; rintro _ _ ⟨u5, rfl, rfl⟩)
  refine aqs rfl (q_as (by constructor)) rfl ?_
  refine alist_nil ?_
  show AWP _ _ _ _
  refine awp_seq ?_
  refine awp_region ?_
  first | refine aqs rfl (e_callN cb105 (QCall.any _ awake105_c) rfl rfl) rfl ?_ | refine aqs rfl (e_callN cb105 (ACall.arg (QCall.any _ awake105_c) (by repeat (first | exact ArgL.nil | (apply ArgL.cons; (· first | exact .same | exact .cro | exact .nil))))) rfl rfl) rfl ?_
  refine aqs rfl (q_as (by constructor)) rfl ?_
  refine alist_nil ?_
  show AWP _ _ _ _
  refine awp_seq ?_
  refine awp_region ?_
  first | refine aqs rfl (q_ldpW ag83 sz83 rfl (by repeat (first | exact .here | assumption | (apply HAt.left; assumption) | apply HAt.there | apply HAt.right)) (by first | rfl | assumption | (simp [*]; done) | fail) (by first | rfl | assumption | (simp [*]; done) | fail) (by decide)) rfl ?_ | refine aqs rfl (q_ldW ag83 sz83 rfl (by first | rfl | assumption | (simp [*]; done) | fail)) rfl ?_ | refine aqs rfl (q_ldpP ag83 sz83 rfl (by repeat (first | exact .here | assumption | (apply HAt.left; assumption) | apply HAt.there | apply HAt.right)) (by first | rfl | assumption | (simp [*]; done) | fail) (by first | decide | (simp; done) | omega | fail) (by decide) (by first | ((repeat constructor); done) | exact .same _)) rfl ?_ | refine aqs rfl (q_ldP ag83 sz83 rfl (by first | decide | (simp; done) | omega | fail) (by first | ((repeat constructor); done) | exact .same _)) rfl ?_
  refine aqs rfl (q_mv (by constructor)) rfl ?_
  first | refine aqs rfl (e_callN cb110 (hc00 ▸ cache110_c n puts wn wp.1 _) rfl rfl) rfl ?_ | refine aqs rfl (e_callN cb110 (ACall.arg (hc00 ▸ cache110_c n puts wn wp.1 _) (by repeat (first | exact ArgL.nil | (apply ArgL.cons; (· first | exact .same | exact .cro | exact .nil))))) rfl rfl) rfl ?_
  (refine aes rfl (e_al (xs := [.lit (.int .i64 0), .lit (.int .i64 0), .lit (.slice none 0 0), .lit (.int .i64 0), .lit (.int .i64 0), .lit (.int .i64 0), .lit (.int .i64 0)]) (k := 7) zr136 (.same _) rfl) rfl ?_; rintro _ _ ⟨u8, rfl, rfl⟩)
  first | (refine aen rfl (e_stW sz136 rfl (by repeat (first | exact .here | assumption | (apply HAt.left; assumption) | apply HAt.there | apply HAt.right)) (by constructor) (by first | rfl | assumption | (simp [*]; done) | fail) rfl (by repeat (first | exact .here | apply HSet.there))) ?_; rintro _ _ ⟨rfl, rfl⟩) | (refine aen rfl (e_stP sz136 rfl (by repeat (first | exact .here | assumption | (apply HAt.left; assumption) | apply HAt.there | apply HAt.right)) (by first | rfl | assumption | (simp [*]; done) | fail) (by constructor) (by first | rfl | assumption | (simp [*]; done) | fail) rfl (by first | decide | omega) (by first | ((repeat constructor); done) | exact .same _) (by first | exact .one | exact .set) (by repeat (first | exact .here | apply HSet.there))) ?_; rintro _ _ ⟨rfl, rfl⟩)
  refine alist_nil ?_
  show AWP _ _ _ _
  refine awp_seq ?_
  refine awp_region ?_
  first | refine aqs rfl (q_iaA Try.underlying155 sz3 rfl rfl (by omega) (by omega) rfl) rfl ?_ | refine aqs rfl (q_iaI Try.underlying155 sz3 rfl rfl (by omega) (by omega) (by first | ((repeat constructor); done) | exact .same _)) rfl ?_
  first | refine aqs rfl (q_ldpN ag3 rfl (by repeat (first | exact .here | assumption | (apply HAt.left; assumption) | apply HAt.there | apply HAt.right)) (by first | rfl | assumption | (simp [*]; done) | fail) (by first | rfl | assumption | (simp [*]; done) | fail) (by constructor)) rfl ?_ | refine aqs rfl (q_ld1N ag3 rfl (by constructor)) rfl ?_
  first | refine aqs rfl (e_callN cb96 (hl ▸ text96_c k.a wk.1 _) rfl rfl) rfl ?_ | refine aqs rfl (e_callN cb96 (ACall.arg (hl ▸ text96_c k.a wk.1 _) (by repeat (first | exact ArgL.nil | (apply ArgL.cons; (· first | exact .same | exact .cro | exact .nil))))) rfl rfl) rfl ?_
  refine aqs rfl (q_as (by constructor)) rfl ?_
  refine alist_nil ?_
  show AWP _ _ _ _
  refine awp_seq ?_
  refine awp_region ?_
  first | refine aqs rfl (q_iaA Try.underlying155 sz3 rfl rfl (by omega) (by omega) rfl) rfl ?_ | refine aqs rfl (q_iaI Try.underlying155 sz3 rfl rfl (by omega) (by omega) (by first | ((repeat constructor); done) | exact .same _)) rfl ?_
  first | refine aqs rfl (q_ldpN ag3 rfl (by repeat (first | exact .here | assumption | (apply HAt.left; assumption) | apply HAt.there | apply HAt.right)) (by first | rfl | assumption | (simp [*]; done) | fail) (by first | rfl | assumption | (simp [*]; done) | fail) (by constructor)) rfl ?_ | refine aqs rfl (q_ld1N ag3 rfl (by constructor)) rfl ?_
  first | refine aqs rfl (e_callN cb96 (hr ▸ text96_c k.b wk.2.1 _) rfl rfl) rfl ?_ | refine aqs rfl (e_callN cb96 (ACall.arg (hr ▸ text96_c k.b wk.2.1 _) (by repeat (first | exact ArgL.nil | (apply ArgL.cons; (· first | exact .same | exact .cro | exact .nil))))) rfl rfl) rfl ?_
  refine aqs rfl (q_as (by constructor)) rfl ?_
  refine alist_nil ?_
  show AWP _ _ _ _
  refine awp_seq ?_
  refine awp_region ?_
  first | refine aqs rfl (q_ldpW ag136 sz136 rfl (by repeat (first | exact .here | assumption | (apply HAt.left; assumption) | apply HAt.there | apply HAt.right)) (by first | rfl | assumption | (simp [*]; done) | fail) (by first | rfl | assumption | (simp [*]; done) | fail) (by decide)) rfl ?_ | refine aqs rfl (q_ldW ag136 sz136 rfl (by first | rfl | assumption | (simp [*]; done) | fail)) rfl ?_ | refine aqs rfl (q_ldpP ag136 sz136 rfl (by repeat (first | exact .here | assumption | (apply HAt.left; assumption) | apply HAt.there | apply HAt.right)) (by first | rfl | assumption | (simp [*]; done) | fail) (by first | decide | (simp; done) | omega | fail) (by decide) (by first | ((repeat constructor); done) | exact .same _)) rfl ?_ | refine aqs rfl (q_ldP ag136 sz136 rfl (by first | decide | (simp; done) | omega | fail) (by first | ((repeat constructor); done) | exact .same _)) rfl ?_
  refine aqs rfl (q_mv (by constructor)) rfl ?_
  refine aqs rfl (q_mv (by constructor)) rfl ?_
  first | refine aqs rfl (e_callN cb118 (put118_p hcl (by omega) hp) rfl rfl) rfl ?_ | refine aqs rfl (e_callN cb118 (ACall.arg (put118_p hcl (by omega) hp) (by repeat (first | exact ArgL.nil | (apply ArgL.cons; (· first | exact .same | exact .cro | exact .nil))))) rfl rfl) rfl ?_
  refine aqs rfl (q_mv (by constructor)) rfl ?_
  refine aqs rfl (q_ex rfl rfl (by constructor)) rfl ?_
  refine aqs rfl (q_ex rfl rfl (by constructor)) rfl ?_
  (refine aes rfl (e_al (xs := [.lit (.int .i64 0), .lit (.int .i64 0), .lit (.slice none 0 0), .lit (.int .i64 0), .lit (.int .i64 0), .lit (.int .i64 0), .lit (.int .i64 0)]) (k := 7) zr136 (.same _) rfl) rfl ?_; rintro _ _ ⟨u11, rfl, rfl⟩)
  first | (refine aen rfl (e_stW sz136 rfl (by repeat (first | exact .here | assumption | (apply HAt.left; assumption) | apply HAt.there | apply HAt.right)) (by constructor) (by first | rfl | assumption | (simp [*]; done) | fail) rfl (by repeat (first | exact .here | apply HSet.there))) ?_; rintro _ _ ⟨rfl, rfl⟩) | (refine aen rfl (e_stP sz136 rfl (by repeat (first | exact .here | assumption | (apply HAt.left; assumption) | apply HAt.there | apply HAt.right)) (by first | rfl | assumption | (simp [*]; done) | fail) (by constructor) (by first | rfl | assumption | (simp [*]; done) | fail) rfl (by first | decide | omega) (by first | ((repeat constructor); done) | exact .same _) (by first | exact .one | exact .set) (by repeat (first | exact .here | apply HSet.there))) ?_; rintro _ _ ⟨rfl, rfl⟩)
  refine aqs rfl (q_as (by constructor)) rfl ?_
  refine alist_nil ?_
  show AWP _ _ _ _
  refine awp_seq ?_
  refine awp_region ?_
  first | refine aqs rfl (q_ldpW ag136 sz136 rfl (by repeat (first | exact .here | assumption | (apply HAt.left; assumption) | apply HAt.there | apply HAt.right)) (by first | rfl | assumption | (simp [*]; done) | fail) (by first | rfl | assumption | (simp [*]; done) | fail) (by decide)) rfl ?_ | refine aqs rfl (q_ldW ag136 sz136 rfl (by first | rfl | assumption | (simp [*]; done) | fail)) rfl ?_ | refine aqs rfl (q_ldpP ag136 sz136 rfl (by repeat (first | exact .here | assumption | (apply HAt.left; assumption) | apply HAt.there | apply HAt.right)) (by first | rfl | assumption | (simp [*]; done) | fail) (by first | decide | (simp; done) | omega | fail) (by decide) (by first | ((repeat constructor); done) | exact .same _)) rfl ?_ | refine aqs rfl (q_ldP ag136 sz136 rfl (by first | decide | (simp; done) | omega | fail) (by first | ((repeat constructor); done) | exact .same _)) rfl ?_
  refine aqs rfl (q_mv (by constructor)) rfl ?_
  refine aqs rfl (q_mv (by constructor)) rfl ?_
  first | refine aqs rfl (e_callN cb116 (get116_p gd.clen (by omega) hp1) rfl rfl) rfl ?_ | refine aqs rfl (e_callN cb116 (ACall.arg (get116_p gd.clen (by omega) hp1) (by repeat (first | exact ArgL.nil | (apply ArgL.cons; (· first | exact .same | exact .cro | exact .nil))))) rfl rfl) rfl ?_
  refine aqs rfl (q_mv (by constructor)) rfl ?_
  refine aqs rfl (q_ex rfl rfl (by constructor)) rfl ?_
  refine aqs rfl (q_ex rfl rfl (by constructor)) rfl ?_
  refine aqs rfl (q_ex rfl rfl (by constructor)) rfl ?_
  (refine aes rfl (e_al (xs := [.lit (.int .i64 0), .lit (.int .i64 0), .lit (.slice none 0 0), .lit (.int .i64 0), .lit (.int .i64 0), .lit (.int .i64 0), .lit (.int .i64 0)]) (k := 7) zr136 (.same _) rfl) rfl ?_; rintro _ _ ⟨u14, rfl, rfl⟩)
  refine aqs rfl (q_as (by constructor)) rfl ?_
  first | (refine aen rfl (e_stW sz136 rfl (by repeat (first | exact .here | assumption | (apply HAt.left; assumption) | apply HAt.there | apply HAt.right)) (by constructor) (by first | rfl | assumption | (simp [*]; done) | fail) rfl (by repeat (first | exact .here | apply HSet.there))) ?_; rintro _ _ ⟨rfl, rfl⟩) | (refine aen rfl (e_stP sz136 rfl (by repeat (first | exact .here | assumption | (apply HAt.left; assumption) | apply HAt.there | apply HAt.right)) (by first | rfl | assumption | (simp [*]; done) | fail) (by constructor) (by first | rfl | assumption | (simp [*]; done) | fail) rfl (by first | decide | omega) (by first | ((repeat constructor); done) | exact .same _) (by first | exact .one | exact .set) (by repeat (first | exact .here | apply HSet.there))) ?_; rintro _ _ ⟨rfl, rfl⟩)
  refine aqs rfl (q_as (by constructor)) rfl ?_
  refine alist_nil ?_
  show AWP _ _ _ _
  refine awp_seq ?_
  refine awp_region ?_
  first | refine aqs rfl (q_ldpW ag136 sz136 rfl (by repeat (first | exact .here | assumption | (apply HAt.left; assumption) | apply HAt.there | apply HAt.right)) (by first | rfl | assumption | (simp [*]; done) | fail) (by first | rfl | assumption | (simp [*]; done) | fail) (by decide)) rfl ?_ | refine aqs rfl (q_ldW ag136 sz136 rfl (by first | rfl | assumption | (simp [*]; done) | fail)) rfl ?_ | refine aqs rfl (q_ldpP ag136 sz136 rfl (by repeat (first | exact .here | assumption | (apply HAt.left; assumption) | apply HAt.there | apply HAt.right)) (by first | rfl | assumption | (simp [*]; done) | fail) (by first | decide | (simp; done) | omega | fail) (by decide) (by first | ((repeat constructor); done) | exact .same _)) rfl ?_ | refine aqs rfl (q_ldP ag136 sz136 rfl (by first | decide | (simp; done) | omega | fail) (by first | ((repeat constructor); done) | exact .same _)) rfl ?_
  refine aqs rfl (q_mv (by constructor)) rfl ?_
  refine aqs rfl (q_mv (by constructor)) rfl ?_
  first | refine aqs rfl (e_callN cb116 (get116_p gd1.clen (by omega) hp2) rfl rfl) rfl ?_ | refine aqs rfl (e_callN cb116 (ACall.arg (get116_p gd1.clen (by omega) hp2) (by repeat (first | exact ArgL.nil | (apply ArgL.cons; (· first | exact .same | exact .cro | exact .nil))))) rfl rfl) rfl ?_
  refine aqs rfl (q_mv (by constructor)) rfl ?_
  refine aqs rfl (q_ex rfl rfl (by constructor)) rfl ?_
  refine aqs rfl (q_ex rfl rfl (by constructor)) rfl ?_
  refine aqs rfl (q_ex rfl rfl (by constructor)) rfl ?_
  (refine aes rfl (e_al (xs := [.lit (.int .i64 0), .lit (.int .i64 0), .lit (.slice none 0 0), .lit (.int .i64 0), .lit (.int .i64 0), .lit (.int .i64 0), .lit (.int .i64 0)]) (k := 7) zr136 (.same _) rfl) rfl ?_; rintro _ _ ⟨u17, rfl, rfl⟩)
  refine aqs rfl (q_as (by constructor)) rfl ?_
  first | (refine aen rfl (e_stW sz136 rfl (by repeat (first | exact .here | assumption | (apply HAt.left; assumption) | apply HAt.there | apply HAt.right)) (by constructor) (by first | rfl | assumption | (simp [*]; done) | fail) rfl (by repeat (first | exact .here | apply HSet.there))) ?_; rintro _ _ ⟨rfl, rfl⟩) | (refine aen rfl (e_stP sz136 rfl (by repeat (first | exact .here | assumption | (apply HAt.left; assumption) | apply HAt.there | apply HAt.right)) (by first | rfl | assumption | (simp [*]; done) | fail) (by constructor) (by first | rfl | assumption | (simp [*]; done) | fail) rfl (by first | decide | omega) (by first | ((repeat constructor); done) | exact .same _) (by first | exact .one | exact .set) (by repeat (first | exact .here | apply HSet.there))) ?_; rintro _ _ ⟨rfl, rfl⟩)
  refine aqs rfl (q_as (by constructor)) rfl ?_
  refine alist_nil ?_
  show AWP _ _ _ _
  refine awp_seq ?_
  refine awp_mid [(100, .lit (.bool false)), (7, .lit (.bool true)), (9, .lit (.string l)), (10, .lit (.string r)), (11, .ptr u11 0 0), (17, .ptr u17 0 0), (5, .ptr u5 0 0)] ?_ ?_
  ·skip
   refine awp_region ?_
   all_goals (refine aqs rfl (q_mv (by constructor)) rfl ?_)
   all_goals (refine aqs rfl (castF (q_neq rfl rfl) (by rfl)) rfl ?_)
   all_goals (refine aqs rfl (q_mv (by constructor)) rfl ?_)
   all_goals (first | refine ans rfl rfl ?_ | refine aqs rfl (q_mv (by constructor)) rfl ?_)
   all_goals (first | refine ans rfl rfl ?_ | refine aqs rfl (q_mv (by constructor)) rfl ?_)
   all_goals (first | refine ans rfl rfl ?_ | refine aqs rfl (castF (q_neq rfl rfl) (by simp)) rfl ?_)
   all_goals (first | refine aqs rfl (q_pickT rfl (by constructor)) rfl ?_ | refine aqs rfl (q_pickF rfl (by constructor)) rfl ?_)
   all_goals (refine aqs rfl (q_mv (by constructor)) rfl ?_)
   all_goals (first | refine ans rfl rfl ?_ | refine aqs rfl (q_mv (by constructor)) rfl ?_)
   all_goals (first | refine ans rfl rfl ?_ | refine aqs rfl (q_mv (by constructor)) rfl ?_)
   all_goals (first | refine ans rfl rfl ?_ | refine aqs rfl (castF (q_sneq rfl rfl) (by simp)) rfl ?_)
   all_goals (first | refine aqs rfl (q_pickT rfl (by constructor)) rfl ?_ | refine aqs rfl (q_pickF rfl (by constructor)) rfl ?_)
   all_goals (refine aqs rfl (q_mv (by constructor)) rfl ?_)
   all_goals (first | refine ans rfl rfl ?_ | refine aqs rfl (q_mv (by constructor)) rfl ?_)
   all_goals (first | refine ans rfl rfl ?_ | refine aqs rfl (q_eql rfl rfl) rfl ?_)
   all_goals (first | refine ans rfl rfl ?_ | refine aqs rfl (q_mv (by constructor)) rfl ?_)
   all_goals try (refine acase (fun hb15 => ?_) (fun hb15 => ?_))
   all_goals first | (exfalso; cases hb15; done) | skip
   all_goals (first | refine ans rfl rfl ?_ | refine aqs rfl (q_mv (by constructor)) rfl ?_)
   all_goals (first | refine ans rfl rfl ?_ | refine aqs rfl (castF (q_sneq rfl rfl) (by exact hcs.elim (fun h => by rw [h.2]; simp [sNew]) (fun h => by exfalso; simp [h.1] at hb15))) rfl ?_)
   all_goals (first | refine ans rfl rfl ?_ | refine aqs rfl (q_pickT rfl (by constructor)) rfl ?_ | refine aqs rfl (q_pickF rfl (by constructor)) rfl ?_)
   all_goals (first | refine aqs rfl (q_pickT rfl (by constructor)) rfl ?_ | refine aqs rfl (q_pickF rfl (by constructor)) rfl ?_)
   all_goals (refine aqs rfl (q_mv (by constructor)) rfl ?_)
   all_goals (first | refine ans rfl rfl ?_ | refine aqs rfl (q_fapP fl136_1 (by decide) rfl rfl) rfl ?_ | refine aqs rfl (q_faP fl136_1 (by decide) rfl (by first | ((repeat constructor); done) | exact .same _)) rfl ?_)
   all_goals (first | refine ans rfl rfl ?_ | refine aqs rfl (q_ldpN ag3 rfl (by repeat (first | exact .here | assumption | (apply HAt.left; assumption) | apply HAt.there | apply HAt.right)) (by first | rfl | assumption | (simp [*]; done) | fail) (by first | rfl | assumption | (simp [*]; done) | fail) (by constructor)) rfl ?_ | refine aqs rfl (q_ld1N ag3 rfl (by constructor)) rfl ?_)
   all_goals (first | refine ans rfl rfl ?_ | refine aqs rfl (q_fapP fl136_2 (by decide) rfl rfl) rfl ?_ | refine aqs rfl (q_faP fl136_2 (by decide) rfl (by first | ((repeat constructor); done) | exact .same _)) rfl ?_)
   all_goals (first | refine ans rfl rfl ?_ | refine aqs rfl (q_ldpN ag42 rfl (by repeat (first | exact .here | assumption | (apply HAt.left; assumption) | apply HAt.there | apply HAt.right)) (by first | rfl | assumption | (simp [*]; done) | fail) (by first | rfl | assumption | (simp [*]; done) | fail) (by constructor)) rfl ?_ | refine aqs rfl (q_ld1N ag42 rfl (by constructor)) rfl ?_)
   all_goals (first | refine ans rfl rfl ?_ | refine aqs rfl (castQ (r2 := .lit (.int .i64 (c.parts.length : Nat))) (q_len Try.underlying42 .ro) (by rw [hrn])) rfl ?_ | refine aqs rfl (castQ (r2 := .lit (.int .i64 (c.parts.length : Nat))) (q_lenO Try.underlying42 rfl (by repeat (first | exact .here | assumption | (apply HAt.left; assumption) | apply HAt.there | apply HAt.right)) (by first | omega | (simp; done) | (simp; omega) | fail) (by first | exact Nat.sub_zero _ | rfl)) (by rw [hrn])) rfl ?_ | refine aqs rfl (castQ (r2 := .lit (.int .i64 (c.parts.length : Nat))) (q_len Try.underlying42 .nil) (by rw [hrn])) rfl ?_ | refine aqs rfl (castQ (r2 := .lit (.int .i64 (c.parts.length : Nat))) (q_len Try.underlying42 .cro) (by rw [hrn])) rfl ?_)
   all_goals (first | refine ans rfl rfl ?_ | refine aqs rfl (q_geq rfl rfl) rfl ?_)
   all_goals (first | refine ans rfl rfl ?_ | refine aqs rfl (q_mv (by constructor)) rfl ?_)
   all_goals try (refine acase (fun hb27 => ?_) (fun hb27 => ?_))
   all_goals first | (exfalso; cases hb27; done) | skip
   all_goals (first | refine ans rfl rfl ?_ | refine aqs rfl (q_mv (by constructor)) rfl ?_)
   all_goals (first | refine ans rfl rfl ?_ | refine aqs rfl (castF (q_neq rfl rfl) (by exact hcs.elim (fun h => by simp [h.1]) (fun h => by exfalso; simp at hb27; omega))) rfl ?_)
   all_goals (first | refine ans rfl rfl ?_ | refine aqs rfl (q_pickT rfl (by constructor)) rfl ?_ | refine aqs rfl (q_pickF rfl (by constructor)) rfl ?_)
   all_goals (first | refine aqs rfl (q_pickT rfl (by constructor)) rfl ?_ | refine aqs rfl (q_pickF rfl (by constructor)) rfl ?_)
   all_goals (refine alist_nil ?_)
   all_goals (exact ⟨rfl, .mk' (by repeat (first | exact trivial | refine ⟨rfl, ?_⟩ | (refine ⟨?_, ?_⟩; (· first | (rw [hb15, hb27]; rfl) | (rw [hb15]; rfl) | fail)))) (by repeat (first | exact .refl _ | exact List.nil_sublist _ | exact List.sublist_append_left _ _ | apply List.Sublist.cons))⟩)
  refine awp_cond rfl (fun hc0 => ?_) (fun hc0 => ?_)
  ·exfalso; first | (simp at hc0; done) | (simp at hc0; omega) | contradiction
  ·try simp only [decide_eq_true_eq, decide_eq_false_iff_not, Bool.not_eq_true', Bool.not_eq_false', Bool.not_eq_eq_eq_not, Bool.not_true, Bool.not_false, beq_iff_eq, beq_eq_false_iff_ne, Int.not_lt, Int.not_le] at hc0
   refine awp_skip ?_
   show AWP _ _ _ _
   refine awp_seq ?_
   refine awp_region ?_
   first | refine aqs rfl (q_fapP fl136_3 (by decide) rfl rfl) rfl ?_ | refine aqs rfl (q_faP fl136_3 (by decide) rfl (by first | ((repeat constructor); done) | exact .same _)) rfl ?_
   first | refine aqs rfl (q_ldpN ag3 rfl (by repeat (first | exact .here | assumption | (apply HAt.left; assumption) | apply HAt.there | apply HAt.right)) (by first | rfl | assumption | (simp [*]; done) | fail) (by first | rfl | assumption | (simp [*]; done) | fail) (by constructor)) rfl ?_ | refine aqs rfl (q_ld1N ag3 rfl (by constructor)) rfl ?_
   first | refine aqs rfl (q_fapP fl136_3 (by decide) rfl rfl) rfl ?_ | refine aqs rfl (q_faP fl136_3 (by decide) rfl (by first | ((repeat constructor); done) | exact .same _)) rfl ?_
   first | (refine aen rfl (e_stW sz3 rfl (by repeat (first | exact .here | assumption | (apply HAt.left; assumption) | apply HAt.there | apply HAt.right)) (by constructor) (by first | rfl | assumption | (simp [*]; done) | fail) rfl (by repeat (first | exact .here | apply HSet.there))) ?_; rintro _ _ ⟨rfl, rfl⟩) | (refine aen rfl (e_stP sz3 rfl (by repeat (first | exact .here | assumption | (apply HAt.left; assumption) | apply HAt.there | apply HAt.right)) (by first | rfl | assumption | (simp [*]; done) | fail) (by constructor) (by first | rfl | assumption | (simp [*]; done) | fail) rfl (by first | decide | omega) (by first | ((repeat constructor); done) | exact .same _) (by first | exact .one | exact .set) (by repeat (first | exact .here | apply HSet.there))) ?_; rintro _ _ ⟨rfl, rfl⟩)
   refine alist_nil ?_
   show AWP _ _ _ _
   refine awp_seq ?_
   refine awp_region ?_
   first | refine aqs rfl (q_fapP fl136_4 (by decide) rfl rfl) rfl ?_ | refine aqs rfl (q_faP fl136_4 (by decide) rfl (by first | ((repeat constructor); done) | exact .same _)) rfl ?_
   first | refine aqs rfl (q_ldpN ag3 rfl (by repeat (first | exact .here | assumption | (apply HAt.left; assumption) | apply HAt.there | apply HAt.right)) (by first | rfl | assumption | (simp [*]; done) | fail) (by first | rfl | assumption | (simp [*]; done) | fail) (by constructor)) rfl ?_ | refine aqs rfl (q_ld1N ag3 rfl (by constructor)) rfl ?_
   first | refine aqs rfl (q_fapP fl136_4 (by decide) rfl rfl) rfl ?_ | refine aqs rfl (q_faP fl136_4 (by decide) rfl (by first | ((repeat constructor); done) | exact .same _)) rfl ?_
   first | (refine aen rfl (e_stW sz3 rfl (by repeat (first | exact .here | assumption | (apply HAt.left; assumption) | apply HAt.there | apply HAt.right)) (by constructor) (by first | rfl | assumption | (simp [*]; done) | fail) rfl (by repeat (first | exact .here | apply HSet.there))) ?_; rintro _ _ ⟨rfl, rfl⟩) | (refine aen rfl (e_stP sz3 rfl (by repeat (first | exact .here | assumption | (apply HAt.left; assumption) | apply HAt.there | apply HAt.right)) (by first | rfl | assumption | (simp [*]; done) | fail) (by constructor) (by first | rfl | assumption | (simp [*]; done) | fail) rfl (by first | decide | omega) (by first | ((repeat constructor); done) | exact .same _) (by first | exact .one | exact .set) (by repeat (first | exact .here | apply HSet.there))) ?_; rintro _ _ ⟨rfl, rfl⟩)
   refine alist_nil ?_
   show AWP _ _ _ _
   refine awp_seq ?_
   refine awp_seq ?_
   refine awp_region ?_
   first | refine aqs rfl (q_ldpW ag136 sz136 rfl (by repeat (first | exact .here | assumption | (apply HAt.left; assumption) | apply HAt.there | apply HAt.right)) (by first | rfl | assumption | (simp [*]; done) | fail) (by first | rfl | assumption | (simp [*]; done) | fail) (by decide)) rfl ?_ | refine aqs rfl (q_ldW ag136 sz136 rfl (by first | rfl | assumption | (simp [*]; done) | fail)) rfl ?_ | refine aqs rfl (q_ldpP ag136 sz136 rfl (by repeat (first | exact .here | assumption | (apply HAt.left; assumption) | apply HAt.there | apply HAt.right)) (by first | rfl | assumption | (simp [*]; done) | fail) (by first | decide | (simp; done) | omega | fail) (by decide) (by first | ((repeat constructor); done) | exact .same _)) rfl ?_ | refine aqs rfl (q_ldP ag136 sz136 rfl (by first | decide | (simp; done) | omega | fail) (by first | ((repeat constructor); done) | exact .same _)) rfl ?_
   first | refine aqs rfl (q_ldpW ag136 sz136 rfl (by repeat (first | exact .here | assumption | (apply HAt.left; assumption) | apply HAt.there | apply HAt.right)) (by first | rfl | assumption | (simp [*]; done) | fail) (by first | rfl | assumption | (simp [*]; done) | fail) (by decide)) rfl ?_ | refine aqs rfl (q_ldW ag136 sz136 rfl (by first | rfl | assumption | (simp [*]; done) | fail)) rfl ?_ | refine aqs rfl (q_ldpP ag136 sz136 rfl (by repeat (first | exact .here | assumption | (apply HAt.left; assumption) | apply HAt.there | apply HAt.right)) (by first | rfl | assumption | (simp [*]; done) | fail) (by first | decide | (simp; done) | omega | fail) (by decide) (by first | ((repeat constructor); done) | exact .same _)) rfl ?_ | refine aqs rfl (q_ldP ag136 sz136 rfl (by first | decide | (simp; done) | omega | fail) (by first | ((repeat constructor); done) | exact .same _)) rfl ?_
   first | refine aqs rfl (e_callN cb109 (same109_c ⟨d2.width, d2.room, d2.parts, d.hits, d.misses, d2.clashes, d2.evicted⟩ d hcm gd.clen _) rfl rfl) rfl ?_ | refine aqs rfl (e_callN cb109 (ACall.arg (same109_c ⟨d2.width, d2.room, d2.parts, d.hits, d.misses, d2.clashes, d2.evicted⟩ d hcm gd.clen _) (by repeat (first | exact ArgL.nil | (apply ArgL.cons; (· first | exact .same | exact .cro | exact .nil))))) rfl rfl) rfl ?_
   refine aqs rfl (castF (q_not rfl) (by simp [heq])) rfl ?_
   refine alist_nil ?_
   show AWP _ _ _ _
   refine awp_cond rfl (fun hc1 => ?_) (fun hc1 => ?_)
   ·exfalso; first | (simp at hc1; done) | (simp at hc1; omega) | contradiction
   ·try simp only [decide_eq_true_eq, decide_eq_false_iff_not, Bool.not_eq_true', Bool.not_eq_false', Bool.not_eq_eq_eq_not, Bool.not_true, Bool.not_false, beq_iff_eq, beq_eq_false_iff_ne, Int.not_lt, Int.not_le] at hc1
    refine awp_skip ?_
    show AWP _ _ _ _
    refine awp_seq ?_
    refine awp_region ?_
    first | refine aqs rfl (e_callN cb107 (new107_p n64) rfl rfl) rfl ?_ | refine aqs rfl (e_callN cb107 (ACall.arg (new107_p n64) (by repeat (first | exact ArgL.nil | (apply ArgL.cons; (· first | exact .same | exact .cro | exact .nil))))) rfl rfl) rfl ?_
    refine aqs rfl (q_mv (by constructor)) rfl ?_
    refine aqs rfl (q_ex rfl rfl (by constructor)) rfl ?_
    refine aqs rfl (q_ex rfl rfl (by constructor)) rfl ?_
    (refine aes rfl (e_al (xs := [.lit (.int .i64 0), .lit (.int .i64 0), .lit (.slice none 0 0), .lit (.int .i64 0), .lit (.int .i64 0), .lit (.int .i64 0), .lit (.int .i64 0)]) (k := 7) zr136 (.same _) rfl) rfl ?_; rintro _ _ ⟨u19, rfl, rfl⟩)
    first | (refine aen rfl (e_stW sz136 rfl (by repeat (first | exact .here | assumption | (apply HAt.left; assumption) | apply HAt.there | apply HAt.right)) (by constructor) (by first | rfl | assumption | (simp [*]; done) | fail) rfl (by repeat (first | exact .here | apply HSet.there))) ?_; rintro _ _ ⟨rfl, rfl⟩) | (refine aen rfl (e_stP sz136 rfl (by repeat (first | exact .here | assumption | (apply HAt.left; assumption) | apply HAt.there | apply HAt.right)) (by first | rfl | assumption | (simp [*]; done) | fail) (by constructor) (by first | rfl | assumption | (simp [*]; done) | fail) rfl (by first | decide | omega) (by first | ((repeat constructor); done) | exact .same _) (by first | exact .one | exact .set) (by repeat (first | exact .here | apply HSet.there))) ?_; rintro _ _ ⟨rfl, rfl⟩)
    refine aqs rfl (q_as (by constructor)) rfl ?_
    refine alist_nil ?_
    show AWP _ _ _ _
    refine awp_seq ?_
    refine awp_region ?_
    first | refine aqs rfl (e_callN cb107 (new107_p n0) rfl rfl) rfl ?_ | refine aqs rfl (e_callN cb107 (ACall.arg (new107_p n0) (by repeat (first | exact ArgL.nil | (apply ArgL.cons; (· first | exact .same | exact .cro | exact .nil))))) rfl rfl) rfl ?_
    refine aqs rfl (q_mv (by constructor)) rfl ?_
    refine aqs rfl (q_ex rfl rfl (by constructor)) rfl ?_
    refine aqs rfl (q_ex rfl rfl (by constructor)) rfl ?_
    (refine aes rfl (e_al (xs := [.lit (.int .i64 0), .lit (.int .i64 0), .lit (.slice none 0 0), .lit (.int .i64 0), .lit (.int .i64 0), .lit (.int .i64 0), .lit (.int .i64 0)]) (k := 7) zr136 (.same _) rfl) rfl ?_; rintro _ _ ⟨u21, rfl, rfl⟩)
    first | (refine aen rfl (e_stW sz136 rfl (by repeat (first | exact .here | assumption | (apply HAt.left; assumption) | apply HAt.there | apply HAt.right)) (by constructor) (by first | rfl | assumption | (simp [*]; done) | fail) rfl (by repeat (first | exact .here | apply HSet.there))) ?_; rintro _ _ ⟨rfl, rfl⟩) | (refine aen rfl (e_stP sz136 rfl (by repeat (first | exact .here | assumption | (apply HAt.left; assumption) | apply HAt.there | apply HAt.right)) (by first | rfl | assumption | (simp [*]; done) | fail) (by constructor) (by first | rfl | assumption | (simp [*]; done) | fail) rfl (by first | decide | omega) (by first | ((repeat constructor); done) | exact .same _) (by first | exact .one | exact .set) (by repeat (first | exact .here | apply HSet.there))) ?_; rintro _ _ ⟨rfl, rfl⟩)
    refine aqs rfl (q_as (by constructor)) rfl ?_
    refine alist_nil ?_
    show AWP _ _ _ _
    refine awp_seq ?_
    refine awp_region ?_
    first | refine aqs rfl (q_ldpW ag136 sz136 rfl (by repeat (first | exact .here | assumption | (apply HAt.left; assumption) | apply HAt.there | apply HAt.right)) (by first | rfl | assumption | (simp [*]; done) | fail) (by first | rfl | assumption | (simp [*]; done) | fail) (by decide)) rfl ?_ | refine aqs rfl (q_ldW ag136 sz136 rfl (by first | rfl | assumption | (simp [*]; done) | fail)) rfl ?_ | refine aqs rfl (q_ldpP ag136 sz136 rfl (by repeat (first | exact .here | assumption | (apply HAt.left; assumption) | apply HAt.there | apply HAt.right)) (by first | rfl | assumption | (simp [*]; done) | fail) (by first | decide | (simp; done) | omega | fail) (by decide) (by first | ((repeat constructor); done) | exact .same _)) rfl ?_ | refine aqs rfl (q_ldP ag136 sz136 rfl (by first | decide | (simp; done) | omega | fail) (by first | ((repeat constructor); done) | exact .same _)) rfl ?_
    refine aqs rfl (q_mv (by constructor)) rfl ?_
    refine aqs rfl (q_mv (by constructor)) rfl ?_
    first | refine aqs rfl (e_callN cb118 (put118_p (good_lone (by omega)).clen (by omega) hp6) rfl rfl) rfl ?_ | refine aqs rfl (e_callN cb118 (ACall.arg (put118_p (good_lone (by omega)).clen (by omega) hp6) (by repeat (first | exact ArgL.nil | (apply ArgL.cons; (· first | exact .same | exact .cro | exact .nil))))) rfl rfl) rfl ?_
    refine aqs rfl (q_mv (by constructor)) rfl ?_
    refine aqs rfl (q_ex rfl rfl (by constructor)) rfl ?_
    refine aqs rfl (q_ex rfl rfl (by constructor)) rfl ?_
    (refine aes rfl (e_al (xs := [.lit (.int .i64 0), .lit (.int .i64 0), .lit (.slice none 0 0), .lit (.int .i64 0), .lit (.int .i64 0), .lit (.int .i64 0), .lit (.int .i64 0)]) (k := 7) zr136 (.same _) rfl) rfl ?_; rintro _ _ ⟨u23, rfl, rfl⟩)
    first | (refine aen rfl (e_stW sz136 rfl (by repeat (first | exact .here | assumption | (apply HAt.left; assumption) | apply HAt.there | apply HAt.right)) (by constructor) (by first | rfl | assumption | (simp [*]; done) | fail) rfl (by repeat (first | exact .here | apply HSet.there))) ?_; rintro _ _ ⟨rfl, rfl⟩) | (refine aen rfl (e_stP sz136 rfl (by repeat (first | exact .here | assumption | (apply HAt.left; assumption) | apply HAt.there | apply HAt.right)) (by first | rfl | assumption | (simp [*]; done) | fail) (by constructor) (by first | rfl | assumption | (simp [*]; done) | fail) rfl (by first | decide | omega) (by first | ((repeat constructor); done) | exact .same _) (by first | exact .one | exact .set) (by repeat (first | exact .here | apply HSet.there))) ?_; rintro _ _ ⟨rfl, rfl⟩)
    refine aqs rfl (q_as (by constructor)) rfl ?_
    refine alist_nil ?_
    show AWP _ _ _ _
    refine awp_seq ?_
    refine awp_region ?_
    first | refine aqs rfl (q_ldpW ag136 sz136 rfl (by repeat (first | exact .here | assumption | (apply HAt.left; assumption) | apply HAt.there | apply HAt.right)) (by first | rfl | assumption | (simp [*]; done) | fail) (by first | rfl | assumption | (simp [*]; done) | fail) (by decide)) rfl ?_ | refine aqs rfl (q_ldW ag136 sz136 rfl (by first | rfl | assumption | (simp [*]; done) | fail)) rfl ?_ | refine aqs rfl (q_ldpP ag136 sz136 rfl (by repeat (first | exact .here | assumption | (apply HAt.left; assumption) | apply HAt.there | apply HAt.right)) (by first | rfl | assumption | (simp [*]; done) | fail) (by first | decide | (simp; done) | omega | fail) (by decide) (by first | ((repeat constructor); done) | exact .same _)) rfl ?_ | refine aqs rfl (q_ldP ag136 sz136 rfl (by first | decide | (simp; done) | omega | fail) (by first | ((repeat constructor); done) | exact .same _)) rfl ?_
    refine aqs rfl (q_mv (by constructor)) rfl ?_
    refine aqs rfl (q_mv (by constructor)) rfl ?_
    first | refine aqs rfl (e_callN cb118 (put118_p (good_lone (by omega)).clen (by omega) hp0) rfl rfl) rfl ?_ | refine aqs rfl (e_callN cb118 (ACall.arg (put118_p (good_lone (by omega)).clen (by omega) hp0) (by repeat (first | exact ArgL.nil | (apply ArgL.cons; (· first | exact .same | exact .cro | exact .nil))))) rfl rfl) rfl ?_
    refine aqs rfl (q_mv (by constructor)) rfl ?_
    refine aqs rfl (q_ex rfl rfl (by constructor)) rfl ?_
    refine aqs rfl (q_ex rfl rfl (by constructor)) rfl ?_
    (refine aes rfl (e_al (xs := [.lit (.int .i64 0), .lit (.int .i64 0), .lit (.slice none 0 0), .lit (.int .i64 0), .lit (.int .i64 0), .lit (.int .i64 0), .lit (.int .i64 0)]) (k := 7) zr136 (.same _) rfl) rfl ?_; rintro _ _ ⟨u25, rfl, rfl⟩)
    first | (refine aen rfl (e_stW sz136 rfl (by repeat (first | exact .here | assumption | (apply HAt.left; assumption) | apply HAt.there | apply HAt.right)) (by constructor) (by first | rfl | assumption | (simp [*]; done) | fail) rfl (by repeat (first | exact .here | apply HSet.there))) ?_; rintro _ _ ⟨rfl, rfl⟩) | (refine aen rfl (e_stP sz136 rfl (by repeat (first | exact .here | assumption | (apply HAt.left; assumption) | apply HAt.there | apply HAt.right)) (by first | rfl | assumption | (simp [*]; done) | fail) (by constructor) (by first | rfl | assumption | (simp [*]; done) | fail) rfl (by first | decide | omega) (by first | ((repeat constructor); done) | exact .same _) (by first | exact .one | exact .set) (by repeat (first | exact .here | apply HSet.there))) ?_; rintro _ _ ⟨rfl, rfl⟩)
    refine aqs rfl (q_as (by constructor)) rfl ?_
    refine alist_nil ?_
    show AWP _ _ _ _
    refine awp_seq ?_
    refine awp_region ?_
    first | refine aqs rfl (q_iaA Try.underlying155 sz3 rfl rfl (by omega) (by omega) rfl) rfl ?_ | refine aqs rfl (q_iaI Try.underlying155 sz3 rfl rfl (by omega) (by omega) (by first | ((repeat constructor); done) | exact .same _)) rfl ?_
    first | refine aqs rfl (q_ldpN ag3 rfl (by repeat (first | exact .here | assumption | (apply HAt.left; assumption) | apply HAt.there | apply HAt.right)) (by first | rfl | assumption | (simp [*]; done) | fail) (by first | rfl | assumption | (simp [*]; done) | fail) (by constructor)) rfl ?_ | refine aqs rfl (q_ld1N ag3 rfl (by constructor)) rfl ?_
    first | refine aqs rfl (e_callN cb96 (hx ▸ text96_c k.c wk.2.2.1 _) rfl rfl) rfl ?_ | refine aqs rfl (e_callN cb96 (ACall.arg (hx ▸ text96_c k.c wk.2.2.1 _) (by repeat (first | exact ArgL.nil | (apply ArgL.cons; (· first | exact .same | exact .cro | exact .nil))))) rfl rfl) rfl ?_
    refine aqs rfl (q_as (by constructor)) rfl ?_
    refine alist_nil ?_
    show AWP _ _ _ _
    refine awp_seq ?_
    refine awp_region ?_
    first | refine aqs rfl (q_iaA Try.underlying155 sz3 rfl rfl (by omega) (by omega) rfl) rfl ?_ | refine aqs rfl (q_iaI Try.underlying155 sz3 rfl rfl (by omega) (by omega) (by first | ((repeat constructor); done) | exact .same _)) rfl ?_
    first | refine aqs rfl (q_ldpN ag3 rfl (by repeat (first | exact .here | assumption | (apply HAt.left; assumption) | apply HAt.there | apply HAt.right)) (by first | rfl | assumption | (simp [*]; done) | fail) (by first | rfl | assumption | (simp [*]; done) | fail) (by constructor)) rfl ?_ | refine aqs rfl (q_ld1N ag3 rfl (by constructor)) rfl ?_
    first | refine aqs rfl (e_callN cb96 (hy ▸ text96_c k.d wk.2.2.2 _) rfl rfl) rfl ?_ | refine aqs rfl (e_callN cb96 (ACall.arg (hy ▸ text96_c k.d wk.2.2.2 _) (by repeat (first | exact ArgL.nil | (apply ArgL.cons; (· first | exact .same | exact .cro | exact .nil))))) rfl rfl) rfl ?_
    refine aqs rfl (q_as (by constructor)) rfl ?_
    refine alist_nil ?_
    show AWP _ _ _ _
    refine awp_seq ?_
    refine awp_region ?_
    first | refine aqs rfl (q_ldpW ag136 sz136 rfl (by repeat (first | exact .here | assumption | (apply HAt.left; assumption) | apply HAt.there | apply HAt.right)) (by first | rfl | assumption | (simp [*]; done) | fail) (by first | rfl | assumption | (simp [*]; done) | fail) (by decide)) rfl ?_ | refine aqs rfl (q_ldW ag136 sz136 rfl (by first | rfl | assumption | (simp [*]; done) | fail)) rfl ?_ | refine aqs rfl (q_ldpP ag136 sz136 rfl (by repeat (first | exact .here | assumption | (apply HAt.left; assumption) | apply HAt.there | apply HAt.right)) (by first | rfl | assumption | (simp [*]; done) | fail) (by first | decide | (simp; done) | omega | fail) (by decide) (by first | ((repeat constructor); done) | exact .same _)) rfl ?_ | refine aqs rfl (q_ldP ag136 sz136 rfl (by first | decide | (simp; done) | omega | fail) (by first | ((repeat constructor); done) | exact .same _)) rfl ?_
    refine aqs rfl (q_mv (by constructor)) rfl ?_
    refine aqs rfl (q_mv (by constructor)) rfl ?_
    first | refine aqs rfl (e_callN cb116 (get116_p gp6.clen (by omega) hq6) rfl rfl) rfl ?_ | refine aqs rfl (e_callN cb116 (ACall.arg (get116_p gp6.clen (by omega) hq6) (by repeat (first | exact ArgL.nil | (apply ArgL.cons; (· first | exact .same | exact .cro | exact .nil))))) rfl rfl) rfl ?_
    refine aqs rfl (q_mv (by constructor)) rfl ?_
    refine aqs rfl (q_ex rfl rfl (by constructor)) rfl ?_
    refine aqs rfl (q_ex rfl rfl (by constructor)) rfl ?_
    refine aqs rfl (q_ex rfl rfl (by constructor)) rfl ?_
    (refine aes rfl (e_al (xs := [.lit (.int .i64 0), .lit (.int .i64 0), .lit (.slice none 0 0), .lit (.int .i64 0), .lit (.int .i64 0), .lit (.int .i64 0), .lit (.int .i64 0)]) (k := 7) zr136 (.same _) rfl) rfl ?_; rintro _ _ ⟨u30, rfl, rfl⟩)
    refine aqs rfl (q_as (by constructor)) rfl ?_
    first | (refine aen rfl (e_stW sz136 rfl (by repeat (first | exact .here | assumption | (apply HAt.left; assumption) | apply HAt.there | apply HAt.right)) (by constructor) (by first | rfl | assumption | (simp [*]; done) | fail) rfl (by repeat (first | exact .here | apply HSet.there))) ?_; rintro _ _ ⟨rfl, rfl⟩) | (refine aen rfl (e_stP sz136 rfl (by repeat (first | exact .here | assumption | (apply HAt.left; assumption) | apply HAt.there | apply HAt.right)) (by first | rfl | assumption | (simp [*]; done) | fail) (by constructor) (by first | rfl | assumption | (simp [*]; done) | fail) rfl (by first | decide | omega) (by first | ((repeat constructor); done) | exact .same _) (by first | exact .one | exact .set) (by repeat (first | exact .here | apply HSet.there))) ?_; rintro _ _ ⟨rfl, rfl⟩)
    refine aqs rfl (q_as (by constructor)) rfl ?_
    refine alist_nil ?_
    show AWP _ _ _ _
    refine awp_seq ?_
    refine awp_region ?_
    first | refine aqs rfl (q_ldpW ag136 sz136 rfl (by repeat (first | exact .here | assumption | (apply HAt.left; assumption) | apply HAt.there | apply HAt.right)) (by first | rfl | assumption | (simp [*]; done) | fail) (by first | rfl | assumption | (simp [*]; done) | fail) (by decide)) rfl ?_ | refine aqs rfl (q_ldW ag136 sz136 rfl (by first | rfl | assumption | (simp [*]; done) | fail)) rfl ?_ | refine aqs rfl (q_ldpP ag136 sz136 rfl (by repeat (first | exact .here | assumption | (apply HAt.left; assumption) | apply HAt.there | apply HAt.right)) (by first | rfl | assumption | (simp [*]; done) | fail) (by first | decide | (simp; done) | omega | fail) (by decide) (by first | ((repeat constructor); done) | exact .same _)) rfl ?_ | refine aqs rfl (q_ldP ag136 sz136 rfl (by first | decide | (simp; done) | omega | fail) (by first | ((repeat constructor); done) | exact .same _)) rfl ?_
    refine aqs rfl (q_mv (by constructor)) rfl ?_
    refine aqs rfl (q_mv (by constructor)) rfl ?_
    first | refine aqs rfl (e_callN cb116 (get116_p gp0.clen (by omega) hq0) rfl rfl) rfl ?_ | refine aqs rfl (e_callN cb116 (ACall.arg (get116_p gp0.clen (by omega) hq0) (by repeat (first | exact ArgL.nil | (apply ArgL.cons; (· first | exact .same | exact .cro | exact .nil))))) rfl rfl) rfl ?_
    refine aqs rfl (q_mv (by constructor)) rfl ?_
    refine aqs rfl (q_ex rfl rfl (by constructor)) rfl ?_
    refine aqs rfl (q_ex rfl rfl (by constructor)) rfl ?_
    refine aqs rfl (q_ex rfl rfl (by constructor)) rfl ?_
    (refine aes rfl (e_al (xs := [.lit (.int .i64 0), .lit (.int .i64 0), .lit (.slice none 0 0), .lit (.int .i64 0), .lit (.int .i64 0), .lit (.int .i64 0), .lit (.int .i64 0)]) (k := 7) zr136 (.same _) rfl) rfl ?_; rintro _ _ ⟨u33, rfl, rfl⟩)
    refine aqs rfl (q_as (by constructor)) rfl ?_
    first | (refine aen rfl (e_stW sz136 rfl (by repeat (first | exact .here | assumption | (apply HAt.left; assumption) | apply HAt.there | apply HAt.right)) (by constructor) (by first | rfl | assumption | (simp [*]; done) | fail) rfl (by repeat (first | exact .here | apply HSet.there))) ?_; rintro _ _ ⟨rfl, rfl⟩) | (refine aen rfl (e_stP sz136 rfl (by repeat (first | exact .here | assumption | (apply HAt.left; assumption) | apply HAt.there | apply HAt.right)) (by first | rfl | assumption | (simp [*]; done) | fail) (by constructor) (by first | rfl | assumption | (simp [*]; done) | fail) rfl (by first | decide | omega) (by first | ((repeat constructor); done) | exact .same _) (by first | exact .one | exact .set) (by repeat (first | exact .here | apply HSet.there))) ?_; rintro _ _ ⟨rfl, rfl⟩)
    refine aqs rfl (q_as (by constructor)) rfl ?_
    refine alist_nil ?_
    show AWP _ _ _ _
    refine awp_mid [(35, .lit (.bool ((l.toList == x.toList) && (r.toList == y.toList)))), (7, .lit (.bool true)), (9, .lit (.string l)), (10, .lit (.string r)), (20, .lit (.int .i64 0)), (22, .lit (.int .i64 0)), (24, .lit (.int .i64 0)), (26, .lit (.int .i64 0)), (27, .lit (.string x)), (28, .lit (.string y)), (30, .ptr u30 0 0), (31, .lit (.int .i64 e6)), (33, .ptr u33 0 0), (34, .lit (.int .i64 e0))] ?_ ?_
    ·skip
     refine awp_region ?_
     all_goals (refine aqs rfl (q_mv (by constructor)) rfl ?_)
     all_goals (refine aqs rfl (q_mv (by constructor)) rfl ?_)
     all_goals (refine aqs rfl (q_seql rfl rfl) rfl ?_)
     all_goals (refine aqs rfl (q_mv (by constructor)) rfl ?_)
     all_goals try (refine acase (fun hb3 => ?_) (fun hb3 => ?_))
     all_goals first | (exfalso; cases hb3; done) | skip
     all_goals (first | refine ans rfl rfl ?_ | refine aqs rfl (q_mv (by constructor)) rfl ?_)
     all_goals (first | refine ans rfl rfl ?_ | refine aqs rfl (q_mv (by constructor)) rfl ?_)
     all_goals (first | refine ans rfl rfl ?_ | refine aqs rfl (q_seql rfl rfl) rfl ?_)
     all_goals (first | refine aqs rfl (q_pickT rfl (by constructor)) rfl ?_ | refine aqs rfl (q_pickF rfl (by constructor)) rfl ?_)
     all_goals (refine aqs rfl (q_as (by constructor)) rfl ?_)
     all_goals (refine alist_nil ?_)
     all_goals (exact ⟨rfl, .mk' (by repeat (first | exact trivial | refine ⟨rfl, ?_⟩ | (refine ⟨?_, ?_⟩; (· first | (rw [hb3]; rfl) | fail)))) (by repeat (first | exact .refl _ | exact List.nil_sublist _ | exact List.sublist_append_left _ _ | apply List.Sublist.cons))⟩)
    refine awp_mid [(6, .lit (.bool true))] ?_ ?_
    ·skip
     rw [← hS]
     refine awp_region ?_
     all_goals (refine aqs rfl (q_mv (by constructor)) rfl ?_)
     all_goals (refine aqs rfl (q_mv (by constructor)) rfl ?_)
     all_goals (first | refine ans rfl rfl ?_ | refine aqs rfl (q_mv (by constructor)) rfl ?_)
     all_goals (first | refine ans rfl rfl ?_ | refine aqs rfl (castT (q_eql rfl rfl) (by rfl)) rfl ?_)
     all_goals (first | refine aqs rfl (q_pickT rfl (by constructor)) rfl ?_ | refine aqs rfl (q_pickF rfl (by constructor)) rfl ?_)
     all_goals (refine aqs rfl (q_mv (by constructor)) rfl ?_)
     all_goals (first | refine ans rfl rfl ?_ | refine aqs rfl (q_mv (by constructor)) rfl ?_)
     all_goals (first | refine ans rfl rfl ?_ | refine aqs rfl (castT (q_eql rfl rfl) (by rfl)) rfl ?_)
     all_goals (first | refine aqs rfl (q_pickT rfl (by constructor)) rfl ?_ | refine aqs rfl (q_pickF rfl (by constructor)) rfl ?_)
     all_goals (refine aqs rfl (q_mv (by constructor)) rfl ?_)
     all_goals (first | refine ans rfl rfl ?_ | refine aqs rfl (q_mv (by constructor)) rfl ?_)
     all_goals (first | refine ans rfl rfl ?_ | refine aqs rfl (castT (q_eql rfl rfl) (by rfl)) rfl ?_)
     all_goals (first | refine aqs rfl (q_pickT rfl (by constructor)) rfl ?_ | refine aqs rfl (q_pickF rfl (by constructor)) rfl ?_)
     all_goals (refine aqs rfl (q_mv (by constructor)) rfl ?_)
     all_goals (first | refine ans rfl rfl ?_ | refine aqs rfl (q_mv (by constructor)) rfl ?_)
     all_goals (first | refine ans rfl rfl ?_ | refine aqs rfl (castT (q_eql rfl rfl) (by rfl)) rfl ?_)
     all_goals (first | refine aqs rfl (q_pickT rfl (by constructor)) rfl ?_ | refine aqs rfl (q_pickF rfl (by constructor)) rfl ?_)
     all_goals (refine aqs rfl (q_mv (by constructor)) rfl ?_)
     all_goals (first | refine ans rfl rfl ?_ | refine aqs rfl (q_mv (by constructor)) rfl ?_)
     all_goals (first | refine ans rfl rfl ?_ | refine aqs rfl (q_eql rfl rfl) rfl ?_)
     all_goals (first | refine ans rfl rfl ?_ | refine aqs rfl (q_mv (by constructor)) rfl ?_)
     all_goals (first | refine ans rfl rfl ?_ | refine aqs rfl (castT (q_beql rfl rfl Try.underlying4) (by rw [he6]; cases S <;> rfl)) rfl ?_)
     all_goals (first | refine aqs rfl (q_pickT rfl (by constructor)) rfl ?_ | refine aqs rfl (q_pickF rfl (by constructor)) rfl ?_)
     all_goals (refine aqs rfl (q_mv (by constructor)) rfl ?_)
     all_goals (first | refine ans rfl rfl ?_ | refine aqs rfl (q_mv (by constructor)) rfl ?_)
     all_goals (first | refine ans rfl rfl ?_ | refine aqs rfl (q_eql rfl rfl) rfl ?_)
     all_goals (first | refine ans rfl rfl ?_ | refine aqs rfl (q_mv (by constructor)) rfl ?_)
     all_goals (first | refine ans rfl rfl ?_ | refine aqs rfl (castT (q_beql rfl rfl Try.underlying4) (by rw [he0]; cases S <;> rfl)) rfl ?_)
     all_goals (first | refine aqs rfl (q_pickT rfl (by constructor)) rfl ?_ | refine aqs rfl (q_pickF rfl (by constructor)) rfl ?_)
     all_goals (refine aqs rfl (q_mv (by constructor)) rfl ?_)
     all_goals (first | refine ans rfl rfl ?_ | refine aqs rfl (q_fapP fl136_5 (by decide) rfl rfl) rfl ?_ | refine aqs rfl (q_faP fl136_5 (by decide) rfl (by first | ((repeat constructor); done) | exact .same _)) rfl ?_)
     all_goals (first | refine ans rfl rfl ?_ | refine aqs rfl (q_ldpN ag3 rfl (by repeat (first | exact .here | assumption | (apply HAt.left; assumption) | apply HAt.there | apply HAt.right)) (by first | rfl | assumption | (simp [*]; done) | fail) (by first | rfl | assumption | (simp [*]; done) | fail) (by constructor)) rfl ?_ | refine aqs rfl (q_ld1N ag3 rfl (by constructor)) rfl ?_)
     all_goals (first | refine ans rfl rfl ?_ | refine aqs rfl (castT (q_eql rfl rfl) (by simp [hc6])) rfl ?_)
     all_goals (first | refine aqs rfl (q_pickT rfl (by constructor)) rfl ?_ | refine aqs rfl (q_pickF rfl (by constructor)) rfl ?_)
     all_goals (refine aqs rfl (q_mv (by constructor)) rfl ?_)
     all_goals (first | refine ans rfl rfl ?_ | refine aqs rfl (q_fapP fl136_5 (by decide) rfl rfl) rfl ?_ | refine aqs rfl (q_faP fl136_5 (by decide) rfl (by first | ((repeat constructor); done) | exact .same _)) rfl ?_)
     all_goals (first | refine ans rfl rfl ?_ | refine aqs rfl (q_ldpN ag3 rfl (by repeat (first | exact .here | assumption | (apply HAt.left; assumption) | apply HAt.there | apply HAt.right)) (by first | rfl | assumption | (simp [*]; done) | fail) (by first | rfl | assumption | (simp [*]; done) | fail) (by constructor)) rfl ?_ | refine aqs rfl (q_ld1N ag3 rfl (by constructor)) rfl ?_)
     all_goals (first | refine ans rfl rfl ?_ | refine aqs rfl (q_eql rfl rfl) rfl ?_)
     all_goals (first | refine ans rfl rfl ?_ | refine aqs rfl (q_mv (by constructor)) rfl ?_)
     all_goals (first | refine ans rfl rfl ?_ | refine aqs rfl (q_not rfl) rfl ?_)
     all_goals (first | refine ans rfl rfl ?_ | refine aqs rfl (q_mv (by constructor)) rfl ?_)
     all_goals try (refine acase (fun hb40 => ?_) (fun hb40 => ?_))
     all_goals first | (exfalso; cases hb40; done) | skip
     all_goals (first | refine ans rfl rfl ?_ | refine aqs rfl (q_mv (by constructor)) rfl ?_)
     all_goals (first | refine ans rfl rfl ?_ | refine aqs rfl (q_lenS Try.underlying9 rfl) rfl ?_)
     all_goals (first | refine ans rfl rfl ?_ | refine aqs rfl (q_mv (by constructor)) rfl ?_)
     all_goals (first | refine ans rfl rfl ?_ | refine aqs rfl (q_lenS Try.underlying9 rfl) rfl ?_)
     all_goals (first | refine ans rfl rfl ?_ | refine aqs rfl (q_add64 rfl rfl (by omega) (by omega)) rfl ?_ | refine aqs rfl (q_add rfl rfl) rfl ?_)
     all_goals (first | refine ans rfl rfl ?_ | refine aqs rfl (q_mv (by constructor)) rfl ?_)
     all_goals (first | refine ans rfl rfl ?_ | refine aqs rfl (q_lenS Try.underlying9 rfl) rfl ?_)
     all_goals (first | refine ans rfl rfl ?_ | refine aqs rfl (q_mv (by constructor)) rfl ?_)
     all_goals (first | refine ans rfl rfl ?_ | refine aqs rfl (q_lenS Try.underlying9 rfl) rfl ?_)
     all_goals (first | refine ans rfl rfl ?_ | refine aqs rfl (q_add64 rfl rfl (by omega) (by omega)) rfl ?_ | refine aqs rfl (q_add rfl rfl) rfl ?_)
     all_goals (first | refine ans rfl rfl ?_ | refine aqs rfl (q_eql rfl rfl) rfl ?_)
     all_goals (first | refine ans rfl rfl ?_ | refine aqs rfl (q_pickT rfl (by constructor)) rfl ?_ | refine aqs rfl (q_pickF rfl (by constructor)) rfl ?_)
     all_goals (first | refine ans rfl rfl ?_ | refine aqs rfl (castT (q_beql rfl rfl Try.underlying4) (by rw [hcz]; cases S <;> first | (simp at hb40; done) | (by_cases hz : (l.size : Int) + r.size = x.size + y.size <;> simp [hz]))) rfl ?_)
     all_goals (first | refine aqs rfl (q_pickT rfl (by constructor)) rfl ?_ | refine aqs rfl (q_pickF rfl (by constructor)) rfl ?_)
     all_goals (refine aqs rfl (q_as (by constructor)) rfl ?_)
     all_goals (refine alist_nil ?_)
     all_goals (exact ⟨rfl, .mk' (by repeat (first | exact trivial | refine ⟨rfl, ?_⟩ | (refine ⟨?_, ?_⟩; (· first | (rw [hb40]; rfl) | fail)))) (by repeat (first | exact .refl _ | exact List.nil_sublist _ | exact List.sublist_append_left _ _ | apply List.Sublist.cons))⟩)
    refine awp_ret ?_
    repeat first | with_reducible refine then_ret ?_ | with_reducible refine blk_ret ?_ | with_reducible refine nogo_ret ?_
    apply retq (.inr rfl) (.cons (rok_t rfl) .nil)
    rotate_left
    ·exact ⟨rfl, rfl⟩
    repeat (first | exact List.Sublist.refl _ | exact List.nil_sublist _ | exact List.sublist_append_left _ _ | apply List.Sublist.cons)
end Go.Proofs.YtdlinfekifnmkaaAm
