/- The walk of CacheParts. Conditions: none. -/
import Derived.Test.YtdlinfekifnmkaaAmCacheH
set_option linter.unusedVariables false
set_option linter.unusedSimpArgs false
set_option maxRecDepth 20000
namespace Go.Proofs.YtdlinfekifnmkaaAm
open Go.Proofs
def cBo (o : Option ByteArray) : AV := .lit (.bool o.isSome)
theorem set_cell3 {c : List AV} {o : Nat} {x : AV} (h : o < c.length) : c.take o ++ [x] ++ c.drop (o + [x].length) = c.set o x := by
  rw [List.set_eq_take_append_cons_drop, if_pos h]; simp
theorem textS_nat3 {a : Nat} (h : a < 6) : textS (a : Int) = text6 a := by
  rw [textS, show pick (a : Int) 6 = a by unfold pick; rw [if_neg (by omega)]; omega]
theorem pick_nat3 (k : Int) : ∃ a : Nat, (a : Int) = pick k 6 ∧ a < 6 := by
  have h0 := pick_nonneg k 6 (by omega)
  have h1 := pick_lt k 6 (by omega)
  exact ⟨(pick k 6).toNat, by omega, by omega⟩
theorem without_here {l : List Slot} {k : Key} (hr : rightB l = true) {s : Slot} (hs : s ∈ l) (hk : s.key = k) : l.length = (without l k).length + 1 := by
  rcases getS_cases (k := k) hr with ⟨_, h2⟩ | ⟨t, ht, htk, h1⟩
  · exact absurd hk (h2 s hs)
  · have h2 := (keys_get (k := k) hr (by rw [h1])).2.1
    rw [h1] at h2
    simp only [List.length_cons] at h2
    omega
theorem without_none {l : List Slot} {k : Key} (h : ∀ s ∈ l, ¬ s.key = k) : without l k = l := by
  unfold without keep
  exact List.filter_eq_self.2 fun s hs => by simp [h s hs]
theorem roomy_size {c : Cach} {tab : List (Option ByteArray)} {m : Nat} (h : Roomy c tab m) (hm : m < 90) {x y : Nat} (hx : x < 6) (hy : y < 6) (v : ByteArray) {o : Option ByteArray} (ho : tab[x * 6 + y]? = some o) : sizeC (putC c (text6 x) (text6 y) v).1 = sizeC c + if o.isSome = true then 0 else 1 := by
  have hr := h.right
  have hi := at_lt hr (text6 x) (text6 y)
  have hroom := roomy_room h (atOfC c (text6 x) (text6 y))
  have hpl := pt_len c (atOfC c (text6 x) (text6 y))
  have hsz := h.size
  have hwl := without_len2 hr (text6 x) (text6 y)
  obtain ⟨k, hk, he⟩ := putP_eq hr (text6 x) (text6 y) v
  have hkl : k = ((⟨keyOf c (text6 x) (text6 y), text6 x, text6 y, v⟩ : Slot) :: without (pt c (atOfC c (text6 x) (text6 y))) (keyOf c (text6 x) (text6 y))).length := by
    rw [hk]; unfold clampN
    simp only [List.length_cons]
    omega
  have he2 : (putP c (text6 x) (text6 y) v).1 = ⟨keyOf c (text6 x) (text6 y), text6 x, text6 y, v⟩ :: without (pt c (atOfC c (text6 x) (text6 y))) (keyOf c (text6 x) (text6 y)) := by rw [he, hkl, List.take_length]
  have h1 := sum_set (l := (putP c (text6 x) (text6 y) v).1) hi.1
  have e : sizeC (putC c (text6 x) (text6 y) v).1 = ((c.parts.set (atOfC c (text6 x) (text6 y)) (putP c (text6 x) (text6 y) v).1).map List.length).sum := by rw [put_eqC hr]; rfl
  rw [← e, he2, List.length_cons] at h1
  have e2 : (c.parts.getD (atOfC c (text6 x) (text6 y)) []) = pt c (atOfC c (text6 x) (text6 y)) := rfl
  have e3 : (c.parts.map List.length).sum = sizeC c := rfl
  rw [e2, e3] at h1
  cases o with
  | some w =>
    obtain ⟨s, hs, h2, h3, _⟩ := h.back x y hx hy w ho
    have := without_here (hr.alone _ hi.1) hs (k := keyOf c (text6 x) (text6 y)) (by rw [(hr.key _ hi.1 s hs).1, h2, h3]; rfl)
    simp only [Option.isSome_some, if_true]
    omega
  | none =>
    have : without (pt c (atOfC c (text6 x) (text6 y))) (keyOf c (text6 x) (text6 y)) = pt c (atOfC c (text6 x) (text6 y)) := without_none fun s hs hh => by
      obtain ⟨a', b', p1, p2, p3, p4, p5⟩ := h.there _ s hs
      have hsk := (hr.key _ hi.1 s hs).1
      rw [p3, p4, h.width] at hsk
      rw [hsk] at hh
      unfold keyOf at hh
      rw [h.width] at hh
      obtain ⟨rfl, rfl⟩ := key64_inj p1 p2 hx hy hh
      rw [ho] at p5
      cases p5
    rw [this] at h1
    simp only [Option.isSome_none, Bool.false_eq_true, if_false]
    omega
structure Pair (c d : Cach) (tab : List (Option ByteArray)) (m : Nat) : Prop where
  rc : Roomy c tab m
  rd : Roomy d tab m
  gc : CGood c
  gd : CGood d
  hits : c.hits = d.hits
  misses : c.misses = d.misses
  size : sizeC c = sizeC d
theorem roomy_mono {c : Cach} {tab : List (Option ByteArray)} {m k : Nat} (h : Roomy c tab m) (hm : m ≤ k) : Roomy c tab k :=
  ⟨h.right, h.width, h.room, h.clashes, h.evicted, h.tlen, h.there, h.back, by have := h.size; omega⟩
theorem pair_put {c d : Cach} {tab : List (Option ByteArray)} {m : Nat} (h : Pair c d tab m) (hm : m < 90) {x y : Nat} (hx : x < 6) (hy : y < 6) (v : ByteArray) :
    ∃ c' d', putC c (text6 x) (text6 y) v = (c', 0) ∧ putC d (text6 x) (text6 y) v = (d', 0) ∧ Pair c' d' (tab.set (x * 6 + y) (some v)) (m + 1) := by
  have hsx := text6_size (x : Int)
  have hsy := text6_size (y : Int)
  have htl := h.rc.tlen
  have p1 := put_parts h.rc.right (text6 x) (text6 y) v
  have p2 := put_parts h.rd.right (text6 x) (text6 y) v
  have ho : tab[x * 6 + y]? = some (tab[x * 6 + y]'(by omega)) := List.getElem?_eq_getElem _
  exact ⟨_, _, Prod.ext rfl p1.2.2.2.2.2.2, Prod.ext rfl p2.2.2.2.2.2.2, roomy_put h.rc hm hx hy v, roomy_put h.rd hm hx hy v, good_put h.gc (by omega) v, good_put h.gd (by omega) v,
    by rw [p1.2.2.2.1, p2.2.2.2.1]; exact h.hits, by rw [p1.2.2.2.2.1, p2.2.2.2.2.1]; exact h.misses, by rw [roomy_size h.rc hm hx hy v ho, roomy_size h.rd hm hx hy v ho, h.size]⟩
theorem pair_get {c d : Cach} {tab : List (Option ByteArray)} {m : Nat} (h : Pair c d tab m) {x y : Nat} (hx : x < 6) (hy : y < 6) {o : Option ByteArray} (ho : tab[x * 6 + y]? = some o) :
    ∃ g c' d' e, getC c (text6 x) (text6 y) = (g, c', e) ∧ getC d (text6 x) (text6 y) = (g, d', e) ∧ decide (e = 0) = o.isSome ∧ Pair c' d' tab (m + 1) := by
  obtain ⟨r1, q1⟩ := roomy_get h.rc hx hy
  obtain ⟨r2, q2⟩ := roomy_get h.rd hx hy
  have g1 := good_get h.gc (text6 x) (text6 y)
  have g2 := good_get h.gd (text6 x) (text6 y)
  have s1 := get_size h.rc.right (text6 x) (text6 y)
  have s2 := get_size h.rd.right (text6 x) (text6 y)
  have hh := h.hits
  have hm := h.misses
  have hsz := h.size
  rcases q1 with ⟨v, t1, e1, a1, b1⟩ | ⟨t1, e1, a1, b1⟩ <;> rcases q2 with ⟨w, t2, e2, a2, b2⟩ | ⟨t2, e2, a2, b2⟩
  · rw [t1] at t2 ho
    injection t2 with t2; injection t2 with t2; subst t2
    injection ho with ho; subst ho
    exact ⟨v, _, _, 0, e1, e2, rfl, roomy_mono r1 (by omega), roomy_mono r2 (by omega), g1, g2, by rw [a1, a2, hh], by rw [b1, b2, hm], by rw [s1, s2, hsz]⟩
  · rw [t1] at t2; injection t2 with t2; cases t2
  · rw [t1] at t2; injection t2 with t2; cases t2
  · rw [t1] at ho
    injection ho with ho; subst ho
    exact ⟨_, _, _, 10, e1, e2, rfl, roomy_mono r1 (by omega), roomy_mono r2 (by omega), g1, g2, by rw [a1, a2, hh], by rw [b1, b2, hm], by rw [s1, s2, hsz]⟩
set_option maxHeartbeats 16000000 in
theorem walkCacheParts (b : List Tri) (p q : Int) (wb : (∀ y ∈ b, y.Wf) ∧ b.length ≤ 9223372036854775807) (wp : -9223372036854775808 ≤ p ∧ p ≤ 9223372036854775807) (wq : -9223372036854775808 ≤ q ∧ q ≤ 9223372036854775807) :
    QCall Try.prog 34 [.ro (b.map Tri.cells), .lit (.int .i64 p), .lit (.int .i64 q)] [] (.lit (.bool true)) := by
  have a0 := pick_nonneg p 16 (by omega)
  have a1 := pick_lt p 16 (by omega)
  have b0 := pick_nonneg q 16 (by omega)
  have b1 := pick_lt q 16 (by omega)
  obtain ⟨hn1, hr1⟩ := roomy0 (p := 1 + pick p 16) (by omega) (by omega)
  obtain ⟨hn2, hr2⟩ := roomy0 (p := 1 + pick q 16) (by omega) (by omega)
  have hg1 := good_rep hr1.right
  have hg2 := good_rep hr2.right
  obtain ⟨c0, hc00⟩ : ∃ c0 : Cach, c0 = ⟨64, 1600, List.replicate (1 + pick p 16).toNat [], 0, 0, 0, 0⟩ := ⟨_, rfl⟩
  obtain ⟨d0, hd00⟩ : ∃ c0 : Cach, c0 = ⟨64, 1600, List.replicate (1 + pick q 16).toNat [], 0, 0, 0, 0⟩ := ⟨_, rfl⟩
  rw [← hc00] at hn1 hr1 hg1
  rw [← hd00] at hn2 hr2 hg2
  have hz : ∀ n : Nat, ((List.replicate n ([] : List Slot)).map List.length).sum = 0 := fun n => by
    simp only [List.map_replicate, List.length_nil]
    rw [List.sum_replicate_nat]; simp
  have hP0 : Pair c0 d0 (List.replicate 36 none) 0 := ⟨hr1, hr2, hg1, hg2, by rw [hc00, hd00], by rw [hc00, hd00], by rw [hc00, hd00]; exact (hz _).trans (hz _).symm⟩
  refine acall_intro (n := 196) (rvs := [.tmp 6]) Try.func34 rfl rfl rfl (Nat.le_of_ble_eq_true rfl) ?_
  refine awp_seq ?_
  refine awp_region ?_
  refine aqs rfl (q_as (by constructor)) rfl ?_
  refine alist_nil ?_
  show AWP _ _ _ _
  refine awp_seq ?_
  refine awp_region ?_
  first | refine aqs rfl (e_callN cb105 (QCall.any _ awake105_c) rfl rfl) rfl ?_ | refine aqs rfl (e_callN cb105 (ACall.arg (QCall.any _ awake105_c) (by repeat (first | exact ArgL.nil | (apply ArgL.cons; (· first | exact .same | exact .cro | exact .nil))))) rfl rfl) rfl ?_
  refine aqs rfl (q_as (by constructor)) rfl ?_
  refine alist_nil ?_
  show AWP _ _ _ _
  refine awp_seq ?_
  refine awp_region ?_
  refine aqs rfl (q_mv (by constructor)) rfl ?_
  first | refine aqs rfl (e_callN cb106 (pick106_c p 16 wp.1 wp.2 (by omega) _) rfl rfl) rfl ?_ | refine aqs rfl (e_callN cb106 (ACall.arg (pick106_c p 16 wp.1 wp.2 (by omega) _) (by repeat (first | exact ArgL.nil | (apply ArgL.cons; (· first | exact .same | exact .cro | exact .nil))))) rfl rfl) rfl ?_
  first | refine aqs rfl (q_add64 rfl rfl (by omega) (by omega)) rfl ?_ | refine aqs rfl (q_add rfl rfl) rfl ?_
  first | refine aqs rfl (e_callN cb107 (new107_p hn1) rfl rfl) rfl ?_ | refine aqs rfl (e_callN cb107 (ACall.arg (new107_p hn1) (by repeat (first | exact ArgL.nil | (apply ArgL.cons; (· first | exact .same | exact .cro | exact .nil))))) rfl rfl) rfl ?_
  refine aqs rfl (q_mv (by constructor)) rfl ?_
  refine aqs rfl (q_ex rfl rfl (by constructor)) rfl ?_
  refine aqs rfl (q_ex rfl rfl (by constructor)) rfl ?_
  (refine aes rfl (e_al (xs := [.lit (.int .i64 0), .lit (.int .i64 0), .lit (.slice none 0 0), .lit (.int .i64 0), .lit (.int .i64 0), .lit (.int .i64 0), .lit (.int .i64 0)]) (k := 7) zr136 (.same _) rfl) rfl ?_; rintro _ _ ⟨u8, rfl, rfl⟩)
  first | (refine aen rfl (e_stW sz136 rfl (by repeat (first | exact .here | assumption | (apply HAt.left; assumption) | apply HAt.there | apply HAt.right)) (by constructor) (by first | rfl | assumption | (simp [*]; done) | fail) rfl (by repeat (first | exact .here | apply HSet.there))) ?_; rintro _ _ ⟨rfl, rfl⟩) | (refine aen rfl (e_stP sz136 rfl (by repeat (first | exact .here | assumption | (apply HAt.left; assumption) | apply HAt.there | apply HAt.right)) (by first | rfl | assumption | (simp [*]; done) | fail) (by constructor) (by first | rfl | assumption | (simp [*]; done) | fail) rfl (by first | decide | omega) (by first | ((repeat constructor); done) | exact .same _) (by first | exact .one | exact .set) (by repeat (first | exact .here | apply HSet.there))) ?_; rintro _ _ ⟨rfl, rfl⟩)
  refine aqs rfl (q_as (by constructor)) rfl ?_
  refine alist_nil ?_
  show AWP _ _ _ _
  refine awp_seq ?_
  refine awp_region ?_
  refine aqs rfl (q_mv (by constructor)) rfl ?_
  first | refine aqs rfl (e_callN cb106 (pick106_c q 16 wq.1 wq.2 (by omega) _) rfl rfl) rfl ?_ | refine aqs rfl (e_callN cb106 (ACall.arg (pick106_c q 16 wq.1 wq.2 (by omega) _) (by repeat (first | exact ArgL.nil | (apply ArgL.cons; (· first | exact .same | exact .cro | exact .nil))))) rfl rfl) rfl ?_
  first | refine aqs rfl (q_add64 rfl rfl (by omega) (by omega)) rfl ?_ | refine aqs rfl (q_add rfl rfl) rfl ?_
  first | refine aqs rfl (e_callN cb107 (new107_p hn2) rfl rfl) rfl ?_ | refine aqs rfl (e_callN cb107 (ACall.arg (new107_p hn2) (by repeat (first | exact ArgL.nil | (apply ArgL.cons; (· first | exact .same | exact .cro | exact .nil))))) rfl rfl) rfl ?_
  refine aqs rfl (q_mv (by constructor)) rfl ?_
  refine aqs rfl (q_ex rfl rfl (by constructor)) rfl ?_
  refine aqs rfl (q_ex rfl rfl (by constructor)) rfl ?_
  (refine aes rfl (e_al (xs := [.lit (.int .i64 0), .lit (.int .i64 0), .lit (.slice none 0 0), .lit (.int .i64 0), .lit (.int .i64 0), .lit (.int .i64 0), .lit (.int .i64 0)]) (k := 7) zr136 (.same _) rfl) rfl ?_; rintro _ _ ⟨u10, rfl, rfl⟩)
  first | (refine aen rfl (e_stW sz136 rfl (by repeat (first | exact .here | assumption | (apply HAt.left; assumption) | apply HAt.there | apply HAt.right)) (by constructor) (by first | rfl | assumption | (simp [*]; done) | fail) rfl (by repeat (first | exact .here | apply HSet.there))) ?_; rintro _ _ ⟨rfl, rfl⟩) | (refine aen rfl (e_stP sz136 rfl (by repeat (first | exact .here | assumption | (apply HAt.left; assumption) | apply HAt.there | apply HAt.right)) (by first | rfl | assumption | (simp [*]; done) | fail) (by constructor) (by first | rfl | assumption | (simp [*]; done) | fail) rfl (by first | decide | omega) (by first | ((repeat constructor); done) | exact .same _) (by first | exact .one | exact .set) (by repeat (first | exact .here | apply HSet.there))) ?_; rintro _ _ ⟨rfl, rfl⟩)
  refine aqs rfl (q_as (by constructor)) rfl ?_
  refine alist_nil ?_
  show AWP _ _ _ _
  refine awp_seq ?_
  refine awp_seq ?_
  refine awp_region ?_
  refine aqs rfl (q_mv (by constructor)) rfl ?_
  refine aqs rfl (castF (q_neq rfl rfl) (by rfl)) rfl ?_
  refine aqs rfl (q_mv (by constructor)) rfl ?_
  first | refine ans rfl rfl ?_ | refine aqs rfl (q_mv (by constructor)) rfl ?_
  refine aqs rfl (castF (q_neq rfl rfl) (by rfl)) rfl ?_
  first | refine aqs rfl (q_pickT rfl (by constructor)) rfl ?_ | refine aqs rfl (q_pickF rfl (by constructor)) rfl ?_
  refine alist_nil ?_
  show AWP _ _ _ _
  refine awp_cond rfl (fun hc0 => ?_) (fun hc0 => ?_)
  ·exfalso; first | (simp at hc0; done) | (simp at hc0; omega) | contradiction
  ·try simp only [decide_eq_true_eq, decide_eq_false_iff_not, Bool.not_eq_true', Bool.not_eq_false', Bool.not_eq_eq_eq_not, Bool.not_true, Bool.not_false, beq_iff_eq, beq_eq_false_iff_ne, Int.not_lt, Int.not_le] at hc0
   refine awp_skip ?_
   show AWP _ _ _ _
   refine awp_seq ?_
   refine awp_region ?_
   (refine aes rfl (e_al (xs := [.lit (.bool false), .lit (.bool false), .lit (.bool false), .lit (.bool false), .lit (.bool false), .lit (.bool false), .lit (.bool false), .lit (.bool false), .lit (.bool false), .lit (.bool false), .lit (.bool false), .lit (.bool false), .lit (.bool false), .lit (.bool false), .lit (.bool false), .lit (.bool false), .lit (.bool false), .lit (.bool false), .lit (.bool false), .lit (.bool false), .lit (.bool false), .lit (.bool false), .lit (.bool false), .lit (.bool false), .lit (.bool false), .lit (.bool false), .lit (.bool false), .lit (.bool false), .lit (.bool false), .lit (.bool false), .lit (.bool false), .lit (.bool false), .lit (.bool false), .lit (.bool false), .lit (.bool false), .lit (.bool false)]) (k := 36) zr158 (.same _) rfl) rfl ?_; rintro _ _ ⟨u12, rfl, rfl⟩)
   refine alist_nil ?_
   show AWP _ _ _ _
   refine awp_seq ?_
   refine awp_seq ?_
   refine awp_region ?_
   refine aqs rfl (q_as (by constructor)) rfl ?_
   refine alist_nil ?_
   show AWP _ _ _ _
   refine awp_block ?_
   refine awp_loop_inv (fun x : Nat × Cach × Cach × List (Option ByteArray) => ⟨[(13, .lit (.int .i64 x.1)), (0, .ro (b.map Tri.cells)), (7, .lit (.bool true)), (8, .ptr u8 0 0), (10, .ptr u10 0 0), (12, .ptr u12 0 0)], 196, [(u12, .arr 158 36 [x.2.2.2.map cBo]), (u10, .arr 136 7 [x.2.2.1.cells]), (u8, .arr 136 7 [x.2.1.cells])]⟩) (fun x => x.1 ≤ b.length ∧ x.1 ≤ 30 ∧ Pair x.2.1 x.2.2.1 x.2.2.2 x.1) (fun x => 30 - x.1) (0, c0, d0, List.replicate 36 none) ?_ ?_ ?_
   ·exact ⟨Nat.zero_le _, Nat.zero_le _, hP0⟩
   ·exact .mk' (by repeat (first | exact trivial | refine ⟨rfl, ?_⟩)) (by repeat (first | exact .refl _ | apply List.Sublist.cons_cons | apply List.Sublist.cons))
   ·rintro ⟨i, c, d, tab⟩ ⟨hi, hi30, hP⟩
    simp only at hi hi30 hP ⊢
    have hcl := hP.gc.clen
    have hdl := hP.gd.clen
    have htl := hP.rc.tlen
    refine awp_seq ?_
    refine awp_mid [(54, .lit (.bool (decide ((i : Int) < (b.map Tri.cells).length) && decide ((i : Int) < 30)))), (13, .lit (.int .i64 i)), (0, .ro (b.map Tri.cells)), (7, .lit (.bool true)), (8, .ptr u8 0 0), (10, .ptr u10 0 0), (12, .ptr u12 0 0)] ?_ ?_
    ·skip
     refine awp_region ?_
     all_goals (refine aqs rfl (q_mv (by constructor)) rfl ?_)
     all_goals (refine aqs rfl (q_mv (by constructor)) rfl ?_)
     all_goals (first | refine aqs rfl (q_len Try.underlying64 .ro) rfl ?_ | refine aqs rfl (q_lenO Try.underlying64 rfl (by repeat (first | exact .here | assumption | (apply HAt.left; assumption) | apply HAt.there | apply HAt.right)) (by first | omega | (simp; done) | (simp; omega) | fail) (by first | exact Nat.sub_zero _ | rfl)) rfl ?_ | refine aqs rfl (q_len Try.underlying64 .nil) rfl ?_ | refine aqs rfl (q_len Try.underlying64 .cro) rfl ?_)
     all_goals (refine aqs rfl (q_lss rfl rfl) rfl ?_)
     all_goals (refine aqs rfl (q_mv (by constructor)) rfl ?_)
     all_goals try (refine acase (fun hb4 => ?_) (fun hb4 => ?_))
     all_goals first | (exfalso; cases hb4; done) | skip
     all_goals (first | refine ans rfl rfl ?_ | refine aqs rfl (q_mv (by constructor)) rfl ?_)
     all_goals (first | refine ans rfl rfl ?_ | refine aqs rfl (q_lss rfl rfl) rfl ?_)
     all_goals (first | refine aqs rfl (q_pickT rfl (by constructor)) rfl ?_ | refine aqs rfl (q_pickF rfl (by constructor)) rfl ?_)
     all_goals (refine alist_nil ?_)
     all_goals (exact ⟨rfl, .mk' (by repeat (first | exact trivial | refine ⟨rfl, ?_⟩ | (refine ⟨?_, ?_⟩; (· first | (rw [hb4]; rfl) | fail)))) (by repeat (first | exact .refl _ | exact List.nil_sublist _ | exact List.sublist_append_left _ _ | apply List.Sublist.cons))⟩)
    refine awp_cond rfl (fun hc1 => ?_) (fun hc1 => ?_)
    ·simp only [Bool.and_eq_true, decide_eq_true_eq, List.length_map] at hc1
     obtain ⟨x, hsx, hsm2⟩ := get_lt (l := b) (i := i) (by omega)
     have hs2 := get_map (f := Tri.cells) hsx
     have hwx := wb.1 x hsm2
     obtain ⟨s, hs, hs6⟩ := pick_nat3 x.a
     obtain ⟨t, ht, ht6⟩ := pick_nat3 x.b
     have hta := textS_nat3 hs6
     have htd := textS_nat3 ht6
     have hsa := text6_size (s : Int)
     have hsd := text6_size (t : Int)
     obtain ⟨o, ho⟩ : ∃ lv, tab[s * 6 + t]? = some lv := ⟨_, List.getElem?_eq_getElem (by omega)⟩
     have hcell : (tab.map cBo)[0 + s * 6 + t * 1]? = some (.lit (.bool o.isSome)) := by
      rw [show 0 + s * 6 + t * 1 = s * 6 + t by omega]; exact get_map (f := cBo) ho
     have hlm : (tab.map cBo).length = 36 := by rw [List.length_map]; exact htl
     refine awp_skip ?_
     show AWP _ _ _ _
     refine awp_seq ?_
     refine awp_block ?_
     refine awp_seq ?_
     refine awp_region ?_
     refine aqs rfl (q_mv (by constructor)) rfl ?_
     refine aqs rfl (q_mv (by constructor)) rfl ?_
     first | refine aqs rfl (q_iaN Try.underlying64 sz83 (.inl rfl) rfl (by omega) (by first | rfl | assumption | (simp [*]; done) | fail) (by first | rfl | assumption | (simp [*]; done) | fail) (by decide) (by first | ((repeat constructor); done) | exact .same _)) rfl ?_ | refine aqs rfl (q_iaS Try.underlying64 sz83 rfl (by repeat (first | exact .here | assumption | (apply HAt.left; assumption) | apply HAt.there | apply HAt.right)) rfl (by omega) (by omega) (by first | exact Nat.zero_add _ | rfl)) rfl ?_ | refine aqs rfl (q_iaN Try.underlying64 sz83 (.inr rfl) rfl (by omega) (by first | rfl | assumption | (simp [*]; done) | fail) (by first | rfl | assumption | (simp [*]; done) | fail) (by decide) (by first | ((repeat constructor); done) | exact .same _)) rfl ?_
     first | refine aqs rfl (q_iaA Try.underlying83 sz3 rfl rfl (by omega) (by omega) rfl) rfl ?_ | refine aqs rfl (q_iaI Try.underlying83 sz3 rfl rfl (by omega) (by omega) (by first | ((repeat constructor); done) | exact .same _)) rfl ?_
     first | refine aqs rfl (q_ldpN ag3 rfl (by repeat (first | exact .here | assumption | (apply HAt.left; assumption) | apply HAt.there | apply HAt.right)) (by first | rfl | assumption | (simp [*]; done) | fail) (by first | rfl | assumption | (simp [*]; done) | fail) (by constructor)) rfl ?_ | refine aqs rfl (q_ld1N ag3 rfl (by constructor)) rfl ?_
     first | refine aqs rfl (castQ (r2 := .lit (.int .i64 (s : Nat))) (e_callN cb106 (pick106_c x.a 6 hwx.1.1 hwx.1.2 (by omega) _) rfl rfl) (by rw [hs])) rfl ?_ | refine aqs rfl (castQ (r2 := .lit (.int .i64 (s : Nat))) (e_callN cb106 (ACall.arg (pick106_c x.a 6 hwx.1.1 hwx.1.2 (by omega) _) (by repeat (first | exact ArgL.nil | (apply ArgL.cons; (· first | exact .same | exact .cro | exact .nil))))) rfl rfl) (by rw [hs])) rfl ?_
     refine aqs rfl (q_as (by constructor)) rfl ?_
     refine alist_nil ?_
     show AWP _ _ _ _
     refine awp_seq ?_
     refine awp_region ?_
     refine aqs rfl (q_mv (by constructor)) rfl ?_
     refine aqs rfl (q_mv (by constructor)) rfl ?_
     first | refine aqs rfl (q_iaN Try.underlying64 sz83 (.inl rfl) rfl (by omega) (by first | rfl | assumption | (simp [*]; done) | fail) (by first | rfl | assumption | (simp [*]; done) | fail) (by decide) (by first | ((repeat constructor); done) | exact .same _)) rfl ?_ | refine aqs rfl (q_iaS Try.underlying64 sz83 rfl (by repeat (first | exact .here | assumption | (apply HAt.left; assumption) | apply HAt.there | apply HAt.right)) rfl (by omega) (by omega) (by first | exact Nat.zero_add _ | rfl)) rfl ?_ | refine aqs rfl (q_iaN Try.underlying64 sz83 (.inr rfl) rfl (by omega) (by first | rfl | assumption | (simp [*]; done) | fail) (by first | rfl | assumption | (simp [*]; done) | fail) (by decide) (by first | ((repeat constructor); done) | exact .same _)) rfl ?_
     first | refine aqs rfl (q_iaA Try.underlying83 sz3 rfl rfl (by omega) (by omega) rfl) rfl ?_ | refine aqs rfl (q_iaI Try.underlying83 sz3 rfl rfl (by omega) (by omega) (by first | ((repeat constructor); done) | exact .same _)) rfl ?_
     first | refine aqs rfl (q_ldpN ag3 rfl (by repeat (first | exact .here | assumption | (apply HAt.left; assumption) | apply HAt.there | apply HAt.right)) (by first | rfl | assumption | (simp [*]; done) | fail) (by first | rfl | assumption | (simp [*]; done) | fail) (by constructor)) rfl ?_ | refine aqs rfl (q_ld1N ag3 rfl (by constructor)) rfl ?_
     first | refine aqs rfl (castQ (r2 := .lit (.int .i64 (t : Nat))) (e_callN cb106 (pick106_c x.b 6 hwx.2.1.1 hwx.2.1.2 (by omega) _) rfl rfl) (by rw [ht])) rfl ?_ | refine aqs rfl (castQ (r2 := .lit (.int .i64 (t : Nat))) (e_callN cb106 (ACall.arg (pick106_c x.b 6 hwx.2.1.1 hwx.2.1.2 (by omega) _) (by repeat (first | exact ArgL.nil | (apply ArgL.cons; (· first | exact .same | exact .cro | exact .nil))))) rfl rfl) (by rw [ht])) rfl ?_
     refine aqs rfl (q_as (by constructor)) rfl ?_
     refine alist_nil ?_
     show AWP _ _ _ _
     refine awp_seq ?_
     refine awp_seq ?_
     refine awp_region ?_
     refine aqs rfl (q_mv (by constructor)) rfl ?_
     first | refine aqs rfl (q_rem64 rfl rfl (by omega) (by omega)) rfl ?_ | refine aqs rfl (q_rem rfl rfl (by first | decide | omega)) rfl ?_
     refine aqs rfl (q_eql rfl rfl) rfl ?_
     refine alist_nil ?_
     show AWP _ _ _ _
     refine awp_cond rfl (fun hc2 => ?_) (fun hc2 => ?_)
     ·obtain ⟨c', d', hp1, hp2, hPn⟩ := pair_put hP (by omega) hs6 ht6 (textS x.c)
      have hset : (tab.map cBo).take (0 + s * 6 + t * 1) ++ [AV.lit (.bool true)] ++ (tab.map cBo).drop (0 + s * 6 + t * 1 + [AV.lit (.bool true)].length) = (tab.set (s * 6 + t) (some (textS x.c))).map cBo := by
       rw [set_cell3 (by omega), List.map_set, show 0 + s * 6 + t * 1 = s * 6 + t by omega]; rfl
      refine awp_seq ?_
      refine awp_draw 17 [(0, false), (1, false), (2, false), (3, false), (4, false), (5, false), (6, false), (7, false), (8, false), (9, false), (10, false), (11, false), (12, false), (13, false), (14, false), (15, true), (16, true)] _ ([]) mixed (by kernel_rfl) (perm0 _) ?_
      first | refine glq rfl (.inl ⟨rfl, q_ldpW ag136 sz136 rfl (by repeat (first | exact .here | assumption | (apply HAt.left; assumption) | apply HAt.there | apply HAt.right)) (by first | rfl | assumption | (simp [*]; done) | fail) (by first | rfl | assumption | (simp [*]; done) | fail) (by decide)⟩) rfl ?_ | refine glq rfl (.inl ⟨rfl, q_ldW ag136 sz136 rfl (by first | rfl | assumption | (simp [*]; done) | fail)⟩) rfl ?_ | refine glq rfl (.inl ⟨rfl, q_ldpP ag136 sz136 rfl (by repeat (first | exact .here | assumption | (apply HAt.left; assumption) | apply HAt.there | apply HAt.right)) (by first | rfl | assumption | (simp [*]; done) | fail) (by first | decide | (simp; done) | omega | fail) (by decide) (by first | ((repeat constructor); done) | exact .same _)⟩) rfl ?_ | refine glq rfl (.inl ⟨rfl, q_ldP ag136 sz136 rfl (by first | decide | (simp; done) | omega | fail) (by first | ((repeat constructor); done) | exact .same _)⟩) rfl ?_
      refine glq rfl (.inl ⟨rfl, q_mv (by constructor)⟩) rfl ?_
      first | refine glq rfl (.inl ⟨rfl, e_callN cb96 (hta ▸ text96_c (s : Int) (by omega) _) rfl rfl⟩) rfl ?_ | refine glq rfl (.inl ⟨rfl, e_callN cb96 (ACall.arg (hta ▸ text96_c (s : Int) (by omega) _) (by repeat (first | exact ArgL.nil | (apply ArgL.cons; (· first | exact .same | exact .cro | exact .nil))))) rfl rfl⟩) rfl ?_
      refine glq rfl (.inl ⟨rfl, q_mv (by constructor)⟩) rfl ?_
      first | refine glq rfl (.inl ⟨rfl, e_callN cb96 (htd ▸ text96_c (t : Int) (by omega) _) rfl rfl⟩) rfl ?_ | refine glq rfl (.inl ⟨rfl, e_callN cb96 (ACall.arg (htd ▸ text96_c (t : Int) (by omega) _) (by repeat (first | exact ArgL.nil | (apply ArgL.cons; (· first | exact .same | exact .cro | exact .nil))))) rfl rfl⟩) rfl ?_
      refine glq rfl (.inl ⟨rfl, q_mv (by constructor)⟩) rfl ?_
      refine glq rfl (.inl ⟨rfl, q_mv (by constructor)⟩) rfl ?_
      first | refine glq rfl (.inl ⟨rfl, q_iaN Try.underlying64 sz83 (.inl rfl) rfl (by omega) (by first | rfl | assumption | (simp [*]; done) | fail) (by first | rfl | assumption | (simp [*]; done) | fail) (by decide) (by first | ((repeat constructor); done) | exact .same _)⟩) rfl ?_ | refine glq rfl (.inl ⟨rfl, q_iaS Try.underlying64 sz83 rfl (by repeat (first | exact .here | assumption | (apply HAt.left; assumption) | apply HAt.there | apply HAt.right)) rfl (by omega) (by omega) (by first | exact Nat.zero_add _ | rfl)⟩) rfl ?_ | refine glq rfl (.inl ⟨rfl, q_iaN Try.underlying64 sz83 (.inr rfl) rfl (by omega) (by first | rfl | assumption | (simp [*]; done) | fail) (by first | rfl | assumption | (simp [*]; done) | fail) (by decide) (by first | ((repeat constructor); done) | exact .same _)⟩) rfl ?_
      first | refine glq rfl (.inl ⟨rfl, q_iaA Try.underlying83 sz3 rfl rfl (by omega) (by omega) rfl⟩) rfl ?_ | refine glq rfl (.inl ⟨rfl, q_iaI Try.underlying83 sz3 rfl rfl (by omega) (by omega) (by first | ((repeat constructor); done) | exact .same _)⟩) rfl ?_
      first | refine glq rfl (.inl ⟨rfl, q_ldpN ag3 rfl (by repeat (first | exact .here | assumption | (apply HAt.left; assumption) | apply HAt.there | apply HAt.right)) (by first | rfl | assumption | (simp [*]; done) | fail) (by first | rfl | assumption | (simp [*]; done) | fail) (by constructor)⟩) rfl ?_ | refine glq rfl (.inl ⟨rfl, q_ld1N ag3 rfl (by constructor)⟩) rfl ?_
      first | refine glq rfl (.inl ⟨rfl, e_callN cb96 (text96_c x.c hwx.2.2 _) rfl rfl⟩) rfl ?_ | refine glq rfl (.inl ⟨rfl, e_callN cb96 (ACall.arg (text96_c x.c hwx.2.2 _) (by repeat (first | exact ArgL.nil | (apply ArgL.cons; (· first | exact .same | exact .cro | exact .nil))))) rfl rfl⟩) rfl ?_
      first | refine glq rfl (.inl ⟨rfl, e_callN cb118 (put118_p hcl (by omega) hp1) rfl rfl⟩) rfl ?_ | refine glq rfl (.inl ⟨rfl, e_callN cb118 (ACall.arg (put118_p hcl (by omega) hp1) (by repeat (first | exact ArgL.nil | (apply ArgL.cons; (· first | exact .same | exact .cro | exact .nil))))) rfl rfl⟩) rfl ?_
      refine glq rfl (.inl ⟨rfl, q_mv (by constructor)⟩) rfl ?_
      refine glq rfl (.inl ⟨rfl, q_ex rfl rfl (by constructor)⟩) rfl ?_
      refine glq rfl (.inl ⟨rfl, q_ex rfl rfl (by constructor)⟩) rfl ?_
      (refine gla rfl rfl (EOp.frame (e_al (xs := [.lit (.int .i64 0), .lit (.int .i64 0), .lit (.slice none 0 0), .lit (.int .i64 0), .lit (.int .i64 0), .lit (.int .i64 0), .lit (.int .i64 0)]) (k := 7) zr136 (.same _) rfl)) rfl ?_; rintro _ _ ⟨u16, rfl, rfl⟩)
      first | (refine gla rfl rfl (EOp.frame (e_stW sz136 rfl (by repeat (first | exact .here | assumption | (apply HAt.left; assumption) | apply HAt.there | apply HAt.right)) (by constructor) (by first | rfl | assumption | (simp [*]; done) | fail) rfl (by repeat (first | exact .here | apply HSet.there)))) rfl ?_; rintro _ _ ⟨rfl, rfl⟩) | (refine gla rfl rfl (EOp.frame (e_stP sz136 rfl (by repeat (first | exact .here | assumption | (apply HAt.left; assumption) | apply HAt.there | apply HAt.right)) (by first | rfl | assumption | (simp [*]; done) | fail) (by constructor) (by first | rfl | assumption | (simp [*]; done) | fail) rfl (by first | decide | omega) (by first | ((repeat constructor); done) | exact .same _) (by first | exact .one | exact .set) (by repeat (first | exact .here | apply HSet.there)))) rfl ?_; rintro _ _ ⟨rfl, rfl⟩)
      refine gldA ?_
      refine aqs rfl (q_as (by constructor)) rfl ?_
      refine alist_nil ?_
      show AWP _ _ _ _
      refine awp_seq ?_
      refine awp_draw 17 [(0, false), (1, false), (2, false), (3, false), (4, false), (5, false), (6, false), (7, false), (8, false), (9, false), (10, false), (11, false), (12, false), (13, false), (14, false), (15, true), (16, true)] _ ([]) mixed (by kernel_rfl) (perm0 _) ?_
      first | refine glq rfl (.inl ⟨rfl, q_ldpW ag136 sz136 rfl (by repeat (first | exact .here | assumption | (apply HAt.left; assumption) | apply HAt.there | apply HAt.right)) (by first | rfl | assumption | (simp [*]; done) | fail) (by first | rfl | assumption | (simp [*]; done) | fail) (by decide)⟩) rfl ?_ | refine glq rfl (.inl ⟨rfl, q_ldW ag136 sz136 rfl (by first | rfl | assumption | (simp [*]; done) | fail)⟩) rfl ?_ | refine glq rfl (.inl ⟨rfl, q_ldpP ag136 sz136 rfl (by repeat (first | exact .here | assumption | (apply HAt.left; assumption) | apply HAt.there | apply HAt.right)) (by first | rfl | assumption | (simp [*]; done) | fail) (by first | decide | (simp; done) | omega | fail) (by decide) (by first | ((repeat constructor); done) | exact .same _)⟩) rfl ?_ | refine glq rfl (.inl ⟨rfl, q_ldP ag136 sz136 rfl (by first | decide | (simp; done) | omega | fail) (by first | ((repeat constructor); done) | exact .same _)⟩) rfl ?_
      refine glq rfl (.inl ⟨rfl, q_mv (by constructor)⟩) rfl ?_
      first | refine glq rfl (.inl ⟨rfl, e_callN cb96 (hta ▸ text96_c (s : Int) (by omega) _) rfl rfl⟩) rfl ?_ | refine glq rfl (.inl ⟨rfl, e_callN cb96 (ACall.arg (hta ▸ text96_c (s : Int) (by omega) _) (by repeat (first | exact ArgL.nil | (apply ArgL.cons; (· first | exact .same | exact .cro | exact .nil))))) rfl rfl⟩) rfl ?_
      refine glq rfl (.inl ⟨rfl, q_mv (by constructor)⟩) rfl ?_
      first | refine glq rfl (.inl ⟨rfl, e_callN cb96 (htd ▸ text96_c (t : Int) (by omega) _) rfl rfl⟩) rfl ?_ | refine glq rfl (.inl ⟨rfl, e_callN cb96 (ACall.arg (htd ▸ text96_c (t : Int) (by omega) _) (by repeat (first | exact ArgL.nil | (apply ArgL.cons; (· first | exact .same | exact .cro | exact .nil))))) rfl rfl⟩) rfl ?_
      refine glq rfl (.inl ⟨rfl, q_mv (by constructor)⟩) rfl ?_
      refine glq rfl (.inl ⟨rfl, q_mv (by constructor)⟩) rfl ?_
      first | refine glq rfl (.inl ⟨rfl, q_iaN Try.underlying64 sz83 (.inl rfl) rfl (by omega) (by first | rfl | assumption | (simp [*]; done) | fail) (by first | rfl | assumption | (simp [*]; done) | fail) (by decide) (by first | ((repeat constructor); done) | exact .same _)⟩) rfl ?_ | refine glq rfl (.inl ⟨rfl, q_iaS Try.underlying64 sz83 rfl (by repeat (first | exact .here | assumption | (apply HAt.left; assumption) | apply HAt.there | apply HAt.right)) rfl (by omega) (by omega) (by first | exact Nat.zero_add _ | rfl)⟩) rfl ?_ | refine glq rfl (.inl ⟨rfl, q_iaN Try.underlying64 sz83 (.inr rfl) rfl (by omega) (by first | rfl | assumption | (simp [*]; done) | fail) (by first | rfl | assumption | (simp [*]; done) | fail) (by decide) (by first | ((repeat constructor); done) | exact .same _)⟩) rfl ?_
      first | refine glq rfl (.inl ⟨rfl, q_iaA Try.underlying83 sz3 rfl rfl (by omega) (by omega) rfl⟩) rfl ?_ | refine glq rfl (.inl ⟨rfl, q_iaI Try.underlying83 sz3 rfl rfl (by omega) (by omega) (by first | ((repeat constructor); done) | exact .same _)⟩) rfl ?_
      first | refine glq rfl (.inl ⟨rfl, q_ldpN ag3 rfl (by repeat (first | exact .here | assumption | (apply HAt.left; assumption) | apply HAt.there | apply HAt.right)) (by first | rfl | assumption | (simp [*]; done) | fail) (by first | rfl | assumption | (simp [*]; done) | fail) (by constructor)⟩) rfl ?_ | refine glq rfl (.inl ⟨rfl, q_ld1N ag3 rfl (by constructor)⟩) rfl ?_
      first | refine glq rfl (.inl ⟨rfl, e_callN cb96 (text96_c x.c hwx.2.2 _) rfl rfl⟩) rfl ?_ | refine glq rfl (.inl ⟨rfl, e_callN cb96 (ACall.arg (text96_c x.c hwx.2.2 _) (by repeat (first | exact ArgL.nil | (apply ArgL.cons; (· first | exact .same | exact .cro | exact .nil))))) rfl rfl⟩) rfl ?_
      first | refine glq rfl (.inl ⟨rfl, e_callN cb118 (put118_p hdl (by omega) hp2) rfl rfl⟩) rfl ?_ | refine glq rfl (.inl ⟨rfl, e_callN cb118 (ACall.arg (put118_p hdl (by omega) hp2) (by repeat (first | exact ArgL.nil | (apply ArgL.cons; (· first | exact .same | exact .cro | exact .nil))))) rfl rfl⟩) rfl ?_
      refine glq rfl (.inl ⟨rfl, q_mv (by constructor)⟩) rfl ?_
      refine glq rfl (.inl ⟨rfl, q_ex rfl rfl (by constructor)⟩) rfl ?_
      refine glq rfl (.inl ⟨rfl, q_ex rfl rfl (by constructor)⟩) rfl ?_
      (refine gla rfl rfl (EOp.frame (e_al (xs := [.lit (.int .i64 0), .lit (.int .i64 0), .lit (.slice none 0 0), .lit (.int .i64 0), .lit (.int .i64 0), .lit (.int .i64 0), .lit (.int .i64 0)]) (k := 7) zr136 (.same _) rfl)) rfl ?_; rintro _ _ ⟨u18, rfl, rfl⟩)
      first | (refine gla rfl rfl (EOp.frame (e_stW sz136 rfl (by repeat (first | exact .here | assumption | (apply HAt.left; assumption) | apply HAt.there | apply HAt.right)) (by constructor) (by first | rfl | assumption | (simp [*]; done) | fail) rfl (by repeat (first | exact .here | apply HSet.there)))) rfl ?_; rintro _ _ ⟨rfl, rfl⟩) | (refine gla rfl rfl (EOp.frame (e_stP sz136 rfl (by repeat (first | exact .here | assumption | (apply HAt.left; assumption) | apply HAt.there | apply HAt.right)) (by first | rfl | assumption | (simp [*]; done) | fail) (by constructor) (by first | rfl | assumption | (simp [*]; done) | fail) rfl (by first | decide | omega) (by first | ((repeat constructor); done) | exact .same _) (by first | exact .one | exact .set) (by repeat (first | exact .here | apply HSet.there)))) rfl ?_; rintro _ _ ⟨rfl, rfl⟩)
      refine gldA ?_
      refine aqs rfl (q_as (by constructor)) rfl ?_
      refine alist_nil ?_
      show AWP _ _ _ _
      refine awp_seq ?_
      refine awp_seq ?_
      refine awp_region ?_
      refine aqs rfl (q_mv (by constructor)) rfl ?_
      refine aqs rfl (castF (q_neq rfl rfl) (by rfl)) rfl ?_
      refine aqs rfl (q_mv (by constructor)) rfl ?_
      first | refine ans rfl rfl ?_ | refine aqs rfl (q_mv (by constructor)) rfl ?_
      refine aqs rfl (castF (q_neq rfl rfl) (by rfl)) rfl ?_
      first | refine aqs rfl (q_pickT rfl (by constructor)) rfl ?_ | refine aqs rfl (q_pickF rfl (by constructor)) rfl ?_
      refine alist_nil ?_
      show AWP _ _ _ _
      refine awp_cond rfl (fun hc3 => ?_) (fun hc3 => ?_)
      ·exfalso; first | (simp at hc3; done) | (simp at hc3; omega) | contradiction
      ·try simp only [decide_eq_true_eq, decide_eq_false_iff_not, Bool.not_eq_true', Bool.not_eq_false', Bool.not_eq_eq_eq_not, Bool.not_true, Bool.not_false, beq_iff_eq, beq_eq_false_iff_ne, Int.not_lt, Int.not_le] at hc3
       refine awp_skip ?_
       show AWP _ _ _ _
       refine awp_seq ?_
       refine awp_region ?_
       first | refine aqs rfl (q_ldpW ag136 sz136 rfl (by repeat (first | exact .here | assumption | (apply HAt.left; assumption) | apply HAt.there | apply HAt.right)) (by first | rfl | assumption | (simp [*]; done) | fail) (by first | rfl | assumption | (simp [*]; done) | fail) (by decide)) rfl ?_ | refine aqs rfl (q_ldW ag136 sz136 rfl (by first | rfl | assumption | (simp [*]; done) | fail)) rfl ?_ | refine aqs rfl (q_ldpP ag136 sz136 rfl (by repeat (first | exact .here | assumption | (apply HAt.left; assumption) | apply HAt.there | apply HAt.right)) (by first | rfl | assumption | (simp [*]; done) | fail) (by first | decide | (simp; done) | omega | fail) (by decide) (by first | ((repeat constructor); done) | exact .same _)) rfl ?_ | refine aqs rfl (q_ldP ag136 sz136 rfl (by first | decide | (simp; done) | omega | fail) (by first | ((repeat constructor); done) | exact .same _)) rfl ?_
       first | (refine aen rfl (e_stW sz136 rfl (by repeat (first | exact .here | assumption | (apply HAt.left; assumption) | apply HAt.there | apply HAt.right)) (by constructor) (by first | rfl | assumption | (simp [*]; done) | fail) rfl (by repeat (first | exact .here | apply HSet.there))) ?_; rintro _ _ ⟨rfl, rfl⟩) | (refine aen rfl (e_stP sz136 rfl (by repeat (first | exact .here | assumption | (apply HAt.left; assumption) | apply HAt.there | apply HAt.right)) (by first | rfl | assumption | (simp [*]; done) | fail) (by constructor) (by first | rfl | assumption | (simp [*]; done) | fail) rfl (by first | decide | omega) (by first | ((repeat constructor); done) | exact .same _) (by first | exact .one | exact .set) (by repeat (first | exact .here | apply HSet.there))) ?_; rintro _ _ ⟨rfl, rfl⟩)
       refine alist_nil ?_
       show AWP _ _ _ _
       refine awp_seq ?_
       refine awp_region ?_
       first | refine aqs rfl (q_ldpW ag136 sz136 rfl (by repeat (first | exact .here | assumption | (apply HAt.left; assumption) | apply HAt.there | apply HAt.right)) (by first | rfl | assumption | (simp [*]; done) | fail) (by first | rfl | assumption | (simp [*]; done) | fail) (by decide)) rfl ?_ | refine aqs rfl (q_ldW ag136 sz136 rfl (by first | rfl | assumption | (simp [*]; done) | fail)) rfl ?_ | refine aqs rfl (q_ldpP ag136 sz136 rfl (by repeat (first | exact .here | assumption | (apply HAt.left; assumption) | apply HAt.there | apply HAt.right)) (by first | rfl | assumption | (simp [*]; done) | fail) (by first | decide | (simp; done) | omega | fail) (by decide) (by first | ((repeat constructor); done) | exact .same _)) rfl ?_ | refine aqs rfl (q_ldP ag136 sz136 rfl (by first | decide | (simp; done) | omega | fail) (by first | ((repeat constructor); done) | exact .same _)) rfl ?_
       first | (refine aen rfl (e_stW sz136 rfl (by repeat (first | exact .here | assumption | (apply HAt.left; assumption) | apply HAt.there | apply HAt.right)) (by constructor) (by first | rfl | assumption | (simp [*]; done) | fail) rfl (by repeat (first | exact .here | apply HSet.there))) ?_; rintro _ _ ⟨rfl, rfl⟩) | (refine aen rfl (e_stP sz136 rfl (by repeat (first | exact .here | assumption | (apply HAt.left; assumption) | apply HAt.there | apply HAt.right)) (by first | rfl | assumption | (simp [*]; done) | fail) (by constructor) (by first | rfl | assumption | (simp [*]; done) | fail) rfl (by first | decide | omega) (by first | ((repeat constructor); done) | exact .same _) (by first | exact .one | exact .set) (by repeat (first | exact .here | apply HSet.there))) ?_; rintro _ _ ⟨rfl, rfl⟩)
       refine alist_nil ?_
       show AWP _ _ _ _
       refine awp_seq ?_
       refine awp_region ?_
       refine aqs rfl (q_mv (by constructor)) rfl ?_
       refine aqs rfl (q_mv (by constructor)) rfl ?_
       first | refine aqs rfl (q_iaA Try.underlying158 sz157 rfl rfl (by omega) (by omega) rfl) rfl ?_ | refine aqs rfl (q_iaI Try.underlying158 sz157 rfl rfl (by omega) (by omega) (by first | ((repeat constructor); done) | exact .same _)) rfl ?_
       first | refine aqs rfl (q_iaA Try.underlying157 sz4 rfl rfl (by omega) (by omega) rfl) rfl ?_ | refine aqs rfl (q_iaI Try.underlying157 sz4 rfl rfl (by omega) (by omega) (by first | ((repeat constructor); done) | exact .same _)) rfl ?_
       first | (refine aen rfl (e_stW sz4 rfl (by repeat (first | exact .here | assumption | (apply HAt.left; assumption) | apply HAt.there | apply HAt.right)) (by constructor) (by first | rfl | assumption | (simp [*]; done) | fail) rfl (by repeat (first | exact .here | apply HSet.there))) ?_; rintro _ _ ⟨rfl, rfl⟩) | (refine aen rfl (e_stP sz4 rfl (by repeat (first | exact .here | assumption | (apply HAt.left; assumption) | apply HAt.there | apply HAt.right)) (by first | rfl | assumption | (simp [*]; done) | fail) (by constructor) (by first | rfl | assumption | (simp [*]; done) | fail) rfl (by first | decide | omega) (by first | ((repeat constructor); done) | exact .same _) (by first | exact .one | exact .set) (by repeat (first | exact .here | apply HSet.there))) ?_; rintro _ _ ⟨rfl, rfl⟩)
       refine alist_nil ?_
       show AWP _ _ _ _
       refine awp_exit ?_
       show AWP _ _ _ _
       refine awp_region ?_
       refine aqs rfl (q_mv (by constructor)) rfl ?_
       first | refine aqs rfl (q_add64 rfl rfl (by omega) (by omega)) rfl ?_ | refine aqs rfl (q_add rfl rfl) rfl ?_
       refine aqs rfl (q_as (by constructor)) rfl ?_
       refine alist_nil ?_
       show ∃ y, _ ∧ _ ∧ _
       first
        | exact ⟨(i + 1, c', d', tab.set (s * 6 + t) (some (textS x.c))), ⟨by show i + 1 ≤ b.length; omega, by show i + 1 ≤ 30; omega, hPn⟩, by show 30 - (i + 1) < 30 - i; omega, by simp only [← hset]; exact .mk' ⟨by rfl, rfl, rfl, rfl, rfl, rfl, trivial⟩ (by repeat (first | exact List.Sublist.refl _ | exact List.nil_sublist _ | exact List.sublist_append_left _ _ | (apply List.Sublist.cons_cons) | (apply List.Sublist.cons)))⟩
        | exact ⟨(i + 1, c', d', tab), ⟨by show i + 1 ≤ b.length; omega, by show i + 1 ≤ 30; omega, hPn⟩, by show 30 - (i + 1) < 30 - i; omega, .mk' ⟨by rfl, rfl, rfl, rfl, rfl, rfl, trivial⟩ (by repeat (first | exact List.Sublist.refl _ | exact List.nil_sublist _ | exact List.sublist_append_left _ _ | (apply List.Sublist.cons_cons) | (apply List.Sublist.cons)))⟩
     ·obtain ⟨g, c', d', e, hp1, hp2, heo, hPn⟩ := pair_get hP hs6 ht6 ho
      refine awp_skip ?_
      show AWP _ _ _ _
      refine awp_seq ?_
      refine awp_draw 13 [(0, false), (1, false), (2, false), (3, false), (4, false), (5, false), (6, false), (7, false), (8, false), (9, false), (10, true), (11, false), (12, true)] _ ([]) mixed (by kernel_rfl) (perm0 _) ?_
      first | refine glq rfl (.inl ⟨rfl, q_ldpW ag136 sz136 rfl (by repeat (first | exact .here | assumption | (apply HAt.left; assumption) | apply HAt.there | apply HAt.right)) (by first | rfl | assumption | (simp [*]; done) | fail) (by first | rfl | assumption | (simp [*]; done) | fail) (by decide)⟩) rfl ?_ | refine glq rfl (.inl ⟨rfl, q_ldW ag136 sz136 rfl (by first | rfl | assumption | (simp [*]; done) | fail)⟩) rfl ?_ | refine glq rfl (.inl ⟨rfl, q_ldpP ag136 sz136 rfl (by repeat (first | exact .here | assumption | (apply HAt.left; assumption) | apply HAt.there | apply HAt.right)) (by first | rfl | assumption | (simp [*]; done) | fail) (by first | decide | (simp; done) | omega | fail) (by decide) (by first | ((repeat constructor); done) | exact .same _)⟩) rfl ?_ | refine glq rfl (.inl ⟨rfl, q_ldP ag136 sz136 rfl (by first | decide | (simp; done) | omega | fail) (by first | ((repeat constructor); done) | exact .same _)⟩) rfl ?_
      refine glq rfl (.inl ⟨rfl, q_mv (by constructor)⟩) rfl ?_
      first | refine glq rfl (.inl ⟨rfl, e_callN cb96 (hta ▸ text96_c (s : Int) (by omega) _) rfl rfl⟩) rfl ?_ | refine glq rfl (.inl ⟨rfl, e_callN cb96 (ACall.arg (hta ▸ text96_c (s : Int) (by omega) _) (by repeat (first | exact ArgL.nil | (apply ArgL.cons; (· first | exact .same | exact .cro | exact .nil))))) rfl rfl⟩) rfl ?_
      refine glq rfl (.inl ⟨rfl, q_mv (by constructor)⟩) rfl ?_
      first | refine glq rfl (.inl ⟨rfl, e_callN cb96 (htd ▸ text96_c (t : Int) (by omega) _) rfl rfl⟩) rfl ?_ | refine glq rfl (.inl ⟨rfl, e_callN cb96 (ACall.arg (htd ▸ text96_c (t : Int) (by omega) _) (by repeat (first | exact ArgL.nil | (apply ArgL.cons; (· first | exact .same | exact .cro | exact .nil))))) rfl rfl⟩) rfl ?_
      first | refine glq rfl (.inl ⟨rfl, e_callN cb116 (get116_p hcl (by omega) hp1) rfl rfl⟩) rfl ?_ | refine glq rfl (.inl ⟨rfl, e_callN cb116 (ACall.arg (get116_p hcl (by omega) hp1) (by repeat (first | exact ArgL.nil | (apply ArgL.cons; (· first | exact .same | exact .cro | exact .nil))))) rfl rfl⟩) rfl ?_
      refine glq rfl (.inl ⟨rfl, q_mv (by constructor)⟩) rfl ?_
      refine glq rfl (.inl ⟨rfl, q_ex rfl rfl (by constructor)⟩) rfl ?_
      refine glq rfl (.inl ⟨rfl, q_ex rfl rfl (by constructor)⟩) rfl ?_
      refine glq rfl (.inl ⟨rfl, q_ex rfl rfl (by constructor)⟩) rfl ?_
      (refine gla rfl rfl (EOp.frame (e_al (xs := [.lit (.int .i64 0), .lit (.int .i64 0), .lit (.slice none 0 0), .lit (.int .i64 0), .lit (.int .i64 0), .lit (.int .i64 0), .lit (.int .i64 0)]) (k := 7) zr136 (.same _) rfl)) rfl ?_; rintro _ _ ⟨u21, rfl, rfl⟩)
      refine glq rfl (.inl ⟨rfl, q_as (by constructor)⟩) rfl ?_
      first | (refine gla rfl rfl (EOp.frame (e_stW sz136 rfl (by repeat (first | exact .here | assumption | (apply HAt.left; assumption) | apply HAt.there | apply HAt.right)) (by constructor) (by first | rfl | assumption | (simp [*]; done) | fail) rfl (by repeat (first | exact .here | apply HSet.there)))) rfl ?_; rintro _ _ ⟨rfl, rfl⟩) | (refine gla rfl rfl (EOp.frame (e_stP sz136 rfl (by repeat (first | exact .here | assumption | (apply HAt.left; assumption) | apply HAt.there | apply HAt.right)) (by first | rfl | assumption | (simp [*]; done) | fail) (by constructor) (by first | rfl | assumption | (simp [*]; done) | fail) rfl (by first | decide | omega) (by first | ((repeat constructor); done) | exact .same _) (by first | exact .one | exact .set) (by repeat (first | exact .here | apply HSet.there)))) rfl ?_; rintro _ _ ⟨rfl, rfl⟩)
      refine gldA ?_
      refine aqs rfl (q_as (by constructor)) rfl ?_
      refine alist_nil ?_
      show AWP _ _ _ _
      refine awp_seq ?_
      refine awp_draw 13 [(0, false), (1, false), (2, false), (3, false), (4, false), (5, false), (6, false), (7, false), (8, false), (9, false), (10, true), (11, false), (12, true)] _ ([]) mixed (by kernel_rfl) (perm0 _) ?_
      first | refine glq rfl (.inl ⟨rfl, q_ldpW ag136 sz136 rfl (by repeat (first | exact .here | assumption | (apply HAt.left; assumption) | apply HAt.there | apply HAt.right)) (by first | rfl | assumption | (simp [*]; done) | fail) (by first | rfl | assumption | (simp [*]; done) | fail) (by decide)⟩) rfl ?_ | refine glq rfl (.inl ⟨rfl, q_ldW ag136 sz136 rfl (by first | rfl | assumption | (simp [*]; done) | fail)⟩) rfl ?_ | refine glq rfl (.inl ⟨rfl, q_ldpP ag136 sz136 rfl (by repeat (first | exact .here | assumption | (apply HAt.left; assumption) | apply HAt.there | apply HAt.right)) (by first | rfl | assumption | (simp [*]; done) | fail) (by first | decide | (simp; done) | omega | fail) (by decide) (by first | ((repeat constructor); done) | exact .same _)⟩) rfl ?_ | refine glq rfl (.inl ⟨rfl, q_ldP ag136 sz136 rfl (by first | decide | (simp; done) | omega | fail) (by first | ((repeat constructor); done) | exact .same _)⟩) rfl ?_
      refine glq rfl (.inl ⟨rfl, q_mv (by constructor)⟩) rfl ?_
      first | refine glq rfl (.inl ⟨rfl, e_callN cb96 (hta ▸ text96_c (s : Int) (by omega) _) rfl rfl⟩) rfl ?_ | refine glq rfl (.inl ⟨rfl, e_callN cb96 (ACall.arg (hta ▸ text96_c (s : Int) (by omega) _) (by repeat (first | exact ArgL.nil | (apply ArgL.cons; (· first | exact .same | exact .cro | exact .nil))))) rfl rfl⟩) rfl ?_
      refine glq rfl (.inl ⟨rfl, q_mv (by constructor)⟩) rfl ?_
      first | refine glq rfl (.inl ⟨rfl, e_callN cb96 (htd ▸ text96_c (t : Int) (by omega) _) rfl rfl⟩) rfl ?_ | refine glq rfl (.inl ⟨rfl, e_callN cb96 (ACall.arg (htd ▸ text96_c (t : Int) (by omega) _) (by repeat (first | exact ArgL.nil | (apply ArgL.cons; (· first | exact .same | exact .cro | exact .nil))))) rfl rfl⟩) rfl ?_
      first | refine glq rfl (.inl ⟨rfl, e_callN cb116 (get116_p hdl (by omega) hp2) rfl rfl⟩) rfl ?_ | refine glq rfl (.inl ⟨rfl, e_callN cb116 (ACall.arg (get116_p hdl (by omega) hp2) (by repeat (first | exact ArgL.nil | (apply ArgL.cons; (· first | exact .same | exact .cro | exact .nil))))) rfl rfl⟩) rfl ?_
      refine glq rfl (.inl ⟨rfl, q_mv (by constructor)⟩) rfl ?_
      refine glq rfl (.inl ⟨rfl, q_ex rfl rfl (by constructor)⟩) rfl ?_
      refine glq rfl (.inl ⟨rfl, q_ex rfl rfl (by constructor)⟩) rfl ?_
      refine glq rfl (.inl ⟨rfl, q_ex rfl rfl (by constructor)⟩) rfl ?_
      (refine gla rfl rfl (EOp.frame (e_al (xs := [.lit (.int .i64 0), .lit (.int .i64 0), .lit (.slice none 0 0), .lit (.int .i64 0), .lit (.int .i64 0), .lit (.int .i64 0), .lit (.int .i64 0)]) (k := 7) zr136 (.same _) rfl)) rfl ?_; rintro _ _ ⟨u24, rfl, rfl⟩)
      refine glq rfl (.inl ⟨rfl, q_as (by constructor)⟩) rfl ?_
      first | (refine gla rfl rfl (EOp.frame (e_stW sz136 rfl (by repeat (first | exact .here | assumption | (apply HAt.left; assumption) | apply HAt.there | apply HAt.right)) (by constructor) (by first | rfl | assumption | (simp [*]; done) | fail) rfl (by repeat (first | exact .here | apply HSet.there)))) rfl ?_; rintro _ _ ⟨rfl, rfl⟩) | (refine gla rfl rfl (EOp.frame (e_stP sz136 rfl (by repeat (first | exact .here | assumption | (apply HAt.left; assumption) | apply HAt.there | apply HAt.right)) (by first | rfl | assumption | (simp [*]; done) | fail) (by constructor) (by first | rfl | assumption | (simp [*]; done) | fail) rfl (by first | decide | omega) (by first | ((repeat constructor); done) | exact .same _) (by first | exact .one | exact .set) (by repeat (first | exact .here | apply HSet.there)))) rfl ?_; rintro _ _ ⟨rfl, rfl⟩)
      refine gldA ?_
      refine aqs rfl (q_as (by constructor)) rfl ?_
      refine alist_nil ?_
      show AWP _ _ _ _
      refine awp_seq ?_
      refine awp_seq ?_
      refine awp_region ?_
      refine aqs rfl (q_mv (by constructor)) rfl ?_
      refine aqs rfl (q_mv (by constructor)) rfl ?_
      refine aqs rfl (castF (q_sneq rfl rfl) (by simp)) rfl ?_
      refine aqs rfl (q_mv (by constructor)) rfl ?_
      first | refine ans rfl rfl ?_ | refine aqs rfl (q_mv (by constructor)) rfl ?_
      first | refine ans rfl rfl ?_ | refine aqs rfl (q_mv (by constructor)) rfl ?_
      refine aqs rfl (castF (q_neq rfl rfl) (by simp)) rfl ?_
      first | refine aqs rfl (q_pickT rfl (by constructor)) rfl ?_ | refine aqs rfl (q_pickF rfl (by constructor)) rfl ?_
      refine aqs rfl (q_mv (by constructor)) rfl ?_
      first | refine ans rfl rfl ?_ | refine aqs rfl (q_mv (by constructor)) rfl ?_
      first | refine ans rfl rfl ?_ | refine aqs rfl (q_eql rfl rfl) rfl ?_
      first | refine ans rfl rfl ?_ | refine aqs rfl (q_mv (by constructor)) rfl ?_
      first | refine ans rfl rfl ?_ | refine aqs rfl (q_mv (by constructor)) rfl ?_
      first | refine ans rfl rfl ?_ | refine aqs rfl (q_iaA Try.underlying158 sz157 rfl rfl (by omega) (by omega) rfl) rfl ?_ | refine aqs rfl (q_iaI Try.underlying158 sz157 rfl rfl (by omega) (by omega) (by first | ((repeat constructor); done) | exact .same _)) rfl ?_
      first | refine ans rfl rfl ?_ | refine aqs rfl (q_iaA Try.underlying157 sz4 rfl rfl (by omega) (by omega) rfl) rfl ?_ | refine aqs rfl (q_iaI Try.underlying157 sz4 rfl rfl (by omega) (by omega) (by first | ((repeat constructor); done) | exact .same _)) rfl ?_
      first | refine ans rfl rfl ?_ | refine aqs rfl (q_ldpN ag4 rfl (by repeat (first | exact .here | assumption | (apply HAt.left; assumption) | apply HAt.there | apply HAt.right)) (by first | rfl | assumption | (simp [*]; done) | fail) (by first | rfl | assumption | (simp [*]; done) | fail) (by constructor)) rfl ?_ | refine aqs rfl (q_ld1N ag4 rfl (by constructor)) rfl ?_
      refine aqs rfl (castF (q_bneq rfl rfl Try.underlying4) (by rw [heo]; cases o <;> rfl)) rfl ?_
      first | refine aqs rfl (q_pickT rfl (by constructor)) rfl ?_ | refine aqs rfl (q_pickF rfl (by constructor)) rfl ?_
      refine alist_nil ?_
      show AWP _ _ _ _
      refine awp_cond rfl (fun hc4 => ?_) (fun hc4 => ?_)
      ·exfalso; first | (simp at hc4; done) | (simp at hc4; omega) | contradiction
      ·try simp only [decide_eq_true_eq, decide_eq_false_iff_not, Bool.not_eq_true', Bool.not_eq_false', Bool.not_eq_eq_eq_not, Bool.not_true, Bool.not_false, beq_iff_eq, beq_eq_false_iff_ne, Int.not_lt, Int.not_le] at hc4
       refine awp_skip ?_
       show AWP _ _ _ _
       refine awp_seq ?_
       refine awp_region ?_
       first | refine aqs rfl (q_ldpW ag136 sz136 rfl (by repeat (first | exact .here | assumption | (apply HAt.left; assumption) | apply HAt.there | apply HAt.right)) (by first | rfl | assumption | (simp [*]; done) | fail) (by first | rfl | assumption | (simp [*]; done) | fail) (by decide)) rfl ?_ | refine aqs rfl (q_ldW ag136 sz136 rfl (by first | rfl | assumption | (simp [*]; done) | fail)) rfl ?_ | refine aqs rfl (q_ldpP ag136 sz136 rfl (by repeat (first | exact .here | assumption | (apply HAt.left; assumption) | apply HAt.there | apply HAt.right)) (by first | rfl | assumption | (simp [*]; done) | fail) (by first | decide | (simp; done) | omega | fail) (by decide) (by first | ((repeat constructor); done) | exact .same _)) rfl ?_ | refine aqs rfl (q_ldP ag136 sz136 rfl (by first | decide | (simp; done) | omega | fail) (by first | ((repeat constructor); done) | exact .same _)) rfl ?_
       first | (refine aen rfl (e_stW sz136 rfl (by repeat (first | exact .here | assumption | (apply HAt.left; assumption) | apply HAt.there | apply HAt.right)) (by constructor) (by first | rfl | assumption | (simp [*]; done) | fail) rfl (by repeat (first | exact .here | apply HSet.there))) ?_; rintro _ _ ⟨rfl, rfl⟩) | (refine aen rfl (e_stP sz136 rfl (by repeat (first | exact .here | assumption | (apply HAt.left; assumption) | apply HAt.there | apply HAt.right)) (by first | rfl | assumption | (simp [*]; done) | fail) (by constructor) (by first | rfl | assumption | (simp [*]; done) | fail) rfl (by first | decide | omega) (by first | ((repeat constructor); done) | exact .same _) (by first | exact .one | exact .set) (by repeat (first | exact .here | apply HSet.there))) ?_; rintro _ _ ⟨rfl, rfl⟩)
       refine alist_nil ?_
       show AWP _ _ _ _
       refine awp_region ?_
       first | refine aqs rfl (q_ldpW ag136 sz136 rfl (by repeat (first | exact .here | assumption | (apply HAt.left; assumption) | apply HAt.there | apply HAt.right)) (by first | rfl | assumption | (simp [*]; done) | fail) (by first | rfl | assumption | (simp [*]; done) | fail) (by decide)) rfl ?_ | refine aqs rfl (q_ldW ag136 sz136 rfl (by first | rfl | assumption | (simp [*]; done) | fail)) rfl ?_ | refine aqs rfl (q_ldpP ag136 sz136 rfl (by repeat (first | exact .here | assumption | (apply HAt.left; assumption) | apply HAt.there | apply HAt.right)) (by first | rfl | assumption | (simp [*]; done) | fail) (by first | decide | (simp; done) | omega | fail) (by decide) (by first | ((repeat constructor); done) | exact .same _)) rfl ?_ | refine aqs rfl (q_ldP ag136 sz136 rfl (by first | decide | (simp; done) | omega | fail) (by first | ((repeat constructor); done) | exact .same _)) rfl ?_
       first | (refine aen rfl (e_stW sz136 rfl (by repeat (first | exact .here | assumption | (apply HAt.left; assumption) | apply HAt.there | apply HAt.right)) (by constructor) (by first | rfl | assumption | (simp [*]; done) | fail) rfl (by repeat (first | exact .here | apply HSet.there))) ?_; rintro _ _ ⟨rfl, rfl⟩) | (refine aen rfl (e_stP sz136 rfl (by repeat (first | exact .here | assumption | (apply HAt.left; assumption) | apply HAt.there | apply HAt.right)) (by first | rfl | assumption | (simp [*]; done) | fail) (by constructor) (by first | rfl | assumption | (simp [*]; done) | fail) rfl (by first | decide | omega) (by first | ((repeat constructor); done) | exact .same _) (by first | exact .one | exact .set) (by repeat (first | exact .here | apply HSet.there))) ?_; rintro _ _ ⟨rfl, rfl⟩)
       refine alist_nil ?_
       show AWP _ _ _ _
       refine awp_region ?_
       refine aqs rfl (q_mv (by constructor)) rfl ?_
       first | refine aqs rfl (q_add64 rfl rfl (by omega) (by omega)) rfl ?_ | refine aqs rfl (q_add rfl rfl) rfl ?_
       refine aqs rfl (q_as (by constructor)) rfl ?_
       refine alist_nil ?_
       show ∃ y, _ ∧ _ ∧ _
       first
        | exact ⟨(i + 1, c', d', tab.set (s * 6 + t) (some (textS x.c))), ⟨by show i + 1 ≤ b.length; omega, by show i + 1 ≤ 30; omega, hPn⟩, by show 30 - (i + 1) < 30 - i; omega, by simp only [← hset]; exact .mk' ⟨by rfl, rfl, rfl, rfl, rfl, rfl, trivial⟩ (by repeat (first | exact List.Sublist.refl _ | exact List.nil_sublist _ | exact List.sublist_append_left _ _ | (apply List.Sublist.cons_cons) | (apply List.Sublist.cons)))⟩
        | exact ⟨(i + 1, c', d', tab), ⟨by show i + 1 ≤ b.length; omega, by show i + 1 ≤ 30; omega, hPn⟩, by show 30 - (i + 1) < 30 - i; omega, .mk' ⟨by rfl, rfl, rfl, rfl, rfl, rfl, trivial⟩ (by repeat (first | exact List.Sublist.refl _ | exact List.nil_sublist _ | exact List.sublist_append_left _ _ | (apply List.Sublist.cons_cons) | (apply List.Sublist.cons)))⟩
    ·have hh := hP.hits
     have hm := hP.misses
     have hsz := hP.size
     have e1 := hP.rc.clashes
     have e2 := hP.rd.clashes
     have e3 := hP.rc.evicted
     have e4 := hP.rd.evicted
     refine awp_exit ?_
     show AWP _ _ _ _
     refine awp_seq ?_
     refine awp_draw 43 [(0, false), (1, false), (2, false), (3, false), (4, false), (5, false), (6, false), (7, false), (8, false), (9, false), (10, false), (11, false), (12, false), (13, false), (14, false), (15, false), (16, false), (17, false), (18, false), (19, false), (20, false), (21, false), (22, false), (23, false), (24, false), (25, false), (26, false), (27, false), (28, false), (29, false), (30, false), (31, false), (32, false), (33, false), (34, false), (35, false), (36, false), (37, false), (38, false), (39, false), (40, false), (41, false), (42, false)] _ ([]) mixed (by kernel_rfl) (perm0 _) ?_
     refine glq rfl (.inl ⟨rfl, q_mv (by constructor)⟩) rfl ?_
     refine glq rfl (.inl ⟨rfl, q_mv (by constructor)⟩) rfl ?_
     first | refine glq rfl (.inl ⟨rfl, q_ldpW ag136 sz136 rfl (by repeat (first | exact .here | assumption | (apply HAt.left; assumption) | apply HAt.there | apply HAt.right)) (by first | rfl | assumption | (simp [*]; done) | fail) (by first | rfl | assumption | (simp [*]; done) | fail) (by decide)⟩) rfl ?_ | refine glq rfl (.inl ⟨rfl, q_ldW ag136 sz136 rfl (by first | rfl | assumption | (simp [*]; done) | fail)⟩) rfl ?_ | refine glq rfl (.inl ⟨rfl, q_ldpP ag136 sz136 rfl (by repeat (first | exact .here | assumption | (apply HAt.left; assumption) | apply HAt.there | apply HAt.right)) (by first | rfl | assumption | (simp [*]; done) | fail) (by first | decide | (simp; done) | omega | fail) (by decide) (by first | ((repeat constructor); done) | exact .same _)⟩) rfl ?_ | refine glq rfl (.inl ⟨rfl, q_ldP ag136 sz136 rfl (by first | decide | (simp; done) | omega | fail) (by first | ((repeat constructor); done) | exact .same _)⟩) rfl ?_ | refine glq rfl (.inr ⟨rfl, rfl⟩) rfl ?_
     first | refine glq rfl (.inl ⟨rfl, e_callN cb114 (size114_c c hcl _) rfl rfl⟩) rfl ?_ | refine glq rfl (.inl ⟨rfl, e_callN cb114 (ACall.arg (size114_c c hcl _) (by repeat (first | exact ArgL.nil | (apply ArgL.cons; (· first | exact .same | exact .cro | exact .nil))))) rfl rfl⟩) rfl ?_ | refine glq rfl (.inr ⟨rfl, rfl⟩) rfl ?_
     first | refine glq rfl (.inl ⟨rfl, q_ldpW ag136 sz136 rfl (by repeat (first | exact .here | assumption | (apply HAt.left; assumption) | apply HAt.there | apply HAt.right)) (by first | rfl | assumption | (simp [*]; done) | fail) (by first | rfl | assumption | (simp [*]; done) | fail) (by decide)⟩) rfl ?_ | refine glq rfl (.inl ⟨rfl, q_ldW ag136 sz136 rfl (by first | rfl | assumption | (simp [*]; done) | fail)⟩) rfl ?_ | refine glq rfl (.inl ⟨rfl, q_ldpP ag136 sz136 rfl (by repeat (first | exact .here | assumption | (apply HAt.left; assumption) | apply HAt.there | apply HAt.right)) (by first | rfl | assumption | (simp [*]; done) | fail) (by first | decide | (simp; done) | omega | fail) (by decide) (by first | ((repeat constructor); done) | exact .same _)⟩) rfl ?_ | refine glq rfl (.inl ⟨rfl, q_ldP ag136 sz136 rfl (by first | decide | (simp; done) | omega | fail) (by first | ((repeat constructor); done) | exact .same _)⟩) rfl ?_ | refine glq rfl (.inr ⟨rfl, rfl⟩) rfl ?_
     first | refine glq rfl (.inl ⟨rfl, e_callN cb114 (size114_c d hdl _) rfl rfl⟩) rfl ?_ | refine glq rfl (.inl ⟨rfl, e_callN cb114 (ACall.arg (size114_c d hdl _) (by repeat (first | exact ArgL.nil | (apply ArgL.cons; (· first | exact .same | exact .cro | exact .nil))))) rfl rfl⟩) rfl ?_ | refine glq rfl (.inr ⟨rfl, rfl⟩) rfl ?_
     refine glq rfl (.inl ⟨rfl, castT (q_eql rfl rfl) (by simp [hsz])⟩) rfl ?_
     first | refine glq rfl (.inl ⟨rfl, q_pickT rfl (by constructor)⟩) rfl ?_ | refine glq rfl (.inl ⟨rfl, q_pickF rfl (by constructor)⟩) rfl ?_
     refine glq rfl (.inl ⟨rfl, q_mv (by constructor)⟩) rfl ?_
     first | refine glq rfl (.inl ⟨rfl, q_fapP fl136_6 (by decide) rfl rfl⟩) rfl ?_ | refine glq rfl (.inl ⟨rfl, q_faP fl136_6 (by decide) rfl (by first | ((repeat constructor); done) | exact .same _)⟩) rfl ?_ | refine glq rfl (.inr ⟨rfl, rfl⟩) rfl ?_
     first | refine glq rfl (.inl ⟨rfl, q_ldpN ag3 rfl (by repeat (first | exact .here | assumption | (apply HAt.left; assumption) | apply HAt.there | apply HAt.right)) (by first | rfl | assumption | (simp [*]; done) | fail) (by first | rfl | assumption | (simp [*]; done) | fail) (by constructor)⟩) rfl ?_ | refine glq rfl (.inl ⟨rfl, q_ld1N ag3 rfl (by constructor)⟩) rfl ?_ | refine glq rfl (.inr ⟨rfl, rfl⟩) rfl ?_
     refine glq rfl (.inl ⟨rfl, castT (q_eql rfl rfl) (by simp [e3])⟩) rfl ?_
     first | refine glq rfl (.inl ⟨rfl, q_pickT rfl (by constructor)⟩) rfl ?_ | refine glq rfl (.inl ⟨rfl, q_pickF rfl (by constructor)⟩) rfl ?_
     refine glq rfl (.inl ⟨rfl, q_mv (by constructor)⟩) rfl ?_
     first | refine glq rfl (.inl ⟨rfl, q_fapP fl136_6 (by decide) rfl rfl⟩) rfl ?_ | refine glq rfl (.inl ⟨rfl, q_faP fl136_6 (by decide) rfl (by first | ((repeat constructor); done) | exact .same _)⟩) rfl ?_ | refine glq rfl (.inr ⟨rfl, rfl⟩) rfl ?_
     first | refine glq rfl (.inl ⟨rfl, q_ldpN ag3 rfl (by repeat (first | exact .here | assumption | (apply HAt.left; assumption) | apply HAt.there | apply HAt.right)) (by first | rfl | assumption | (simp [*]; done) | fail) (by first | rfl | assumption | (simp [*]; done) | fail) (by constructor)⟩) rfl ?_ | refine glq rfl (.inl ⟨rfl, q_ld1N ag3 rfl (by constructor)⟩) rfl ?_ | refine glq rfl (.inr ⟨rfl, rfl⟩) rfl ?_
     refine glq rfl (.inl ⟨rfl, castT (q_eql rfl rfl) (by simp [e4])⟩) rfl ?_
     first | refine glq rfl (.inl ⟨rfl, q_pickT rfl (by constructor)⟩) rfl ?_ | refine glq rfl (.inl ⟨rfl, q_pickF rfl (by constructor)⟩) rfl ?_
     refine glq rfl (.inl ⟨rfl, q_mv (by constructor)⟩) rfl ?_
     first | refine glq rfl (.inl ⟨rfl, q_fapP fl136_3 (by decide) rfl rfl⟩) rfl ?_ | refine glq rfl (.inl ⟨rfl, q_faP fl136_3 (by decide) rfl (by first | ((repeat constructor); done) | exact .same _)⟩) rfl ?_ | refine glq rfl (.inr ⟨rfl, rfl⟩) rfl ?_
     first | refine glq rfl (.inl ⟨rfl, q_ldpN ag3 rfl (by repeat (first | exact .here | assumption | (apply HAt.left; assumption) | apply HAt.there | apply HAt.right)) (by first | rfl | assumption | (simp [*]; done) | fail) (by first | rfl | assumption | (simp [*]; done) | fail) (by constructor)⟩) rfl ?_ | refine glq rfl (.inl ⟨rfl, q_ld1N ag3 rfl (by constructor)⟩) rfl ?_ | refine glq rfl (.inr ⟨rfl, rfl⟩) rfl ?_
     first | refine glq rfl (.inl ⟨rfl, q_fapP fl136_3 (by decide) rfl rfl⟩) rfl ?_ | refine glq rfl (.inl ⟨rfl, q_faP fl136_3 (by decide) rfl (by first | ((repeat constructor); done) | exact .same _)⟩) rfl ?_ | refine glq rfl (.inr ⟨rfl, rfl⟩) rfl ?_
     first | refine glq rfl (.inl ⟨rfl, q_ldpN ag3 rfl (by repeat (first | exact .here | assumption | (apply HAt.left; assumption) | apply HAt.there | apply HAt.right)) (by first | rfl | assumption | (simp [*]; done) | fail) (by first | rfl | assumption | (simp [*]; done) | fail) (by constructor)⟩) rfl ?_ | refine glq rfl (.inl ⟨rfl, q_ld1N ag3 rfl (by constructor)⟩) rfl ?_ | refine glq rfl (.inr ⟨rfl, rfl⟩) rfl ?_
     refine glq rfl (.inl ⟨rfl, castT (q_eql rfl rfl) (by simp [hh])⟩) rfl ?_
     first | refine glq rfl (.inl ⟨rfl, q_pickT rfl (by constructor)⟩) rfl ?_ | refine glq rfl (.inl ⟨rfl, q_pickF rfl (by constructor)⟩) rfl ?_
     refine glq rfl (.inl ⟨rfl, q_mv (by constructor)⟩) rfl ?_
     first | refine glq rfl (.inl ⟨rfl, q_fapP fl136_4 (by decide) rfl rfl⟩) rfl ?_ | refine glq rfl (.inl ⟨rfl, q_faP fl136_4 (by decide) rfl (by first | ((repeat constructor); done) | exact .same _)⟩) rfl ?_ | refine glq rfl (.inr ⟨rfl, rfl⟩) rfl ?_
     first | refine glq rfl (.inl ⟨rfl, q_ldpN ag3 rfl (by repeat (first | exact .here | assumption | (apply HAt.left; assumption) | apply HAt.there | apply HAt.right)) (by first | rfl | assumption | (simp [*]; done) | fail) (by first | rfl | assumption | (simp [*]; done) | fail) (by constructor)⟩) rfl ?_ | refine glq rfl (.inl ⟨rfl, q_ld1N ag3 rfl (by constructor)⟩) rfl ?_ | refine glq rfl (.inr ⟨rfl, rfl⟩) rfl ?_
     first | refine glq rfl (.inl ⟨rfl, q_fapP fl136_4 (by decide) rfl rfl⟩) rfl ?_ | refine glq rfl (.inl ⟨rfl, q_faP fl136_4 (by decide) rfl (by first | ((repeat constructor); done) | exact .same _)⟩) rfl ?_ | refine glq rfl (.inr ⟨rfl, rfl⟩) rfl ?_
     first | refine glq rfl (.inl ⟨rfl, q_ldpN ag3 rfl (by repeat (first | exact .here | assumption | (apply HAt.left; assumption) | apply HAt.there | apply HAt.right)) (by first | rfl | assumption | (simp [*]; done) | fail) (by first | rfl | assumption | (simp [*]; done) | fail) (by constructor)⟩) rfl ?_ | refine glq rfl (.inl ⟨rfl, q_ld1N ag3 rfl (by constructor)⟩) rfl ?_ | refine glq rfl (.inr ⟨rfl, rfl⟩) rfl ?_
     refine glq rfl (.inl ⟨rfl, castT (q_eql rfl rfl) (by simp [hm])⟩) rfl ?_
     first | refine glq rfl (.inl ⟨rfl, q_pickT rfl (by constructor)⟩) rfl ?_ | refine glq rfl (.inl ⟨rfl, q_pickF rfl (by constructor)⟩) rfl ?_
     refine glq rfl (.inl ⟨rfl, q_mv (by constructor)⟩) rfl ?_
     first | refine glq rfl (.inl ⟨rfl, q_fapP fl136_5 (by decide) rfl rfl⟩) rfl ?_ | refine glq rfl (.inl ⟨rfl, q_faP fl136_5 (by decide) rfl (by first | ((repeat constructor); done) | exact .same _)⟩) rfl ?_ | refine glq rfl (.inr ⟨rfl, rfl⟩) rfl ?_
     first | refine glq rfl (.inl ⟨rfl, q_ldpN ag3 rfl (by repeat (first | exact .here | assumption | (apply HAt.left; assumption) | apply HAt.there | apply HAt.right)) (by first | rfl | assumption | (simp [*]; done) | fail) (by first | rfl | assumption | (simp [*]; done) | fail) (by constructor)⟩) rfl ?_ | refine glq rfl (.inl ⟨rfl, q_ld1N ag3 rfl (by constructor)⟩) rfl ?_ | refine glq rfl (.inr ⟨rfl, rfl⟩) rfl ?_
     refine glq rfl (.inl ⟨rfl, castT (q_eql rfl rfl) (by simp [e1])⟩) rfl ?_
     first | refine glq rfl (.inl ⟨rfl, q_pickT rfl (by constructor)⟩) rfl ?_ | refine glq rfl (.inl ⟨rfl, q_pickF rfl (by constructor)⟩) rfl ?_
     refine glq rfl (.inl ⟨rfl, q_mv (by constructor)⟩) rfl ?_
     first | refine glq rfl (.inl ⟨rfl, q_fapP fl136_5 (by decide) rfl rfl⟩) rfl ?_ | refine glq rfl (.inl ⟨rfl, q_faP fl136_5 (by decide) rfl (by first | ((repeat constructor); done) | exact .same _)⟩) rfl ?_ | refine glq rfl (.inr ⟨rfl, rfl⟩) rfl ?_
     first | refine glq rfl (.inl ⟨rfl, q_ldpN ag3 rfl (by repeat (first | exact .here | assumption | (apply HAt.left; assumption) | apply HAt.there | apply HAt.right)) (by first | rfl | assumption | (simp [*]; done) | fail) (by first | rfl | assumption | (simp [*]; done) | fail) (by constructor)⟩) rfl ?_ | refine glq rfl (.inl ⟨rfl, q_ld1N ag3 rfl (by constructor)⟩) rfl ?_ | refine glq rfl (.inr ⟨rfl, rfl⟩) rfl ?_
     refine glq rfl (.inl ⟨rfl, castT (q_eql rfl rfl) (by simp [e2])⟩) rfl ?_
     first | refine glq rfl (.inl ⟨rfl, q_pickT rfl (by constructor)⟩) rfl ?_ | refine glq rfl (.inl ⟨rfl, q_pickF rfl (by constructor)⟩) rfl ?_
     refine glq rfl (.inl ⟨rfl, q_as (by constructor)⟩) rfl ?_
     (first | refine gld0 ?_ | refine gldA ?_)
     refine alist_nil ?_
     show AWP _ _ _ _
     refine awp_ret ?_
     repeat first | with_reducible refine then_ret ?_ | with_reducible refine blk_ret ?_ | with_reducible refine nogo_ret ?_
     apply retq (.inr rfl) (.cons (rok_t rfl) .nil)
     rotate_left
     ·exact ⟨rfl, rfl⟩
     repeat (first | exact List.Sublist.refl _ | exact List.nil_sublist _ | exact List.sublist_append_left _ _ | apply List.Sublist.cons)
end Go.Proofs.YtdlinfekifnmkaaAm
