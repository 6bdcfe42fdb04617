/- The walk of HistWider. Conditions: none. -/
import Derived.Test.YtdlinfekifnmkaaAmHistLegalWalk
set_option linter.unusedVariables false
set_option linter.unusedSimpArgs false
set_option maxRecDepth 20000
namespace Go.Proofs.YtdlinfekifnmkaaAm
open Go.Proofs
theorem acall_pub {P : Program} {f : FuncId} {u size n : Nat} {e : TypeId} {es : List (List AV)} {y : AV} {R : AV → Heap → Prop} (hn : n = es.length) (h : ACall P f [.ro es, y] [] R) : ACall P f [.sl u 0 n, y] [(u, .arr e size es)] R := by
  intro C vals ok hh hs hv
  have ho : ObRel C u (.arr e size es) := hh.ob u _ (by simp)
  refine (h (C.free u) vals (free_ok ok u) ⟨List.nodup_nil, fun v q hvq => by cases hvq⟩ hs (fun j x hx => ?_)).mono ?_
  · match j, hx with
    | 0, hx => injection hx with hx; subst hx; exact pubV_rv ok ho (.one (pub_all hn)) (hv 0 _ rfl)
    | 1, hx => injection hx with hx; subst hx; exact pubV_rv ok ho (.one .same) (hv 1 _ rfl)
    | j + 2, hx => cases hx
  · rintro ex w ⟨C', v, r, H', e1, e2, ok', hh', hl, hnw, hr, hR⟩
    have hlf : Le (Heap.M [(u, .arr e size es)]) C (C.free u) := (free_le C u).mono fun w hw => by subst hw; simp [Heap.M]
    refine ⟨C', v, r, H', e1, e2, ok', hh', hlf.trans ok hl (fun w hw => ?_), fun w hw => ?_, hr, hR⟩
    · simp [Heap.M] at hw
    · rcases hnw w hw with h | h
      · simp [Heap.M] at h
      · exact .inr h
structure Wide (x y : Call) : Prop where
  same : nrm y = nrm x
  ended : 0 ≤ y.to ↔ 0 ≤ x.to
  frm : y.frm ≤ x.frm
  to : x.to ≤ y.to
theorem linear_wide {c d : List Call} {r r' : Int} (hr : r ≤ r') (hl : d.length = c.length) (h : ∀ i, i < c.length → Wide (nth c i) (nth d i)) (hc : linear c r = true) : linear d r' = true := by
  refine linear_map (fun i => i) (fun i => i) hr (fun i hi => ⟨by omega, rfl⟩) (fun i hi => ⟨by omega, rfl⟩) (fun i hi => (h i hi).same) (fun i hi => (h i hi).ended) (fun k i hk hi hb => ?_) hc
  have h1 := h k hk
  have h2 := h i hi
  have h3 := before_to hb
  have a1 := h1.ended.1 h3.1
  have a2 := h1.to
  have a3 := h2.frm
  simp only [before, Bool.and_eq_true, decide_eq_true_eq]
  omega
set_option maxHeartbeats 8000000 in
theorem walkHistWider (raw : List Quad) (room which : Int) (n : Tri) (wraw : (∀ y ∈ raw, y.Wf) ∧ raw.length ≤ 9223372036854775807) (wroom : -9223372036854775808 ≤ room ∧ room ≤ 9223372036854775807) (wwhich : -9223372036854775808 ≤ which ∧ which ≤ 9223372036854775807) (wn : n.Wf) :
    QCall Try.prog 20 [.ro (raw.map Quad.cells), .lit (.int .i64 room), .lit (.int .i64 which), .agg n.cells] [] (.lit (.bool true)) := by
  obtain ⟨wn1, wn2, wn3⟩ := wn
  obtain ⟨c, hc⟩ : ∃ c, c = listOf raw 6 := ⟨_, rfl⟩
  have hcf : ∀ x ∈ c, Fine x := hc ▸ listOf_fine wraw.1 6
  have hcl : c.length ≤ 6 := hc ▸ listOf_len raw 6
  have hr0 := pick_nonneg room 4 (by omega)
  have hr1 := pick_lt room 4 (by omega)
  obtain ⟨r, hr⟩ : ∃ r, r = pick room 4 := ⟨_, rfl⟩
  rw [← hr] at hr0 hr1
  have hcml : (c.map Call.cells).length = c.length := List.length_map ..
  have hcm := fun x hx => (hcf x hx).may
  have e1 : linearS c r = (linear c r, 0) := linS_all hcm (by omega)
  have ha0 := pick_nonneg n.a 9 (by omega)
  have ha1 := pick_lt n.a 9 (by omega)
  obtain ⟨a, ha⟩ : ∃ a, a = pick n.a 9 := ⟨_, rfl⟩
  rw [← ha] at ha0 ha1
  have hb0 := pick_nonneg n.b 9 (by omega)
  have hb1 := pick_lt n.b 9 (by omega)
  obtain ⟨b, hb⟩ : ∃ b, b = pick n.b 9 := ⟨_, rfl⟩
  rw [← hb] at hb0 hb1
  have hv0 := pick_nonneg n.c 3 (by omega)
  have hv1 := pick_lt n.c 3 (by omega)
  obtain ⟨v, hv⟩ : ∃ v, v = pick n.c 3 := ⟨_, rfl⟩
  rw [← hv] at hv0 hv1
  have hp0 := pick_nonneg n.a 20 (by omega)
  obtain ⟨p, hp⟩ : ∃ p, p = pick n.a 20 := ⟨_, rfl⟩
  rw [← hp] at hp0
  obtain ⟨g, hg⟩ : ∃ g : Call, g = ⟨false, 0, 1, 0, false, p, -1⟩ := ⟨_, rfl⟩
  have hgm : mayC g = true := by
    have := bad_may g
    have hb : bad86 g = false := by
      rw [hg]
      show ((decide (p < 0) || decide ((-1 : Int) < -1)) || (decide ((0 : Int) ≤ -1) && decide ((-1 : Int) ≤ p))) = false
      simp; omega
    rw [hb] at this
    simpa using this.symm
  have e3 : linearS (c ++ [g]) r = (linear c r, 0) := by
    rw [linS_all (may_app hcm hgm) (by simp; omega), linear_with (by rw [hg]) (by rw [hg]; show (-1 : Int) < 0; decide)]
  have hes1 := app_cells c g
  have hgc : g.cells = [.lit (.bool false), .lit (.int .i64 0), .lit (.int .i64 1), .lit (.int .i64 0), .lit (.bool false), .lit (.int .i64 p), .lit (.int .i64 (-1))] := by subst hg; rfl
  rw [hgc] at hes1
  have hml : (c.map Call.cells).length - 0 + 1 = ((c ++ [g]).map Call.cells).length := by simp
  have hlen := lenCall c
  have hone := oneCall c
  refine acall_intro (n := 126) (rvs := [.tmp 8]) Try.func20 rfl rfl rfl (Nat.le_of_ble_eq_true rfl) ?_
  refine awp_seq ?_
  refine awp_region ?_
  (refine aes rfl (e_bx (by constructor) rfl rfl) rfl ?_; rintro _ _ ⟨u7, rfl, rfl⟩)
  refine aqs rfl (q_as (by constructor)) rfl ?_
  refine alist_nil ?_
  show AWP _ _ _ _
  refine awp_seq ?_
  refine awp_region ?_
  first | refine aqs rfl (e_callN cb78 (QCall.any _ awake78_c) rfl rfl) rfl ?_ | refine aqs rfl (e_callN cb78 (ACall.arg (QCall.any _ awake78_c) (by repeat (first | exact ArgL.nil | (apply ArgL.cons; (· first | exact .same | exact .cro | exact .nil))))) rfl rfl) rfl ?_
  refine aqs rfl (q_as (by constructor)) rfl ?_
  refine alist_nil ?_
  show AWP _ _ _ _
  refine awp_seq ?_
  refine awp_region ?_
  refine aqs rfl (q_mv (by constructor)) rfl ?_
  first | refine aqs rfl (e_callN cb83 (hc ▸ list83_c raw wraw.1 6 (by omega) _) rfl rfl) rfl ?_ | refine aqs rfl (e_callN cb83 (ACall.arg (hc ▸ list83_c raw wraw.1 6 (by omega) _) (by repeat (first | exact ArgL.nil | (apply ArgL.cons; (· first | exact .same | exact .cro | exact .nil))))) rfl rfl) rfl ?_
  refine aqs rfl (q_as (by constructor)) rfl ?_
  refine alist_nil ?_
  show AWP _ _ _ _
  refine awp_seq ?_
  refine awp_region ?_
  refine aqs rfl (q_mv (by constructor)) rfl ?_
  first | refine aqs rfl (e_callN cb84 (hr ▸ pick84_c _ _ wroom.1 wroom.2 (by omega) _) rfl rfl) rfl ?_ | refine aqs rfl (e_callN cb84 (ACall.arg (hr ▸ pick84_c _ _ wroom.1 wroom.2 (by omega) _) (by repeat (first | exact ArgL.nil | (apply ArgL.cons; (· first | exact .same | exact .cro | exact .nil))))) rfl rfl) rfl ?_
  refine aqs rfl (q_as (by constructor)) rfl ?_
  refine alist_nil ?_
  show AWP _ _ _ _
  refine awp_seq ?_
  refine awp_region ?_
  refine aqs rfl (q_mv (by constructor)) rfl ?_
  refine aqs rfl (q_mv (by constructor)) rfl ?_
  first | refine aqs rfl (e_callN cb85 (e1 ▸ linear85_c c r (by omega) _) rfl rfl) rfl ?_ | refine aqs rfl (e_callN cb85 (ACall.arg (e1 ▸ linear85_c c r (by omega) _) (by repeat (first | exact ArgL.nil | (apply ArgL.cons; (· first | exact .same | exact .cro | exact .nil))))) rfl rfl) rfl ?_
  refine aqs rfl (q_mv (by constructor)) rfl ?_
  refine aqs rfl (q_ex rfl rfl (by constructor)) rfl ?_
  refine aqs rfl (q_ex rfl rfl (by constructor)) rfl ?_
  refine aqs rfl (q_as (by constructor)) rfl ?_
  refine aqs rfl (q_as (by constructor)) rfl ?_
  refine alist_nil ?_
  show AWP _ _ _ _
  refine awp_seq ?_
  refine awp_seq ?_
  refine awp_region ?_
  refine aqs rfl (q_mv (by constructor)) rfl ?_
  refine aqs rfl (castF (q_neq rfl rfl) (by rfl)) rfl ?_
  refine aqs rfl (q_mv (by constructor)) rfl ?_
  first | refine ans rfl rfl ?_ | refine aqs rfl (q_mv (by constructor)) rfl ?_
  first | refine aqs rfl (castQ (r2 := .lit (.int .i64 (c.length : Nat))) (q_len Try.underlying90 .ro) (by rw [hcml])) rfl ?_ | refine aqs rfl (castQ (r2 := .lit (.int .i64 (c.length : Nat))) (q_lenO Try.underlying90 rfl (by repeat (first | exact .here | assumption | (apply HAt.left; assumption) | apply HAt.there | apply HAt.right)) (by first | omega | (simp; done) | (simp; omega) | fail) (by first | exact Nat.sub_zero _ | rfl)) (by rw [hcml])) rfl ?_ | refine aqs rfl (castQ (r2 := .lit (.int .i64 (c.length : Nat))) (q_len Try.underlying90 .nil) (by rw [hcml])) rfl ?_ | refine aqs rfl (castQ (r2 := .lit (.int .i64 (c.length : Nat))) (q_len Try.underlying90 .cro) (by rw [hcml])) rfl ?_
  first | refine ans rfl rfl ?_ | refine aqs rfl (q_eql rfl rfl) rfl ?_
  first | refine aqs rfl (q_pickT rfl (by constructor)) rfl ?_ | refine aqs rfl (q_pickF rfl (by constructor)) rfl ?_
  refine alist_nil ?_
  show AWP _ _ _ _
  refine awp_cond rfl (fun hc0 => ?_) (fun hc0 => ?_)
  · skip
    refine awp_seq ?_
    refine awp_region ?_
    refine aqs rfl (q_mv (by constructor)) rfl ?_
    refine aqs rfl (q_mv (by constructor)) rfl ?_
    first | refine ans rfl rfl ?_ | refine aqs rfl (q_mv (by constructor)) rfl ?_
    refine aqs rfl (castT (q_eql rfl rfl) (by rfl)) rfl ?_
    first | refine aqs rfl (q_pickT rfl (by constructor)) rfl ?_ | refine aqs rfl (q_pickF rfl (by constructor)) rfl ?_
    refine aqs rfl (q_as (by constructor)) rfl ?_
    refine alist_nil ?_
    show AWP _ _ _ _
    refine awp_ret ?_
    repeat first | with_reducible refine then_ret ?_ | with_reducible refine blk_ret ?_
    apply retq (.inr rfl) (.cons (rok_t rfl) .nil)
    rotate_left
    · exact ⟨rfl, rfl⟩
    repeat (first | exact List.Sublist.refl _ | exact List.nil_sublist _ | exact List.sublist_append_left _ _ | apply List.Sublist.cons)
  · have hne : 1 ≤ c.length := by
      rcases Nat.eq_zero_or_pos c.length with h | h
      · rw [h] at hc0; simp at hc0
      · exact h
    have hw0 := pick_nonneg which c.length (by omega)
    have hw1 := pick_lt which c.length (by omega)
    obtain ⟨w, hw, hwl⟩ : ∃ w : Nat, (w : Int) = pick which c.length ∧ w < c.length := ⟨(pick which c.length).toNat, by omega, by omega⟩
    obtain ⟨x, hx⟩ : ∃ x, x = nth c w := ⟨_, rfl⟩
    have hxf := hcf _ (nth_mem hwl)
    rw [← hx] at hxf
    have hx1 := hxf.frm
    have hx2 := hxf.to
    obtain ⟨ff, hff⟩ : ∃ ff, ff = max (x.frm - a) 0 := ⟨_, rfl⟩
    obtain ⟨tt, htt⟩ : ∃ tt, tt = if 0 ≤ x.to then x.to + b else x.to := ⟨_, rfl⟩
    obtain ⟨y, hy⟩ : ∃ y : Call, y = ⟨x.put, x.who, x.key, x.val, x.has, ff, tt⟩ := ⟨_, rfl⟩
    obtain ⟨d, hd⟩ : ∃ d, d = c.set w y := ⟨_, rfl⟩
    have hdl : d.length = c.length := by rw [hd, List.length_set]
    have hwy : Wide x y := by
      rw [hy]
      refine ⟨rfl, ?_, ?_, ?_⟩
      · show 0 ≤ tt ↔ 0 ≤ x.to
        rw [htt]; split <;> omega
      · show ff ≤ x.frm
        omega
      · show x.to ≤ tt
        rw [htt]; split <;> omega
    have hwd : ∀ i, i < c.length → Wide (nth c i) (nth d i) := by
      intro i hi
      by_cases h : w = i
      · subst h
        rw [hd, nth_set_self hwl, ← hx]; exact hwy
      · rw [hd, nth_set_ne h]; exact ⟨rfl, Iff.rfl, Int.le_refl _, Int.le_refl _⟩
    have hym : mayC y = true := by
      have := bad_may y
      have hb : bad86 y = false := by
        rw [hy]
        show ((decide (ff < 0) || decide (tt < -1)) || (decide (0 ≤ tt) && decide (tt ≤ ff))) = false
        simp only [Bool.or_eq_false_iff, Bool.and_eq_false_iff, decide_eq_false_iff_not]
        rw [htt]
        split <;> omega
      rw [hb] at this
      simpa using this.symm
    have hdm : ∀ z ∈ d, mayC z = true := by
      intro z hz
      rw [hd] at hz
      rcases List.mem_or_eq_of_mem_set hz with h | h
      · exact hcm z h
      · rw [h]; exact hym
    have e2 : linearS d (r + v) = (linear d (r + v), 0) := linS_all hdm (by omega)
    have hwide : linear c r = true → linear d (r + v) = true := linear_wide (by omega) hdl hwd
    have hq1 : (c.map Call.cells)[w]? = some [.lit (.bool x.put), .lit (.int .i64 x.who), .lit (.int .i64 x.key), .lit (.int .i64 x.val), .lit (.bool x.has), .lit (.int .i64 x.frm), .lit (.int .i64 x.to)] := by rw [hx]; exact get_map (f := Call.cells) (nth_get hwl)
    have hq2 : ((c.map Call.cells).set w [.lit (.bool x.put), .lit (.int .i64 x.who), .lit (.int .i64 x.key), .lit (.int .i64 x.val), .lit (.bool x.has), .lit (.int .i64 ff), .lit (.int .i64 x.to)])[w]? = some [.lit (.bool x.put), .lit (.int .i64 x.who), .lit (.int .i64 x.key), .lit (.int .i64 x.val), .lit (.bool x.has), .lit (.int .i64 ff), .lit (.int .i64 x.to)] := row_set (by rw [hcml]; exact hwl)
    have hds : d.map Call.cells = (c.map Call.cells).set w [.lit (.bool x.put), .lit (.int .i64 x.who), .lit (.int .i64 x.key), .lit (.int .i64 x.val), .lit (.bool x.has), .lit (.int .i64 ff), .lit (.int .i64 tt)] := by rw [hd, List.map_set, hy]
    have hwl2 : w < (c.map Call.cells).length := by omega
    refine awp_skip ?_
    show AWP _ _ _ _
    refine awp_seq ?_
    refine awp_region ?_
    refine aqs rfl (q_mv (by constructor)) rfl ?_
    refine aqs rfl (q_mv (by constructor)) rfl ?_
    first | refine aqs rfl (castQ (r2 := .lit (.int .i64 (c.length : Nat))) (q_len Try.underlying90 .ro) (by rw [hcml])) rfl ?_ | refine aqs rfl (castQ (r2 := .lit (.int .i64 (c.length : Nat))) (q_lenO Try.underlying90 rfl (by repeat (first | exact .here | assumption | (apply HAt.left; assumption) | apply HAt.there | apply HAt.right)) (by first | omega | (simp; done) | (simp; omega) | fail) (by first | exact Nat.sub_zero _ | rfl)) (by rw [hcml])) rfl ?_ | refine aqs rfl (castQ (r2 := .lit (.int .i64 (c.length : Nat))) (q_len Try.underlying90 .nil) (by rw [hcml])) rfl ?_ | refine aqs rfl (castQ (r2 := .lit (.int .i64 (c.length : Nat))) (q_len Try.underlying90 .cro) (by rw [hcml])) rfl ?_
    first | refine aqs rfl (e_callN cb84 (hw ▸ pick84_c _ _ wwhich.1 wwhich.2 (by omega) _) rfl rfl) rfl ?_ | refine aqs rfl (e_callN cb84 (ACall.arg (hw ▸ pick84_c _ _ wwhich.1 wwhich.2 (by omega) _) (by repeat (first | exact ArgL.nil | (apply ArgL.cons; (· first | exact .same | exact .cro | exact .nil))))) rfl rfl) rfl ?_
    refine aqs rfl (q_as (by constructor)) rfl ?_
    refine alist_nil ?_
    show AWP _ _ _ _
    refine awp_seq ?_
    refine awp_region ?_
    refine aqs rfl (q_mv (by constructor)) rfl ?_
    (refine aes rfl (e_apN Try.underlying90 sz103 by103 zr103 rfl (by first | exact .ro | exact .cro | exact .nil | exact SV.slA (by repeat (first | exact .here | assumption | (apply HAt.left; assumption) | apply HAt.there | apply HAt.right)) (by first | rfl | (simp; done) | (simp; omega) | (simp [*]; done) | fail)) (by first | assumption | (intro c hc; simp at hc; subst hc; rfl) | (simp; done) | fail) (by first | assumption | (intro c hc; simp at hc; subst hc; rfl) | (simp; done) | fail) (by first | (simp; done) | (simp; omega) | omega | fail) (by decide) (by decide) rfl rfl) rfl ?_; rintro _ _ ⟨u48, rfl, rfl⟩)
    refine aqs rfl (q_as (by constructor)) rfl ?_
    refine alist_nil ?_
    show AWP _ _ _ _
    refine awp_seq ?_
    refine awp_draw 14 [(0, false), (1, false), (2, false), (3, false), (4, false), (5, false), (6, false), (7, false), (8, false), (9, false), (10, false), (11, false), (12, false), (13, false)] _ ([]) mixed (by kernel_rfl) (perm0 _) ?_
    refine glq rfl (.inl ⟨rfl, q_mv (by constructor)⟩) rfl ?_
    refine glq rfl (.inl ⟨rfl, q_mv (by constructor)⟩) rfl ?_
    refine glq rfl (.inl ⟨rfl, q_mv (by constructor)⟩) rfl ?_
    refine glq rfl (.inl ⟨rfl, q_mv (by constructor)⟩) rfl ?_
    first | refine glq rfl (.inl ⟨rfl, q_iaN Try.underlying90 sz103 (.inl rfl) rfl (by omega) (by first | rfl | assumption | (simp [*]; done) | fail) (by first | rfl | assumption | (simp [*]; done) | fail) (by decide) (by first | ((repeat constructor); done) | exact .same _)⟩) rfl ?_ | refine glq rfl (.inl ⟨rfl, q_iaS Try.underlying90 sz103 rfl (by repeat (first | exact .here | assumption | (apply HAt.left; assumption) | apply HAt.there | apply HAt.right)) rfl (by omega) (by omega) (by first | exact Nat.zero_add _ | rfl)⟩) rfl ?_ | refine glq rfl (.inl ⟨rfl, q_iaN Try.underlying90 sz103 (.inr rfl) rfl (by omega) (by first | rfl | assumption | (simp [*]; done) | fail) (by first | rfl | assumption | (simp [*]; done) | fail) (by decide) (by first | ((repeat constructor); done) | exact .same _)⟩) rfl ?_
    first | refine glq rfl (.inl ⟨rfl, q_fapP fl103_5 (by decide) rfl rfl⟩) rfl ?_ | refine glq rfl (.inl ⟨rfl, q_faP fl103_5 (by decide) rfl (by first | ((repeat constructor); done) | exact .same _)⟩) rfl ?_
    first | refine glq rfl (.inl ⟨rfl, q_ldpN ag3 rfl (by repeat (first | exact .here | assumption | (apply HAt.left; assumption) | apply HAt.there | apply HAt.right)) (by first | rfl | assumption | (simp [*]; done) | fail) (by first | rfl | assumption | (simp [*]; done) | fail) (by constructor)⟩) rfl ?_ | refine glq rfl (.inl ⟨rfl, q_ld1N ag3 rfl (by constructor)⟩) rfl ?_
    refine glq rfl (.inl ⟨rfl, q_iaA Try.underlying83 sz3 rfl rfl (by omega) (by omega) rfl⟩) rfl ?_
    first | refine glq rfl (.inl ⟨rfl, q_ldpN ag3 rfl (by repeat (first | exact .here | assumption | (apply HAt.left; assumption) | apply HAt.there | apply HAt.right)) (by first | rfl | assumption | (simp [*]; done) | fail) (by first | rfl | assumption | (simp [*]; done) | fail) (by constructor)⟩) rfl ?_ | refine glq rfl (.inl ⟨rfl, q_ld1N ag3 rfl (by constructor)⟩) rfl ?_
    first | refine glq rfl (.inl ⟨rfl, e_callN cb84 (ha ▸ pick84_c _ _ wn1.1 wn1.2 (by omega) _) rfl rfl⟩) rfl ?_ | refine glq rfl (.inl ⟨rfl, e_callN cb84 (ACall.arg (ha ▸ pick84_c _ _ wn1.1 wn1.2 (by omega) _) (by repeat (first | exact ArgL.nil | (apply ArgL.cons; (· first | exact .same | exact .cro | exact .nil))))) rfl rfl⟩) rfl ?_
    first | refine glq rfl (.inl ⟨rfl, q_sub64 rfl rfl (by omega) (by omega)⟩) rfl ?_ | refine glq rfl (.inl ⟨rfl, q_sub rfl rfl⟩) rfl ?_
    refine glq rfl (.inl ⟨rfl, castQ (r2 := .lit (.int .i64 ff)) (q_max rfl rfl) (by rw [hff])⟩) rfl ?_
    first | refine glq rfl (.inl ⟨rfl, q_iaN Try.underlying90 sz103 (.inl rfl) rfl (by omega) (by first | rfl | assumption | (simp [*]; done) | fail) (by first | rfl | assumption | (simp [*]; done) | fail) (by decide) (by first | ((repeat constructor); done) | exact .same _)⟩) rfl ?_ | refine glq rfl (.inl ⟨rfl, q_iaS Try.underlying90 sz103 rfl (by repeat (first | exact .here | assumption | (apply HAt.left; assumption) | apply HAt.there | apply HAt.right)) rfl (by omega) (by omega) (by first | exact Nat.zero_add _ | rfl)⟩) rfl ?_ | refine glq rfl (.inl ⟨rfl, q_iaN Try.underlying90 sz103 (.inr rfl) rfl (by omega) (by first | rfl | assumption | (simp [*]; done) | fail) (by first | rfl | assumption | (simp [*]; done) | fail) (by decide) (by first | ((repeat constructor); done) | exact .same _)⟩) rfl ?_
    first | refine glq rfl (.inl ⟨rfl, q_fapP fl103_5 (by decide) rfl rfl⟩) rfl ?_ | refine glq rfl (.inl ⟨rfl, q_faP fl103_5 (by decide) rfl (by first | ((repeat constructor); done) | exact .same _)⟩) rfl ?_
    (first | refine gld0 ?_ | refine gldA ?_)
    first | (refine aen rfl (e_stW sz3 rfl (by repeat (first | exact .here | assumption | (apply HAt.left; assumption) | apply HAt.there | apply HAt.right)) (by constructor) (by first | rfl | assumption | (simp [*]; done) | fail) rfl (by repeat (first | exact .here | apply HSet.there))) ?_; rintro _ _ ⟨rfl, rfl⟩) | (refine aen rfl (e_stP sz3 rfl (by repeat (first | exact .here | assumption | (apply HAt.left; assumption) | apply HAt.there | apply HAt.right)) (by first | rfl | assumption | (simp [*]; done) | fail) (by constructor) (by first | rfl | assumption | (simp [*]; done) | fail) rfl (by first | decide | omega) (by first | ((repeat constructor); done) | exact .same _) (by first | exact .one | exact .set) (by repeat (first | exact .here | apply HSet.there))) ?_; rintro _ _ ⟨rfl, rfl⟩)
    refine alist_nil ?_
    show AWP _ _ _ _
    refine awp_join (fun _ : Unit => ⟨[(9, .lit (.bool true)), (10, .ro (c.map Call.cells)), (11, .lit (.int .i64 r)), (12, .lit (.bool (linear c r))), (15, .sl u48 0 (c.map Call.cells).length), (7, .ptr u7 0 0)], 126, [(u48, .arr 103 7 (d.map Call.cells)), (u7, .arr 83 3 [n.cells])]⟩) (fun _ => True) ?_ ?_
    · skip
      refine awp_seq ?_
      refine awp_region ?_
      refine aqs rfl (q_mv (by constructor)) rfl ?_
      refine aqs rfl (q_mv (by constructor)) rfl ?_
      first | refine aqs rfl (q_iaN Try.underlying90 sz103 (.inl rfl) rfl (by omega) (by first | rfl | assumption | (simp [*]; done) | fail) (by first | rfl | assumption | (simp [*]; done) | fail) (by decide) (by first | ((repeat constructor); done) | exact .same _)) rfl ?_ | refine aqs rfl (q_iaS Try.underlying90 sz103 rfl (by repeat (first | exact .here | assumption | (apply HAt.left; assumption) | apply HAt.there | apply HAt.right)) rfl (by omega) (by omega) (by first | exact Nat.zero_add _ | rfl)) rfl ?_ | refine aqs rfl (q_iaN Try.underlying90 sz103 (.inr rfl) rfl (by omega) (by first | rfl | assumption | (simp [*]; done) | fail) (by first | rfl | assumption | (simp [*]; done) | fail) (by decide) (by first | ((repeat constructor); done) | exact .same _)) rfl ?_
      first | refine aqs rfl (q_fapP fl103_6 (by decide) rfl rfl) rfl ?_ | refine aqs rfl (q_faP fl103_6 (by decide) rfl (by first | ((repeat constructor); done) | exact .same _)) rfl ?_
      first | refine aqs rfl (q_ldpN ag3 rfl (by repeat (first | exact .here | assumption | (apply HAt.left; assumption) | apply HAt.there | apply HAt.right)) (by first | rfl | assumption | (simp [*]; done) | fail) (by first | rfl | assumption | (simp [*]; done) | fail) (by constructor)) rfl ?_ | refine aqs rfl (q_ld1N ag3 rfl (by constructor)) rfl ?_
      refine aqs rfl (q_geq rfl rfl) rfl ?_
      refine alist_nil ?_
      show AWP _ _ _ _
      refine awp_cond rfl (fun hc1 => ?_) (fun hc1 => ?_)
      · have h1 : tt = x.to + b := by rw [htt, if_pos (by simpa using hc1)]
        have hjj : d.map Call.cells = ((c.map Call.cells).set w [.lit (.bool x.put), .lit (.int .i64 x.who), .lit (.int .i64 x.key), .lit (.int .i64 x.val), .lit (.bool x.has), .lit (.int .i64 ff), .lit (.int .i64 x.to)]).set w [.lit (.bool x.put), .lit (.int .i64 x.who), .lit (.int .i64 x.key), .lit (.int .i64 x.val), .lit (.bool x.has), .lit (.int .i64 ff), .lit (.int .i64 (x.to + b))] := by rw [hds, List.set_set, h1]
        refine awp_draw 13 [(0, false), (1, false), (2, false), (3, false), (4, false), (5, false), (6, false), (7, false), (8, false), (9, false), (10, false), (11, false), (12, false)] _ ([]) mixed (by kernel_rfl) (perm0 _) ?_
        refine glq rfl (.inl ⟨rfl, q_mv (by constructor)⟩) rfl ?_
        refine glq rfl (.inl ⟨rfl, q_mv (by constructor)⟩) rfl ?_
        refine glq rfl (.inl ⟨rfl, q_mv (by constructor)⟩) rfl ?_
        refine glq rfl (.inl ⟨rfl, q_mv (by constructor)⟩) rfl ?_
        first | refine glq rfl (.inl ⟨rfl, q_iaN Try.underlying90 sz103 (.inl rfl) rfl (by omega) (by first | rfl | assumption | (simp [*]; done) | fail) (by first | rfl | assumption | (simp [*]; done) | fail) (by decide) (by first | ((repeat constructor); done) | exact .same _)⟩) rfl ?_ | refine glq rfl (.inl ⟨rfl, q_iaS Try.underlying90 sz103 rfl (by repeat (first | exact .here | assumption | (apply HAt.left; assumption) | apply HAt.there | apply HAt.right)) rfl (by omega) (by omega) (by first | exact Nat.zero_add _ | rfl)⟩) rfl ?_ | refine glq rfl (.inl ⟨rfl, q_iaN Try.underlying90 sz103 (.inr rfl) rfl (by omega) (by first | rfl | assumption | (simp [*]; done) | fail) (by first | rfl | assumption | (simp [*]; done) | fail) (by decide) (by first | ((repeat constructor); done) | exact .same _)⟩) rfl ?_
        first | refine glq rfl (.inl ⟨rfl, q_fapP fl103_6 (by decide) rfl rfl⟩) rfl ?_ | refine glq rfl (.inl ⟨rfl, q_faP fl103_6 (by decide) rfl (by first | ((repeat constructor); done) | exact .same _)⟩) rfl ?_
        first | refine glq rfl (.inl ⟨rfl, q_ldpN ag3 rfl (by repeat (first | exact .here | assumption | (apply HAt.left; assumption) | apply HAt.there | apply HAt.right)) (by first | rfl | assumption | (simp [*]; done) | fail) (by first | rfl | assumption | (simp [*]; done) | fail) (by constructor)⟩) rfl ?_ | refine glq rfl (.inl ⟨rfl, q_ld1N ag3 rfl (by constructor)⟩) rfl ?_
        refine glq rfl (.inl ⟨rfl, q_iaA Try.underlying83 sz3 rfl rfl (by omega) (by omega) rfl⟩) rfl ?_
        first | refine glq rfl (.inl ⟨rfl, q_ldpN ag3 rfl (by repeat (first | exact .here | assumption | (apply HAt.left; assumption) | apply HAt.there | apply HAt.right)) (by first | rfl | assumption | (simp [*]; done) | fail) (by first | rfl | assumption | (simp [*]; done) | fail) (by constructor)⟩) rfl ?_ | refine glq rfl (.inl ⟨rfl, q_ld1N ag3 rfl (by constructor)⟩) rfl ?_
        first | refine glq rfl (.inl ⟨rfl, e_callN cb84 (hb ▸ pick84_c _ _ wn2.1 wn2.2 (by omega) _) rfl rfl⟩) rfl ?_ | refine glq rfl (.inl ⟨rfl, e_callN cb84 (ACall.arg (hb ▸ pick84_c _ _ wn2.1 wn2.2 (by omega) _) (by repeat (first | exact ArgL.nil | (apply ArgL.cons; (· first | exact .same | exact .cro | exact .nil))))) rfl rfl⟩) rfl ?_
        first | refine glq rfl (.inl ⟨rfl, q_add64 rfl rfl (by omega) (by omega)⟩) rfl ?_ | refine glq rfl (.inl ⟨rfl, q_add rfl rfl⟩) rfl ?_
        first | refine glq rfl (.inl ⟨rfl, q_iaN Try.underlying90 sz103 (.inl rfl) rfl (by omega) (by first | rfl | assumption | (simp [*]; done) | fail) (by first | rfl | assumption | (simp [*]; done) | fail) (by decide) (by first | ((repeat constructor); done) | exact .same _)⟩) rfl ?_ | refine glq rfl (.inl ⟨rfl, q_iaS Try.underlying90 sz103 rfl (by repeat (first | exact .here | assumption | (apply HAt.left; assumption) | apply HAt.there | apply HAt.right)) rfl (by omega) (by omega) (by first | exact Nat.zero_add _ | rfl)⟩) rfl ?_ | refine glq rfl (.inl ⟨rfl, q_iaN Try.underlying90 sz103 (.inr rfl) rfl (by omega) (by first | rfl | assumption | (simp [*]; done) | fail) (by first | rfl | assumption | (simp [*]; done) | fail) (by decide) (by first | ((repeat constructor); done) | exact .same _)⟩) rfl ?_
        first | refine glq rfl (.inl ⟨rfl, q_fapP fl103_6 (by decide) rfl rfl⟩) rfl ?_ | refine glq rfl (.inl ⟨rfl, q_faP fl103_6 (by decide) rfl (by first | ((repeat constructor); done) | exact .same _)⟩) rfl ?_
        (first | refine gld0 ?_ | refine gldA ?_)
        first | (refine aen rfl (e_stW sz3 rfl (by repeat (first | exact .here | assumption | (apply HAt.left; assumption) | apply HAt.there | apply HAt.right)) (by constructor) (by first | rfl | assumption | (simp [*]; done) | fail) rfl (by repeat (first | exact .here | apply HSet.there))) ?_; rintro _ _ ⟨rfl, rfl⟩) | (refine aen rfl (e_stP sz3 rfl (by repeat (first | exact .here | assumption | (apply HAt.left; assumption) | apply HAt.there | apply HAt.right)) (by first | rfl | assumption | (simp [*]; done) | fail) (by constructor) (by first | rfl | assumption | (simp [*]; done) | fail) rfl (by first | decide | omega) (by first | ((repeat constructor); done) | exact .same _) (by first | exact .one | exact .set) (by repeat (first | exact .here | apply HSet.there))) ?_; rintro _ _ ⟨rfl, rfl⟩)
        refine alist_nil ?_
        show ∃ y, _ ∧ _
        exact ⟨(), trivial, by simp only [hjj]; exact .mk' ⟨by rfl, rfl, rfl, rfl, rfl, rfl, trivial⟩ (by repeat (first | exact List.Sublist.refl _ | exact List.nil_sublist _ | exact List.sublist_append_left _ _ | (apply List.Sublist.cons_cons) | (apply List.Sublist.cons)))⟩
      · have h1 : tt = x.to := by rw [htt, if_neg (by simpa using hc1)]
        have hjj : d.map Call.cells = (c.map Call.cells).set w [.lit (.bool x.put), .lit (.int .i64 x.who), .lit (.int .i64 x.key), .lit (.int .i64 x.val), .lit (.bool x.has), .lit (.int .i64 ff), .lit (.int .i64 x.to)] := by rw [hds, h1]
        refine awp_skip ?_
        show ∃ y, _ ∧ _
        exact ⟨(), trivial, by simp only [hjj]; exact .mk' ⟨by rfl, rfl, rfl, rfl, rfl, rfl, trivial⟩ (by repeat (first | exact List.Sublist.refl _ | exact List.nil_sublist _ | exact List.sublist_append_left _ _ | (apply List.Sublist.cons_cons) | (apply List.Sublist.cons)))⟩
    intro _ _
    show AWP _ _ _ ⟨_, _, _⟩
    have hdc : (c.map Call.cells).length = (d.map Call.cells).length := by simp [hdl]
    refine awp_seq ?_
    show AWP _ _ _ _
    refine awp_pub (u := u48) (by repeat (first | exact .here | assumption | (apply HAt.left; assumption) | apply HAt.there | apply HAt.right)) (by repeat (first | exact PubT.nil | (apply PubT.cons; (· first | exact .one (pub_all (by first | rfl | (simp; done) | (simp; omega) | (simp [*]; done) | fail)) | exact .one .same)) | exact PubT.same)) (by repeat (first | exact PubH.drop .same | (apply PubH.cons; (· exact .same)))) ?_
    refine awp_region ?_
    refine aqs rfl (q_mv (by constructor)) rfl ?_
    refine aqs rfl (q_mv (by constructor)) rfl ?_
    refine aqs rfl (q_iaA Try.underlying83 sz3 rfl rfl (by omega) (by omega) rfl) rfl ?_
    first | refine aqs rfl (q_ldpN ag3 rfl (by repeat (first | exact .here | assumption | (apply HAt.left; assumption) | apply HAt.there | apply HAt.right)) (by first | rfl | assumption | (simp [*]; done) | fail) (by first | rfl | assumption | (simp [*]; done) | fail) (by constructor)) rfl ?_ | refine aqs rfl (q_ld1N ag3 rfl (by constructor)) rfl ?_
    first | refine aqs rfl (e_callN cb84 (hv ▸ pick84_c _ _ wn3.1 wn3.2 (by omega) _) rfl rfl) rfl ?_ | refine aqs rfl (e_callN cb84 (ACall.arg (hv ▸ pick84_c _ _ wn3.1 wn3.2 (by omega) _) (by repeat (first | exact ArgL.nil | (apply ArgL.cons; (· first | exact .same | exact .cro | exact .nil))))) rfl rfl) rfl ?_
    first | refine aqs rfl (q_add64 rfl rfl (by omega) (by omega)) rfl ?_ | refine aqs rfl (q_add rfl rfl) rfl ?_
    first | refine aqs rfl (e_callN cb85 (e2 ▸ linear85_c d (r + v) (by omega) _) rfl rfl) rfl ?_ | refine aqs rfl (e_callN cb85 (ACall.arg (e2 ▸ linear85_c d (r + v) (by omega) _) (by repeat (first | exact ArgL.nil | (apply ArgL.cons; (· first | exact .same | exact .cro | exact .nil))))) rfl rfl) rfl ?_
    refine aqs rfl (q_mv (by constructor)) rfl ?_
    refine aqs rfl (q_ex rfl rfl (by constructor)) rfl ?_
    refine aqs rfl (q_ex rfl rfl (by constructor)) rfl ?_
    refine aqs rfl (q_as (by constructor)) rfl ?_
    refine aqs rfl (q_as (by constructor)) rfl ?_
    refine alist_nil ?_
    show AWP _ _ _ _
    refine awp_seq ?_
    refine awp_draw 14 [(0, false), (2, false), (3, false), (8, false), (1, true), (4, false), (5, false), (6, false), (7, true), (9, true), (10, false), (11, false), (12, false), (13, false)] [_] ([]) mixed (by kernel_rfl) (perm0 _) ?_
    refine glq rfl (.inl ⟨rfl, q_mv (by constructor)⟩) rfl ?_
    refine glq rfl (.inl ⟨rfl, q_iaA Try.underlying83 sz3 rfl rfl (by omega) (by omega) rfl⟩) rfl ?_
    first | refine glq rfl (.inl ⟨rfl, q_ldpN ag3 rfl (by repeat (first | exact .here | assumption | (apply HAt.left; assumption) | apply HAt.there | apply HAt.right)) (by first | rfl | assumption | (simp [*]; done) | fail) (by first | rfl | assumption | (simp [*]; done) | fail) (by constructor)⟩) rfl ?_ | refine glq rfl (.inl ⟨rfl, q_ld1N ag3 rfl (by constructor)⟩) rfl ?_
    refine glq rfl (.inl ⟨rfl, q_mv (by constructor)⟩) rfl ?_
    (refine gla rfl rfl (EOp.frame (e_apN Try.underlying90 sz103 by103 zr103 rfl (by first | exact .ro | exact .cro | exact .nil | exact SV.slA (by repeat (first | exact .here | assumption | (apply HAt.left; assumption) | apply HAt.there | apply HAt.right)) (by first | rfl | (simp; done) | (simp; omega) | (simp [*]; done) | fail)) (by first | assumption | (intro c hc; simp at hc; subst hc; rfl) | (simp; done) | fail) (by first | assumption | (intro c hc; simp at hc; subst hc; rfl) | (simp; done) | fail) (by first | (simp; done) | (simp; omega) | omega | fail) (by decide) (by decide) rfl rfl)) rfl ?_; rintro _ _ ⟨u94, rfl, rfl⟩)
    first | refine glq rfl (.inl ⟨rfl, e_callN cb84 (hp ▸ pick84_c _ _ wn1.1 wn1.2 (by omega) _) rfl rfl⟩) rfl ?_ | refine glq rfl (.inl ⟨rfl, e_callN cb84 (ACall.arg (hp ▸ pick84_c _ _ wn1.1 wn1.2 (by omega) _) (by repeat (first | exact ArgL.nil | (apply ArgL.cons; (· first | exact .same | exact .cro | exact .nil))))) rfl rfl⟩) rfl ?_
    refine glq rfl (.inl ⟨rfl, q_bd st103 zr103 (by first | ((repeat constructor); done) | exact .same _) (by repeat (first | exact BD.nil | (apply BD.cons; (· rfl); (· constructor); (· rfl); (· rfl); (· exact Nat.le_of_ble_eq_true (by rfl)); (· exact (by first | ((repeat constructor); done) | exact .same _)))))⟩) rfl ?_
    refine glq rfl (.inl ⟨rfl, q_bs Try.underlying90 sz103 zr103 rfl (by first | ((repeat constructor); done) | exact .same _) rfl (by decide) (by repeat (first | exact BS.nil | (apply BS.cons; (· constructor); (· rfl); (· rfl); (· rfl); (· exact (by first | ((repeat constructor); done) | exact .same _)))))⟩) rfl ?_
    first | (refine gla rfl rfl (EOp.frame (e_apO Try.underlying90 sz103 by103 zr103 rfl (by repeat (first | exact .here | assumption | (apply HAt.left; assumption) | apply HAt.there | apply HAt.right)) (by first | exact Nat.le_refl _ | (simp; done) | fail) (by first | exact .ro | exact .cro | exact .nil | exact SV.slA (by repeat (first | exact .here | assumption | (apply HAt.left; assumption) | apply HAt.there | apply HAt.right)) (by first | rfl | (simp; done) | (simp; omega) | (simp [*]; done) | fail)) (by first | assumption | (intro c hc; simp at hc; subst hc; rfl) | (simp; done) | fail) (by first | assumption | (intro c hc; simp at hc; subst hc; rfl) | (simp; done) | fail) (by first | assumption | (intro c hc; simp at hc; subst hc; rfl) | (simp; done) | fail) (by first | (simp; done) | (simp; omega) | omega | fail) (by decide) (by decide) rfl (by first | exact hml | rfl | fail) hes1 (fun v => (by repeat (first | exact .here | apply HSet.there))))) rfl ?_; rintro _ _ ⟨u100, rfl, rfl⟩) | (refine gla rfl rfl (EOp.frame (e_apN Try.underlying90 sz103 by103 zr103 rfl (by first | exact .ro | exact .cro | exact .nil | exact SV.slA (by repeat (first | exact .here | assumption | (apply HAt.left; assumption) | apply HAt.there | apply HAt.right)) (by first | rfl | (simp; done) | (simp; omega) | (simp [*]; done) | fail)) (by first | assumption | (intro c hc; simp at hc; subst hc; rfl) | (simp; done) | fail) (by first | assumption | (intro c hc; simp at hc; subst hc; rfl) | (simp; done) | fail) (by first | (simp; done) | (simp; omega) | omega | fail) (by decide) (by decide) rfl rfl)) rfl ?_; rintro _ _ ⟨u100, rfl, rfl⟩)
    first | (refine gla rfl rfl (EOp.frame (e_callN cb85 (acall_pub rfl (e3 ▸ linear85_c (c ++ [g]) r (by simp; omega) [])) rfl rfl)) rfl ?_; rintro _ _ ⟨rfl, rfl⟩) | (refine gla rfl rfl (EOp.frame (e_callN cb85 (ACall.arg (acall_pub rfl (e3 ▸ linear85_c (c ++ [g]) r (by simp; omega) [])) (by repeat (first | exact ArgL.nil | (apply ArgL.cons; (· first | exact .same | exact .cro | exact .nil))))) rfl rfl)) rfl ?_; rintro _ _ ⟨rfl, rfl⟩)
    refine glq rfl (.inl ⟨rfl, q_mv (by constructor)⟩) rfl ?_
    refine glq rfl (.inl ⟨rfl, q_ex rfl rfl (by constructor)⟩) rfl ?_
    refine glq rfl (.inl ⟨rfl, q_ex rfl rfl (by constructor)⟩) rfl ?_
    refine glq rfl (.inl ⟨rfl, q_as (by constructor)⟩) rfl ?_
    refine gldA ?_
    refine aqs rfl (q_as (by constructor)) rfl ?_
    refine alist_nil ?_
    show AWP _ _ _ _
    refine awp_mid [(8, .lit (.bool true))] ?_ ?_
    · skip
      refine awp_region ?_
      all_goals (refine aqs rfl (q_mv (by constructor)) rfl ?_)
      all_goals (refine aqs rfl (q_mv (by constructor)) rfl ?_)
      all_goals (first | refine ans rfl rfl ?_ | refine aqs rfl (q_mv (by constructor)) rfl ?_)
      all_goals (first | refine ans rfl rfl ?_ | refine aqs rfl (castT (q_eql rfl rfl) (by rfl)) rfl ?_)
      all_goals (first | refine aqs rfl (q_pickT rfl (by constructor)) rfl ?_ | refine aqs rfl (q_pickF rfl (by constructor)) rfl ?_)
      all_goals (refine aqs rfl (q_mv (by constructor)) rfl ?_)
      all_goals (first | refine ans rfl rfl ?_ | refine aqs rfl (q_mv (by constructor)) rfl ?_)
      all_goals (first | refine ans rfl rfl ?_ | refine aqs rfl (q_not rfl) rfl ?_)
      all_goals (first | refine ans rfl rfl ?_ | refine aqs rfl (q_mv (by constructor)) rfl ?_)
      all_goals try (refine acase (fun hb8 => ?_) (fun hb8 => ?_))
      all_goals first | (exfalso; cases hb8; done) | skip
      all_goals (first | refine ans rfl rfl ?_ | refine aqs rfl (q_mv (by constructor)) rfl ?_)
      all_goals (first | refine ans rfl rfl ?_ | refine aqs rfl (castT (q_pickT rfl (by constructor)) (by first | rfl | exact hwide (by simpa using hb8))) rfl ?_ | refine aqs rfl (castT (q_pickF rfl (by constructor)) (by first | rfl | exact hwide (by simpa using hb8))) rfl ?_)
      all_goals (first | refine aqs rfl (q_pickT rfl (by constructor)) rfl ?_ | refine aqs rfl (q_pickF rfl (by constructor)) rfl ?_)
      all_goals (refine aqs rfl (q_mv (by constructor)) rfl ?_)
      all_goals (first | refine ans rfl rfl ?_ | refine aqs rfl (q_mv (by constructor)) rfl ?_)
      all_goals (first | refine ans rfl rfl ?_ | refine aqs rfl (castT (q_eql rfl rfl) (by rfl)) rfl ?_)
      all_goals (first | refine aqs rfl (q_pickT rfl (by constructor)) rfl ?_ | refine aqs rfl (q_pickF rfl (by constructor)) rfl ?_)
      all_goals (refine aqs rfl (q_mv (by constructor)) rfl ?_)
      all_goals (first | refine ans rfl rfl ?_ | refine aqs rfl (q_mv (by constructor)) rfl ?_)
      all_goals (first | refine ans rfl rfl ?_ | refine aqs rfl (q_mv (by constructor)) rfl ?_)
      all_goals (first | refine ans rfl rfl ?_ | refine aqs rfl (castT (q_beql rfl rfl Try.underlying4) (by simp)) rfl ?_)
      all_goals (first | refine aqs rfl (q_pickT rfl (by constructor)) rfl ?_ | refine aqs rfl (q_pickF rfl (by constructor)) rfl ?_)
      all_goals (refine aqs rfl (q_as (by constructor)) rfl ?_)
      all_goals (refine alist_nil ?_)
      all_goals (exact ⟨rfl, .mk' (by repeat (first | exact trivial | refine ⟨rfl, ?_⟩ | (refine ⟨?_, ?_⟩; (· first | (rw [hb8]; rfl) | fail)))) (by repeat (first | exact .refl _ | exact List.nil_sublist _ | exact List.sublist_append_left _ _ | apply List.Sublist.cons))⟩)
    refine awp_ret ?_
    repeat first | with_reducible refine then_ret ?_ | with_reducible refine blk_ret ?_
    apply retq (.inr rfl) (.cons (rok_t rfl) .nil)
    rotate_left
    · exact ⟨rfl, rfl⟩
    repeat (first | exact List.Sublist.refl _ | exact List.nil_sublist _ | exact List.sublist_append_left _ _ | apply List.Sublist.cons)
end Go.Proofs.YtdlinfekifnmkaaAm
