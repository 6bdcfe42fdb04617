/- Contracts of the layer 'flight', sixth part: the program's deeds. Conditions: the lengths. -/
import Derived.Test.YtdlinfekifnmkaaAmFlightE
import Derived.Test.YtdlinfekifnmkaaAmAppI
set_option linter.unusedVariables false
set_option linter.unusedSimpArgs false
set_option maxRecDepth 20000
namespace Go.Proofs.YtdlinfekifnmkaaAm
open Go.Proofs
section
variable {P : Program} {d : Option Tmp} {ty : TypeId} {pos : String} {af : Array Edge} {g : Option (Nat × Bool)} {ev : Operand → AV} {H : Heap}
/-- A slice of the call's own, up to a place within what is known of it. -/
theorem q_slB {tt e : TypeId} {x lo hi : Operand} {es : List (List AV)} {u l0 h0 l h sz a b : Nat} {k1 k2 : IntKind} (ht : P.underlying tt = some (.slice e)) (hsz : szOf P e = some sz) (hx : ev x = .sl u l0 h0) (hq : HAt H u (.arr e sz es)) (hl : ev lo = .lit (.int k1 (l : Int))) (hh : ev hi = .lit (.int k2 (h : Int)))
    (h1 : l ≤ h) (h2 : l0 + h ≤ es.length) (ha : l0 + l = a) (hb : l0 + h = b) : QOp P ⟨d, .slice tt x (some lo) (some hi) none, ty, pos, af, g⟩ ev H (.sl u a b) :=
  qop_same (s := fun ρ => Instr.sliceAt tt (ρ x) (Option.map ρ (some lo)) (Option.map ρ (some hi)) (Option.map ρ none)) (fun ρ => rfl) fun C ac ok hhe he => by
    have h3 := he x (by simp [Op.operands])
    have e1 := he lo (by simp [Op.operands])
    have e2 := he hi (by simp [Op.operands])
    rw [hl] at e1
    rw [hh] at e2
    have e1 := rv_lit e1
    have e2 := rv_lit e2
    rw [hx] at h3
    generalize hv : ac.eval x = v at h3
    cases h3 with
    | sl hu hlh hhc hA hn hcap =>
      rename_i A n c
      obtain ⟨q, hq⟩ := hq.at
      have hsize := (hhe.at hq).2.1
      have hlen := (hhe.at hq).2.2.1
      refine ⟨.slice (if c = l then A else A.map (·.add (l * sz))) (h - l) (c - l), ?_, ?_⟩
      · unfold Instr.sliceAt
        simp only [run_under ht, Sem.run_bind, Result.andThen_ok]
        unfold Instr.slice Instr.sliceBounds Instr.sliceBound asIntOf
        have h2c : h ≤ c := by omega
        simp [e1, e2, run_under ht, run_szOf hsz, h1, h2c]
      · subst ha
        subst hb
        refine .sl hu (by omega) (by omega) (fun hne => ?_) (by omega) (by omega)
        subst hcap
        rw [if_neg (by omega), hA (by omega), hsize, Option.map_map]
        congr 1
        funext a0
        simp [add_add, Nat.add_mul]
/-- The beginning of a slice of the call's own. -/
theorem q_sl0 {tt e : TypeId} {x hi : Operand} {u h0 h sz : Nat} {k2 : IntKind} (ht : P.underlying tt = some (.slice e)) (hsz : szOf P e = some sz) (hx : ev x = .sl u 0 h0) (hh : ev hi = .lit (.int k2 (h : Int))) (h1 : h ≤ h0) : QOp P ⟨d, .slice tt x none (some hi) none, ty, pos, af, g⟩ ev H (.sl u 0 h) :=
  qop_same (s := fun ρ => Instr.sliceAt tt (ρ x) (Option.map ρ none) (Option.map ρ (some hi)) (Option.map ρ none)) (fun ρ => rfl) fun C ac ok hhe he => by
    have h3 := he x (by simp [Op.operands])
    have e2 := he hi (by simp [Op.operands])
    rw [hh] at e2
    have e2 := rv_lit e2
    rw [hx] at h3
    generalize hv : ac.eval x = v at h3
    cases h3 with
    | sl hu hlh hhc hA hn hcap =>
      rename_i A n c
      refine ⟨.slice (if c = 0 then A else A.map (·.add (0 * sz))) (h - 0) (c - 0), ?_, ?_⟩
      · unfold Instr.sliceAt
        simp only [run_under ht, Sem.run_bind, Result.andThen_ok]
        unfold Instr.slice Instr.sliceBounds Instr.sliceBound asIntOf
        have h2c : h ≤ c := by omega
        simp [e2, run_under ht, run_szOf hsz, h2c]
      · refine .sl hu (by omega) (by omega) (fun hne => ?_) (by omega) (by omega)
        have hA2 := hA hne
        rw [if_neg (by omega), hA2, Option.map_map]
        congr 1
        funext a0
        simp [add_add, Nat.zero_mul]
/-- A slice with three bounds, whose value is not asked. -/
theorem q_slX {tt e : TypeId} {x lo hi mx : Operand} {u n l h m sz : Nat} {k1 k2 k3 : IntKind} (ht : P.underlying tt = some (.slice e)) (hsz : szOf P e = some sz) (hx : ev x = .sl u 0 n) (hl : ev lo = .lit (.int k1 (l : Int))) (hh : ev hi = .lit (.int k2 (h : Int))) (hm : ev mx = .lit (.int k3 (m : Int)))
    (h1 : l ≤ h) (h2 : h ≤ m) (h3 : m ≤ n) : QOp P ⟨d, .slice tt x (some lo) (some hi) (some mx), ty, pos, af, g⟩ ev H .any :=
  qop_same (s := fun ρ => Instr.sliceAt tt (ρ x) (Option.map ρ (some lo)) (Option.map ρ (some hi)) (Option.map ρ (some mx))) (fun ρ => rfl) fun C ac ok hhe he => by
    have h4 := he x (by simp [Op.operands])
    have e1 := he lo (by simp [Op.operands])
    have e2 := he hi (by simp [Op.operands])
    have e3 := he mx (by simp [Op.operands])
    rw [hl] at e1
    rw [hh] at e2
    rw [hm] at e3
    have e1 := rv_lit e1
    have e2 := rv_lit e2
    have e3 := rv_lit e3
    rw [hx] at h4
    generalize hv : ac.eval x = v at h4
    cases h4 with
    | sl hu hlh hhc hA hn hcap =>
      rename_i A nn c
      refine ⟨.slice (if m = l then A else A.map (·.add (l * sz))) (h - l) (m - l), ?_, .any⟩
      unfold Instr.sliceAt
      simp only [run_under ht, Sem.run_bind, Result.andThen_ok]
      unfold Instr.slice Instr.sliceBounds Instr.sliceBound asIntOf
      have h2c : m ≤ c := by omega
      simp [e1, e2, e3, run_under ht, run_szOf hsz, h1, h2, h2c]
end
theorem exI {ev : Operand → AV} {o : Operand} {k : IntKind} (i : Nat) (h : ev o = .lit (.int k ((i : Int) + 1)) := by rfl) : bnd ev (some o) 0 (i + 1) := ⟨k, (i : Int) + 1, h, by omega⟩
set_option maxHeartbeats 4000000 in
theorem del154_c (f : List Fill) (hf : f.length ≤ 1000) (i : Nat) (hi : i < f.length) (u : Nat) : ACall Try.prog 154 [.sl u 0 f.length, .lit (.int .i64 i), .lit (.int .i64 ((i : Int) + 1))] [(u, .arr 115 4 (f.map Fill.cells))]
    (fun r H' => ∃ v, r = .sl v 0 (f.take i ++ f.drop (i + 1)).length ∧ H' = [(v, .arr 115 4 ((f.take i ++ f.drop (i + 1)).map Fill.cells))]) := by
  have hfl : (f.map Fill.cells).length = f.length := List.length_map ..
  have hl2 := lenFill (f.drop (i + 1))
  have ho2 := oneFill (f.drop (i + 1))
  have hdl : ((f.drop (i + 1)).map Fill.cells).length = f.length - (i + 1) := by simp
  have hsrc : ((f.map Fill.cells).drop (i + 1)).take (f.length - (i + 1)) = (f.drop (i + 1)).map Fill.cells := by rw [List.take_of_length_le (by simp), List.map_drop]
  obtain ⟨es3, hes3⟩ : ∃ es3, es3 = (f.map Fill.cells).take i ++ (f.drop (i + 1)).map Fill.cells ++ (f.map Fill.cells).drop (i + ((f.drop (i + 1)).map Fill.cells).length) := ⟨_, rfl⟩
  have hel : es3.length = f.length := by rw [hes3]; simp; omega
  have htk : es3.take (f.take i ++ f.drop (i + 1)).length = (f.take i ++ f.drop (i + 1)).map Fill.cells := by
    rw [hes3, List.take_left' (by simp), List.map_append, List.map_take]
  have hml : i + ((f.drop (i + 1)).map Fill.cells).length = (f.take i ++ f.drop (i + 1)).length := by simp; omega
  have hml2 : (f.take i ++ f.drop (i + 1)).length = f.length - 1 := by simp; omega
  have hne : ¬ (i : Int) = (i : Int) + 1 := by omega
  refine acall_intro (n := 33) (rvs := [.tmp 6]) Try.func154 rfl rfl rfl (Nat.le_of_ble_eq_true rfl) ?_
  refine awp_seq ?_
  refine awp_region ?_
  refine aqs rfl (q_as (by constructor)) rfl ?_
  refine alist_nil ?_
  show AWP _ _ _ _
  refine awp_seq ?_
  refine awp_region ?_
  refine aqs rfl (q_mv (by constructor)) rfl ?_
  refine aqs rfl (q_mv (by constructor)) rfl ?_
  refine aqs rfl (q_mv (by constructor)) rfl ?_
  refine aqs rfl (q_mv (by constructor)) rfl ?_
  first | refine aqs rfl (q_len Try.underlying112 .ro) rfl ?_ | refine aqs rfl (q_lenO Try.underlying112 rfl (by repeat (first | exact .here | assumption | (apply HAt.left; assumption) | apply HAt.there | apply HAt.right)) (by first | omega | (simp; done) | (simp; omega) | fail) (by first | exact Nat.sub_zero _ | rfl)) rfl ?_ | refine aqs rfl (q_len Try.underlying112 .nil) rfl ?_ | refine aqs rfl (q_len Try.underlying112 .cro) rfl ?_
  first | refine aqs rfl (q_slX (l := i) (h := i + 1) (m := f.length) Try.underlying112 sz115 rfl rfl rfl rfl (by omega) (by omega) (by omega)) rfl ?_ | refine aqs rfl (q_slC Try.underlying112 sz115 (.inl rfl) (by first | (refine ⟨_, _, rfl, ?_⟩; with_reducible rfl) | (refine ⟨_, _, rfl, ?_⟩; simp; done) | fail) (by first | (refine ⟨_, _, rfl, ?_⟩; with_reducible rfl) | (refine ⟨_, _, rfl, ?_⟩; simp; done) | fail) (by first | rfl | assumption | (simp [*]; done) | fail)) rfl ?_
  refine alist_nil ?_
  show AWP _ _ _ _
  refine awp_seq ?_
  refine awp_seq ?_
  refine awp_region ?_
  refine aqs rfl (q_mv (by constructor)) rfl ?_
  refine aqs rfl (q_mv (by constructor)) rfl ?_
  refine aqs rfl (q_eql rfl rfl) rfl ?_
  refine alist_nil ?_
  show AWP _ _ _ _
  refine awp_cond rfl (fun hc0 => ?_) (fun hc0 => ?_)
  ·exact absurd (by simpa using hc0) hne
  ·skip
   refine awp_skip ?_
   show AWP _ _ _ _
   refine awp_seq ?_
   refine awp_region ?_
   refine aqs rfl (q_mv (by constructor)) rfl ?_
   first | refine aqs rfl (q_len Try.underlying112 .ro) rfl ?_ | refine aqs rfl (q_lenO Try.underlying112 rfl (by repeat (first | exact .here | assumption | (apply HAt.left; assumption) | apply HAt.there | apply HAt.right)) (by first | omega | (simp; done) | (simp; omega) | fail) (by first | exact Nat.sub_zero _ | rfl)) rfl ?_ | refine aqs rfl (q_len Try.underlying112 .nil) rfl ?_ | refine aqs rfl (q_len Try.underlying112 .cro) rfl ?_
   refine aqs rfl (q_as (by constructor)) rfl ?_
   refine alist_nil ?_
   show AWP _ _ _ _
   refine awp_seq ?_
   refine awp_draw 7 [(0, false), (1, false), (2, false), (3, false), (4, false), (5, true), (6, true)] [] ([_]) mixed (by kernel_rfl) (.refl _) ?_
   refine glq rfl (.inl ⟨rfl, q_mv (by constructor)⟩) rfl ?_
   refine glq rfl (.inl ⟨rfl, q_mv (by constructor)⟩) rfl ?_
   first | refine glq rfl (.inl ⟨rfl, q_sl0 Try.underlying112 sz115 rfl rfl (by omega)⟩) rfl ?_ | refine glq rfl (.inl ⟨rfl, q_slR Try.underlying112 sz115 (.inl rfl) rfl (by first | (refine ⟨_, _, rfl, ?_⟩; with_reducible rfl) | exact bnd_int rfl (by omega)) (by first | omega | (simp; done) | (simp; omega) | fail) (by first | omega | (simp; done) | (simp; omega) | fail) (by first | rfl | assumption | (simp [*]; done) | fail)⟩) rfl ?_ | refine glq rfl (.inl ⟨rfl, q_slO Try.underlying112 sz115 rfl (by repeat (first | exact .here | assumption | (apply HAt.left; assumption) | apply HAt.there | apply HAt.right)) rfl (by first | (refine ⟨_, _, rfl, ?_⟩; with_reducible rfl) | exact bnd_int rfl (by omega)) (by first | omega | (simp; done) | (simp; omega) | fail) (by first | omega | (simp; done) | (simp; omega) | fail) (by first | exact Nat.zero_add _ | rfl) (by first | exact Nat.zero_add _ | rfl)⟩) rfl ?_
   refine glq rfl (.inl ⟨rfl, q_mv (by constructor)⟩) rfl ?_
   refine glq rfl (.inl ⟨rfl, q_mv (by constructor)⟩) rfl ?_
   (refine gla rfl rfl (EOp.frame (castQ (r2 := .sl u (i + 1) f.length) (q_slO Try.underlying112 sz115 rfl (by repeat (first | exact .here | assumption | (apply HAt.left; assumption) | apply HAt.there | apply HAt.right)) (exI i) rfl (by omega) (by omega) rfl rfl) (by rw [AV.sl.injEq]; exact ⟨rfl, by omega, by omega⟩))) rfl ?_; rintro _ _ ⟨rfl, rfl⟩)
   first | (refine gla rfl rfl (EOp.frame (e_apI (m := (f.take i ++ f.drop (i + 1)).length) (es2 := (f.drop (i + 1)).map Fill.cells) (es3 := es3) Try.underlying112 sz115 by115 zr115 rfl (by repeat (first | exact .here | assumption | (apply HAt.left; assumption) | apply HAt.there | apply HAt.right)) (by rw [hdl, hfl]; omega) (SV.slN (by repeat (first | exact .here | assumption | (apply HAt.left; assumption) | apply HAt.there | apply HAt.right)) (by rw [hfl]; omega) hsrc) hl2 ho2 (by decide) (by decide) rfl hml hes3.symm (fun v => (by repeat (first | exact .here | apply HSet.there))))) rfl ?_; rintro _ _ ⟨v, rfl, rfl⟩) | (refine gla rfl rfl (EOp.frame (e_apO Try.underlying112 sz115 by115 zr115 rfl (by repeat (first | exact .here | assumption | (apply HAt.left; assumption) | apply HAt.there | apply HAt.right)) (by first | omega | (simp; done) | (simp; omega) | fail) (by first | exact .ro | exact .cro | exact .nil | exact SV.slA (by repeat (first | exact .here | assumption | (apply HAt.left; assumption) | apply HAt.there | apply HAt.right)) (by first | rfl | (simp; done) | (simp; omega) | (simp [*]; done) | fail)) (by first | assumption | (intro c hc; simp at hc; subst hc; rfl) | (simp; done) | fail) (by first | assumption | (intro c hc; simp at hc; subst hc; rfl) | (simp; done) | fail) (by first | assumption | (intro c hc; simp at hc; subst hc; rfl) | (simp; done) | fail) (by first | omega | decide | (simp; omega) | fail) (by decide) (by decide) rfl (by first | rfl | (simp; done) | (simp; omega) | fail) (by first | rfl | (simp; done) | fail) (fun v => (by repeat (first | exact .here | apply HSet.there))))) rfl ?_; rintro _ _ ⟨u26, rfl, rfl⟩) | (refine gla rfl rfl (EOp.frame (e_apN Try.underlying112 sz115 by115 zr115 rfl (by first | exact .ro | exact .cro | exact .nil | exact SV.slA (by repeat (first | exact .here | assumption | (apply HAt.left; assumption) | apply HAt.there | apply HAt.right)) (by first | rfl | (simp; done) | (simp; omega) | (simp [*]; done) | fail)) (by first | assumption | (intro c hc; simp at hc; subst hc; rfl) | (simp; done) | fail) (by first | assumption | (intro c hc; simp at hc; subst hc; rfl) | (simp; done) | fail) (by first | omega | decide | (simp; omega) | fail) (by decide) (by decide) rfl rfl)) rfl ?_; rintro _ _ ⟨u26, rfl, rfl⟩)
   refine gldA ?_
   refine aqs rfl (q_as (by constructor)) rfl ?_
   refine alist_nil ?_
   show AWP _ _ _ _
   refine awp_seq ?_
   refine awp_region ?_
   refine aqs rfl (q_mv (by constructor)) rfl ?_
   refine aqs rfl (q_mv (by constructor)) rfl ?_
   first | refine aqs rfl (q_len Try.underlying112 .ro) rfl ?_ | refine aqs rfl (q_lenO Try.underlying112 rfl (by repeat (first | exact .here | assumption | (apply HAt.left; assumption) | apply HAt.there | apply HAt.right)) (by first | omega | (simp; done) | (simp; omega) | fail) (by first | exact Nat.sub_zero _ | rfl)) rfl ?_ | refine aqs rfl (q_len Try.underlying112 .nil) rfl ?_ | refine aqs rfl (q_len Try.underlying112 .cro) rfl ?_
   refine aqs rfl (q_mv (by constructor)) rfl ?_
   first | refine aqs rfl (q_slB (l := (f.take i ++ f.drop (i + 1)).length) (h := f.length) Try.underlying112 sz115 rfl (by repeat (first | exact .here | assumption | (apply HAt.left; assumption) | apply HAt.there | apply HAt.right)) rfl rfl (by omega) (by omega) (Nat.zero_add _) (Nat.zero_add _)) rfl ?_ | refine aqs rfl (q_slR Try.underlying112 sz115 (.inl rfl) (by first | (refine ⟨_, _, rfl, ?_⟩; with_reducible rfl) | exact bnd_int rfl (by omega)) (by first | (refine ⟨_, _, rfl, ?_⟩; with_reducible rfl) | exact bnd_int rfl (by omega)) (by first | omega | (simp; done) | (simp; omega) | fail) (by first | omega | (simp; done) | (simp; omega) | fail) (by first | rfl | assumption | (simp [*]; done) | fail)) rfl ?_ | refine aqs rfl (q_slO Try.underlying112 sz115 rfl (by repeat (first | exact .here | assumption | (apply HAt.left; assumption) | apply HAt.there | apply HAt.right)) (by first | (refine ⟨_, _, rfl, ?_⟩; with_reducible rfl) | exact bnd_int rfl (by omega)) (by first | (refine ⟨_, _, rfl, ?_⟩; with_reducible rfl) | exact bnd_int rfl (by omega)) (by first | omega | (simp; done) | (simp; omega) | fail) (by first | omega | (simp; done) | (simp; omega) | fail) (by first | exact Nat.zero_add _ | rfl) (by first | exact Nat.zero_add _ | rfl)) rfl ?_
   (refine aen rfl (e_clr rfl Try.underlying112 sz115 zr115 rfl (by rfl) rfl (by repeat (first | exact .here | assumption | (apply HAt.left; assumption) | apply HAt.there | apply HAt.right)) (by omega) htk (by repeat (first | exact .here | apply HSet.there))) ?_; rintro _ _ ⟨rfl, rfl⟩)
   refine alist_nil ?_
   show AWP _ _ _ _
   refine awp_seq ?_
   refine awp_region ?_
   refine aqs rfl (q_mv (by constructor)) rfl ?_
   refine aqs rfl (q_as (by constructor)) rfl ?_
   refine alist_nil ?_
   show AWP _ _ _ _
   refine awp_ret ?_
   repeat first | with_reducible refine then_ret ?_ | with_reducible refine blk_ret ?_
   apply retq (.inr rfl) (.cons (rok_t rfl) .nil)
   rotate_left
   ·exact ⟨v, rfl, rfl⟩
   repeat (first | exact List.Sublist.refl _ | exact List.nil_sublist _ | exact List.sublist_append_left _ _ | apply List.Sublist.cons)
theorem any_all (f : List Fill) (who : Int) : f.any (fun x => decide (x.by_ = who) || decide (who ∈ x.waiting)) = decide (who ∈ allOf f) := by
  rw [Bool.eq_iff_iff]
  simp only [List.any_eq_true, Bool.or_eq_true, decide_eq_true_eq, mem_all]
  constructor
  · rintro ⟨x, hx, h | h⟩
    · exact ⟨x, hx, .inl h.symm⟩
    · exact ⟨x, hx, .inr h⟩
  · rintro ⟨x, hx, h | h⟩
    · exact ⟨x, hx, .inl h.symm⟩
    · exact ⟨x, hx, .inr h⟩
theorem keep_none {α : Type} {p : α → Bool} {f : List α} (h : keep p f = f) : ∀ (j : Nat) (y : α), f[j]? = some y → p y = false := by
  intro j y hy
  have hm : y ∈ keep p f := by rw [h]; exact List.mem_of_getElem? hy
  simpa [keep] using (List.mem_filter.1 hm).2
theorem keep_before {α : Type} {p : α → Bool} {f : List α} {i : Nat} (h : keep p (f.take i) = f.take i) : ∀ (j : Nat) (y : α), j < i → f[j]? = some y → p y = false := by
  intro j y hj hy
  exact keep_none h j y (by rw [List.getElem?_take_of_lt hj]; exact hy)
/-- A row that is one's own is one's own no more. -/
theorem pub_row {P : Program} {c : Code} {Q : Exit → St → Prop} {n k m v u i : Nat} {f : List Fill} {x : Fill} (hi : i < f.length) (hl : (fth f i).left = x.left) (hr : (fth f i).right = x.right) (hb : (fth f i).by_ = x.by_) {m2 : Nat} (hm : m2 = x.waiting.length)
    (h : AWP P c Q ⟨[(k, .sl u 0 m)], n, [(u, .arr 115 4 ((f.set i x).map Fill.cells))]⟩) :
    AWP P c Q ⟨[(k, .sl u 0 m)], n, [(v, .arr 3 1 (x.waiting.map cI)), (u, .arr 115 4 ((f.map Fill.cells).set i [.lit (.string x.left), .lit (.string x.right), .lit (.int .i64 x.by_), .sl v 0 m2]))]⟩ := by
  subst hm
  refine awp_pub (u := v) (H2 := [(u, .arr 115 4 ((f.set i x).map Fill.cells))]) .here PubT.same (.drop (.cons (.arr ?_) .same)) h
  rw [List.map_set]
  exact pubE_set (.cons .same (.cons .same (.cons .same (.cons (pub_all (by simp)) .nil)))) _ _
end Go.Proofs.YtdlinfekifnmkaaAm
