/- Calls of closures, cleared slices, calls' objects in another order. Conditions: none. -/
import Derived.Test.YtdlinfekifnmkaaAmMapOps
set_option linter.unusedVariables false
set_option linter.unusedSimpArgs false
namespace Go.Proofs.YtdlinfekifnmkaaAm
open Go.Proofs
section
variable {P : Program} {d : Option Tmp} {ty : TypeId} {pos : String} {af : Array Edge} {g : Option (Nat × Bool)} {ev : Operand → AV} {H : Heap}

theorem ACall.out {f : FuncId} {args : List AV} {R R' : AV → Heap → Prop} (h : ACall P f args H R) (hR : ∀ r H1, R r H1 → ∃ H2, H1.Perm H2 ∧ R' r H2) : ACall P f args H R' :=
  fun C vals ok hh hs hv => (h C vals ok hh hs hv).mono fun e w' ⟨C', v, r, H1, h1, h2, h3, h4, h5, h6, h7, h8⟩ => by
    obtain ⟨H2, hp, hr⟩ := hR r H1 h8
    exact ⟨C', v, r, H2, h1, h2, h3, h4.perm hp, h5, fun u hu => h6 u ((Heap.M_perm hp).2 hu), h7, hr⟩
/-- What needs some objects, beside others. -/
theorem QCall.front {f : FuncId} {args : List AV} {r : AV} (Hc : Heap) (h : QCall P f args H r) : QCall P f args (Hc ++ H) r :=
  (ACall.frame Hc h).mono (by rintro r' H' ⟨Hv', rfl, rfl, rfl⟩; exact ⟨rfl, rfl⟩)
theorem QCall.perm {f : FuncId} {args : List AV} {r : AV} {H2 : Heap} (hp : H.Perm H2) (h : QCall P f args H2 r) : QCall P f args H r :=
  (ACall.perm hp h).out (by rintro r' H' ⟨rfl, rfl⟩; exact ⟨H, hp.symm, rfl, rfl⟩)
theorem SV.slN {u l h size : Nat} {e : TypeId} {es r : List (List AV)} (hq : HAt H u (.arr e size es)) (hh : h ≤ es.length) (hr : (es.drop l).take (h - l) = r) : SV H (.sl u l h) r := by
  obtain ⟨q, hq⟩ := hq.at
  rw [← hr]
  exact .sl hq hh

theorem obrel_take {C : Cx} {u size : Nat} {e : TypeId} {es : List (List AV)} (k : Nat) (h : ObRel C u (.arr e size es)) : ObRel C u (.arr e size (es.take k)) := by
  obtain ⟨h1, h2, h3, h4, h5, h6⟩ := h
  refine ⟨h1, h2, by rw [List.length_take]; omega, h4, fun x hx => h5 x (List.mem_of_mem_take hx), ?_⟩
  rcases h6 with h6 | ⟨gb, off, arr, ha, hg, ho, hs, hb⟩
  · exact .inl h6
  · refine .inr ⟨gb, off, arr, ha, hg, ho, hs, fun i c hi => hb i c ?_⟩
    rw [List.getElem?_take] at hi
    split at hi
    · exact hi
    · cases hi

/-- 'clear(s)': what was cleared is forgotten. -/
theorem e_clr {tt e : TypeId} {x : Operand} {u l h sz : Nat} {es es2 : List (List AV)} {zs : List Value} {H2 : Heap} {ts : Array TypeId} (hts : ts[0]? = some tt) (ht : P.underlying tt = some (.slice e)) (hsz : szOf P e = some sz) (hz : zeroOf P e = some zs) (hzl : zs.length = sz)
    (hz1 : zs.all (fun v => v.oneCell') = true) (hx : ev x = .sl u l h) (hq : HAt H u (.arr e sz es)) (hh0 : h ≤ es.length) (he2 : es.take l = es2) (hH : HSet H u (u, .arr e sz es2) H2) :
    EOp P ⟨d, .call { callee := .builtin .clear, args := #[x], argTypes := ts }, ty, pos, af, g⟩ ev H (fun r H' => r = .tup [] ∧ H' = H2) :=
  eop_of fun C a ok hh he => by
    have h1 := he x (by simp [Op.operands, Call.operands])
    rw [hx] at h1
    obtain ⟨q, o0, hq0, rfl⟩ := HSet.at hH
    obtain ⟨q', hq'⟩ := hq.at
    have hqq : q = q' := by
      have a1 : (H.map (·.1))[q]? = some u := by simp [hq0]
      have a2 : (H.map (·.1))[q']? = some u := by simp [hq']
      have l1 := (List.getElem?_eq_some_iff.1 a1).1
      have l2 := (List.getElem?_eq_some_iff.1 a2).1
      have e1 := (List.getElem?_eq_some_iff.1 a1).2
      have e2 := (List.getElem?_eq_some_iff.1 a2).2
      exact (List.getElem_inj hh.nodup).1 (e1.trans e2.symm)
    subst hqq
    have hob := hh.at hq'
    subst he2
    obtain ⟨z, hz2, hz3⟩ := run_zeroOf hz C.w
    generalize hv : a.eval x = v at h1
    cases h1 with
    | @sl _ _ _ A n c hu hlh hhc hA hn hc =>
    have same : (Builtin.clear_ ts ty #[.slice A n c]).run P C.w = .ok (.tuple #[]) C.w → ∃ (C' : Cx) (v : Value) (r : AV) (H' : Heap), (execOp a.eval ⟨d, .call { callee := .builtin .clear, args := #[x], argTypes := ts }, ty, pos, af, g⟩).run P C.w = .ok (.value v) C'.w ∧
        (r = .tup [] ∧ H' = H.set q (u, .arr e sz (es.take l))) ∧ C'.Ok ∧ Le H.M C C' ∧ New C H H' ∧ HRel C' H' ∧ RV C' r v := fun hr => by
      refine ⟨C, .tuple #[], .tup [], _, ?_, ⟨rfl, rfl⟩, ok, Le.refl _ _, set_new q u _ _ hq', HRel.set ok hh hq' (Le.refl _ _) (obrel_take l hob), .tup rfl (by simp)⟩
      simp only [execOp, resolve, Sem.run_bind, Sem.run_pure, Result.andThen_ok, invoke]
      simp [builtin, hv, hr]
    by_cases hn0 : n = 0
    · subst hn0
      refine same ?_
      cases A <;> simp [Builtin.clear_, run_under ht, hts]
    · obtain ⟨g1, g2, g3, g4, g5, g6⟩ := hob
      have hE : ¬ (C.ph u).cap = l := by omega
      have hA' := hA hE
      rcases g6 with h0 | ⟨gb, o, cur, hAA, hg, ho, hs, hb⟩
      · omega
      rw [hAA] at hA'
      simp only [Option.map_some, add_plain, g2] at hA'
      have hcap : h * sz ≤ (C.ph u).cap * sz := Nat.mul_le_mul_right _ hhc
      have hzc : (Builtin.zeroCells z.cells n).toList.length = n * sz := by
        have : z.cells.size = sz := by rw [← hzl, ← hz3]; simp
        simp [Builtin.zeroCells, this]
      have hzs : z.cells.size = sz := by rw [← hzl, ← hz3]; simp
      have hone : ∀ v ∈ (Builtin.zeroCells z.cells n).toList, v.oneCell' = true := fun v hv => by
        simp only [Builtin.zeroCells, Array.toList_map, List.mem_map, Array.toList_range, List.mem_range] at hv
        obtain ⟨i, hi, rfl⟩ := hv
        have hpos : 0 < z.cells.size := by
          rcases Nat.eq_zero_or_pos z.cells.size with h | h
          · rw [h] at hi; omega
          · exact h
        have hlt : i % z.cells.size < z.cells.size := Nat.mod_lt _ hpos
        have hm : z.cells[i % z.cells.size]! ∈ zs := by
          rw [getElem!_pos z.cells (i % z.cells.size) hlt, ← hz3]
          exact Array.getElem_mem_toList _
        exact List.all_eq_true.1 hz1 _ hm
      have e1 : (h - l) * sz = h * sz - l * sz := Nat.sub_mul _ _ _
      have e2 : l * sz ≤ h * sz := Nat.mul_le_mul_right _ hlh
      have hstore := run_storeCells_at P gb (o + l * sz) e (Builtin.zeroCells z.cells n).toList 0 cur C.w hg (by rw [hzc, hn, e1]; omega) hone
      simp only [Nat.add_zero] at hstore
      refine ⟨C.wr gb (cur.toList.take (o + l * sz) ++ (Builtin.zeroCells z.cells n).toList ++ cur.toList.drop (o + l * sz + (Builtin.zeroCells z.cells n).toList.length)).toArray, .tuple #[], .tup [], _, ?_, ⟨rfl, rfl⟩, wr_ok ok _ _,
        (wr_le ho _).mono (fun v hv => by subst hv; exact List.mem_map.2 ⟨_, List.mem_of_getElem? hq', rfl⟩), set_new q u _ _ hq', HRel.set ok hh hq' (wr_le ho _) ?_, .tup rfl (by simp)⟩
      · show _ = Result.ok _ (C.w.setRow gb _)
        simp only [execOp, resolve, Sem.run_bind, Sem.run_pure, Result.andThen_ok, invoke]
        obtain ⟨m, hm⟩ : ∃ m, n = m + 1 := ⟨n - 1, by omega⟩
        rw [hA'] at hv
        rw [hm] at hv hstore ⊢
        simp [builtin, hv, Builtin.clear_, run_under ht, hts, hz2, hstore]
      · refine ⟨g1, g2, by rw [List.length_take]; show min l es.length ≤ (C.ph u).cap; omega, g4, fun x hx => g5 x (List.mem_of_mem_take hx), .inr ⟨gb, o, _, hAA, setRow_heap _ _ _ _ _ _ hg, ho, ?_, fun i c hi j y hy => ?_⟩⟩
        · have hs' : o + (C.ph u).cap * sz ≤ cur.size := hs
          simp only [List.size_toArray, List.length_append, List.length_take, List.length_drop, Array.length_toList]
          show o + (C.ph u).cap * sz ≤ _
          simp only [Array.length_toList] at hzc
          omega
        · rw [List.getElem?_take] at hi
          split at hi
          · rename_i hil
            obtain ⟨v, k1, k2⟩ := hb i c hi j y hy
            have hj : j < sz := by
              have := (List.getElem?_eq_some_iff.1 hy).1
              rw [g5 c (List.mem_of_getElem? hi)] at this
              exact this
            have k3 : (i + 1) * sz ≤ l * sz := Nat.mul_le_mul_right _ hil
            rw [Nat.add_mul] at k3
            have hs' : o + (C.ph u).cap * sz ≤ cur.size := hs
            refine ⟨v, ?_, k2.le (wr_le ho _)⟩
            simp only [List.getElem?_toArray]
            rw [List.append_assoc, List.getElem?_append_left (by simp; omega), List.getElem?_take_of_lt (by omega)]
            simpa using k1
          · cases hi
end
theorem blk_ret {i : Nat} {Q : Exit → St → Prop} {s : St} (h : Q .ret s) : InBlk i Q .ret s := h
theorem SV.slA {H : Heap} {u h size : Nat} {e : TypeId} {es : List (List AV)} (hq : HAt H u (.arr e size es)) (hh : h = es.length) : SV H (.sl u 0 h) es :=
  SV.slN hq (Nat.le_of_eq hh) (by subst hh; simp)
/-- A nil slice is a row of no elements. -/
theorem awp_nilro {P : Program} {c : Code} {Q : Exit → St → Prop} {t : List (Nat × AV)} {n : Nat} {H : Heap} (k : Nat) (hk : look t k = .lit (.slice none 0 0)) (h : AWP P c Q ⟨(k, .ro []) :: t, n, H⟩) : AWP P c Q ⟨t, n, H⟩ := by
  intro C a hr
  refine h C a ⟨hr.ok, hr.h, hr.n, fun i => ?_, hr.d⟩
  rw [look_cons]
  cases hik : k == i with
  | false => exact hr.t i
  | true =>
    have hki : k = i := by simpa using hik
    subst hki
    have := hr.t k
    rw [hk] at this
    rw [rv_lit this]
    exact .ro (es := []) (size := 0) (fun _ _ => undef) rfl (Nat.le_refl _) (Nat.zero_le _) (by simp) (by simp) (by simp)
theorem HAt.right {Hc Hv : Heap} {u : Nat} {o : Ob} (h : HAt Hv u o) : HAt (Hc ++ Hv) u o := by
  induction Hc with
  | nil => exact h
  | cons x Hc ih => exact .there ih
theorem HAt.left {Hc Hv : Heap} {u : Nat} {o : Ob} (h : HAt Hc u o) : HAt (Hc ++ Hv) u o := by
  induction h with
  | here => exact .here
  | there _ ih => exact .there ih
theorem awp_perm {P : Program} {c : Code} {Q : Exit → St → Prop} {t : List (Nat × AV)} {n : Nat} {H H2 : Heap} (hp : H.Perm H2) (h : AWP P c Q ⟨t, n, H2⟩) : AWP P c Q ⟨t, n, H⟩ := by
  intro C a hr
  refine Code.wp_mono ?_ (h C a ⟨hr.ok, hr.h.perm hp, hr.n, hr.t, hr.d⟩)
  intro e a w hq
  exact hq.trans hr.ok ((Le.refl _ _).mono fun _ h => h) (fun u hu => .inl ((Heap.M_perm hp).2 hu))
theorem gld0 {P : Program} {ops : Array Oper} {Q : Exit → St → Prop} {l : List Oper} {t : List (Nat × AV)} {n : Nat} {Hc : Heap} (h : AList P ops Q l ⟨t, n, Hc⟩) : GL P ops n Hc [] t [] (fun t' Hv' => AList P ops Q l ⟨t', n, Hc ++ Hv'⟩) := by
  show AList P ops Q l ⟨t, n, Hc ++ []⟩
  rw [List.append_nil]
  exact h
theorem gldA {P : Program} {ops : Array Oper} {Q : Exit → St → Prop} {l : List Oper} {t : List (Nat × AV)} {n : Nat} {Hc Hv : Heap} (h : AList P ops Q l ⟨t, n, Hc ++ Hv⟩) : GL P ops n Hc [] t Hv (fun t' Hv' => AList P ops Q l ⟨t', n, Hc ++ Hv'⟩) := h
/-- A statement whose ends are alike in what is needed. -/
theorem awp_mid {P : Program} {c y : Code} {Q : Exit → St → Prop} {t : List (Nat × AV)} {n : Nat} {H : Heap} (x : List (Nat × AV)) (h1 : AWP P c (fun e s => e = .normal ∧ Sub s ⟨x, n, H⟩) ⟨t, n, H⟩) (h2 : AWP P y Q ⟨x, n, H⟩) : AWP P (.seq c y) Q ⟨t, n, H⟩ :=
  awp_seq (awp_mono h1 fun e s hq => by
    obtain ⟨rfl, hs⟩ := hq
    exact awp_weak _ hs h2)
/-- Arguments of a wider kind. -/
inductive Arg1 : AV → AV → Prop where
  | same {x : AV} : Arg1 x x
  | cro {es : List (List AV)} : Arg1 (.cro es) (.ro es)
  | nil : Arg1 (.lit (.slice none 0 0)) (.ro [])
inductive ArgL : List AV → List AV → Prop where
  | nil : ArgL [] []
  | cons {x y : AV} {xs ys : List AV} (h : Arg1 x y) (hs : ArgL xs ys) : ArgL (x :: xs) (y :: ys)
theorem Arg1.rv {C : Cx} {x y : AV} {v : Value} (h : Arg1 x y) (hr : RV C x v) : RV C y v := by
  cases h with
  | same => exact hr
  | cro => cases hr with | cro A hv h => exact h
  | nil => rw [rv_lit hr]; exact .ro (es := []) (size := 0) (fun _ _ => undef) rfl (Nat.le_refl _) (Nat.zero_le _) (by simp) (by simp) (by simp)
theorem ArgL.len {xs ys : List AV} (h : ArgL xs ys) : xs.length = ys.length := by
  induction h with
  | nil => rfl
  | cons _ _ ih => simp [ih]
theorem ArgL.at {xs ys : List AV} (h : ArgL xs ys) : ∀ (j : Nat) (y : AV), ys[j]? = some y → ∃ x, xs[j]? = some x ∧ Arg1 x y := by
  induction h with
  | nil => intro j y hy; simp at hy
  | cons h hs ih =>
    intro j y hy
    cases j with
    | zero => simp at hy; subst hy; exact ⟨_, rfl, h⟩
    | succ j => exact ih j y (by simpa using hy)
theorem ACall.arg {P : Program} {f : FuncId} {args args' : List AV} {H : Heap} {R : AV → Heap → Prop} (h : ACall P f args H R) (hl : ArgL args' args) : ACall P f args' H R :=
  fun C vals ok hh hs hv => h C vals ok hh (by rw [hs, hl.len]) fun j x hx => by
    obtain ⟨y, hy, h1⟩ := hl.at j x hx
    exact h1.rv (hv j y hy)
theorem gcase {P : Program} {ops : Array Oper} {n : Nat} {Hc Hv : Heap} {cl : List (Nat × Bool)} {K : List (Nat × AV) → Heap → Prop} {i : Nat} {b : Bool} {t : List (Nat × AV)} (h1 : b = true → GL P ops n Hc cl ((i, .lit (.bool true)) :: t) Hv K) (h2 : b = false → GL P ops n Hc cl ((i, .lit (.bool false)) :: t) Hv K) : GL P ops n Hc cl ((i, .lit (.bool b)) :: t) Hv K := by
  cases b with
  | true => exact h1 rfl
  | false => exact h2 rfl
end Go.Proofs.YtdlinfekifnmkaaAm
