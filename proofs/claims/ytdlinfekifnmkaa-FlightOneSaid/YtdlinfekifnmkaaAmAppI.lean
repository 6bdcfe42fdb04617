/- append within what is known of a slice: what stands behind stays. Conditions: none. -/
import Derived.Test.YtdlinfekifnmkaaAmApp
set_option linter.unusedVariables false
set_option linter.unusedSimpArgs false
namespace Go.Proofs.YtdlinfekifnmkaaAm
open Go.Proofs
section
variable {P : Program} {C : Cx} {H : Heap}
variable {d : Option Tmp} {ty : TypeId} {pos : String} {af : Array Edge} {g : Option (Nat × Bool)} {ev : Operand → AV}
theorem e_apI {tt e : TypeId} {s x : Operand} {u h sz by_ m : Nat} {zs : List Value} {es es2 es3 : List (List AV)} {H2 : Nat → Heap} (ht : P.underlying tt = some (.slice e)) (hsz : szOf P e = some sz) (hby : byOf P e = some by_) (hz : zeroOf P e = some zs)
    (hs : ev s = .sl u 0 h) (hq : HAt H u (.arr e sz es)) (hle : h + es2.length ≤ es.length) (hx : SV H (ev x) es2) (hes2 : ∀ c ∈ es2, c.length = sz) (hok : ∀ c ∈ es2, c.all cell1 = true)
    (hz0 : 0 < sz) (hby0 : 0 < by_) (hzl : zs.length = sz) (hm : h + es2.length = m) (hes3 : es.take h ++ es2 ++ es.drop (h + es2.length) = es3) (hH : ∀ v, HSet H u (v, .arr e sz es3) (H2 v)) :
    EOp P ⟨d, .call { callee := .builtin .append, args := #[s, x], argTypes := #[tt, tt] }, ty, pos, af, g⟩ ev H (fun r H' => ∃ v, r = .sl v 0 m ∧ H' = H2 v) := by
  refine eop_of fun C a ok hh he => ?_
  subst hm
  subst hes3
  have h1 := he s (by simp [Op.operands, Call.operands])
  have h2 := he x (by simp [Op.operands, Call.operands])
  rw [hs] at h1
  obtain ⟨⟨i, z, hi, hiz, his, hib, hzs⟩⟩ := einfo (P := P) hsz hz hzl hby
  obtain ⟨B, c2, news, hvx, hnl, hnews, hnrv⟩ := src_cells (sz := sz) hh hx h2 hes2 hz0
  obtain ⟨q, hqq, hH2⟩ := (hH C.gen).ob hh hq
  have hone : ∀ y ∈ news, y.oneCell' = true := fun y hy => by
    obtain ⟨k, hk⟩ := List.mem_iff_getElem?.1 hy
    have hkl : k < es2.length * sz := by rw [← hnl]; exact (List.getElem?_eq_some_iff.1 hk).1
    have hi2 : k / sz < es2.length := Nat.div_lt_of_lt_mul (by rw [Nat.mul_comm]; exact hkl)
    have hj2 : k % sz < sz := Nat.mod_lt _ hz0
    have hk2 : k / sz * sz + k % sz = k := by rw [Nat.mul_comm]; exact Nat.div_add_mod k sz
    have hcl := hes2 _ (List.getElem_mem hi2)
    obtain ⟨u', k1, k2⟩ := hnrv (k / sz) _ (List.getElem?_eq_getElem hi2) (k % sz) _ (List.getElem?_eq_getElem (show k % sz < (es2[k / sz]).length by rw [hcl]; exact hj2))
    rw [hk2, hk] at k1
    injection k1 with k1
    subst k1
    exact rv_cell1 k2 (List.all_eq_true.1 (hok _ (List.getElem_mem hi2)) _ (List.getElem_mem _))
  obtain ⟨g1, g2, g3, g4, g5, g6⟩ := hh.at hqq
  generalize hvs : a.eval s = vs at h1
  cases h1 with
  | sl hu hlh hhc hA hn hc =>
    rename_i A n c
    have hnn : n ≤ c := by omega
    have hexec : ∀ (v' : Value) (w' : World), (Builtin.append_ #[tt, tt] ty #[.slice A n c, .slice B es2.length c2]).run P C.w = .ok v' w' →
        (execOp a.eval ⟨d, .call { callee := .builtin .append, args := #[s, x], argTypes := #[tt, tt] }, ty, pos, af, g⟩).run P C.w = .ok (.value v') w' := fun v' w' hr => by
      have e1 : #[s, x].map a.eval = #[.slice A n c, .slice B es2.length c2] := by simp [hvs, hvx]
      simp only [execOp, resolve, Sem.run_bind, Sem.run_pure, Result.andThen_ok, invoke, e1, builtin, hr]
    have hlen3 : (es.take h ++ es2 ++ es.drop (h + es2.length)).length = es.length := by simp; omega
    have hres3 : ∀ y ∈ es.take h ++ es2 ++ es.drop (h + es2.length), y.length = sz := fun y hy => by
      rcases List.mem_append.1 hy with h | h
      · rcases List.mem_append.1 h with h | h
        · exact g5 y (List.mem_of_mem_take h)
        · exact hes2 y h
      · exact g5 y (List.mem_of_mem_drop h)
    by_cases hm0 : es2.length = 0
    · have hes0 : es2 = [] := List.eq_nil_of_length_eq_zero hm0
      have hr := run_append_zero (P := P) (ty := ty) ht hi A B n c c2 hnn C.w
      rw [← hm0] at hr
      have hle2 := pass_le (C := C) (w := C.w) u ⟨A, c, sz⟩ rfl rfl rfl (Nat.le_refl _) (fun _ _ _ => rfl)
      refine ⟨C.pass u ⟨A, c, sz⟩ C.w, _, .sl C.gen 0 (h + es2.length), _, hexec _ _ hr, ⟨C.gen, rfl, hH2.symm⟩, pass_ok ok _ _ (Nat.le_refl _), hle2.mono (fun v hv => by subst hv; exact List.mem_map.2 ⟨_, List.mem_of_getElem? hqq, rfl⟩),
        repl_new (Nat.le_refl _), HRel.repl ok hh hqq hle2 (Nat.le_refl _) ?_, ?_⟩
      · refine ⟨by simp [Cx.pass], by simp [Cx.pass], by rw [hlen3]; simp [Cx.pass]; omega, by simp [Cx.pass]; omega, hres3, ?_⟩
        by_cases hc0 : c = 0
        · exact .inl (by simp [Cx.pass, hc0])
        · rcases g6 with g6 | ⟨gb, off, arr, hA0, hg, ho, hsz2, hb⟩
          · omega
          have hA' := hA (by omega)
          rw [hA0, g2] at hA'
          simp only [Option.map_some, add_plain] at hA'
          refine .inr ⟨gb, off, arr, by simp [Cx.pass, hA'], hg, by simp [Cx.pass, ho], ?_, ?_⟩
          · simp only [Cx.pass, if_true]
            have : c * sz ≤ (C.ph u).cap * sz := Nat.mul_le_mul_right _ (by omega)
            omega
          · intro k y hk j x' hj
            rw [hes0, List.append_nil, List.length_nil, Nat.add_zero, List.take_append_drop] at hk
            obtain ⟨v, k1, k2⟩ := hb k y hk j x' hj
            exact ⟨v, k1, k2.le hle2⟩
      · refine .sl (by simp [Cx.pass]) (Nat.zero_le _) (by simp [Cx.pass, hm0]; omega) (fun _ => ?_) (by omega) (by simp [Cx.pass])
        simp only [Cx.pass, if_true, Nat.zero_mul]
        cases A <;> simp [add_zero]
    · have hmpos : 0 < es2.length := by omega
      have hne2 : ¬ es2 = [] := fun h => hm0 (by rw [h]; rfl)
      obtain ⟨aB, rfl, hnc⟩ := hnews.resolve_left hne2
      have hroom : n + es2.length ≤ c := by omega
      rcases g6 with g6 | ⟨gb, off, arr, hA0, hg, ho, hsz2, hb⟩
      · omega
      have hA' := hA (by omega)
      rw [hA0, g2] at hA'
      simp only [Option.map_some, add_plain, Nat.zero_mul, Nat.add_zero] at hA'
      subst hA'
      have hcapl : c * sz ≤ (C.ph u).cap * sz := Nat.mul_le_mul_right _ (by omega)
      have hfit : (n + es2.length) * sz ≤ c * sz := Nat.mul_le_mul_right _ (by omega)
      have hfit2 : es.length * sz ≤ c * sz := Nat.mul_le_mul_right _ (by omega)
      rw [Nat.add_mul] at hfit
      have hf := run_firstCells_some (P := P) C.w i.size es2.length aB es2.length c2 news (by rw [his]; exact hnl) (fun j v hv => hnc j v hv)
      have hst := run_storeCells_at P gb (off + n * sz) e news 0 arr C.w hg (by rw [hnl]; omega) hone
      simp only [Nat.add_zero] at hst
      have hr : (Builtin.append_ #[tt, tt] ty #[.slice (some ⟨gb, off, none⟩) n c, .slice (some aB) es2.length c2]).run P C.w =
          .ok (.slice (some ⟨gb, off, none⟩) (n + es2.length) c) (C.w.setRow gb (arr.toList.take (off + n * sz) ++ news ++ arr.toList.drop (off + n * sz + news.length)).toArray) := by
        have hadd : (⟨gb, off, none⟩ : Addr).add (n * i.size) = ⟨gb, off + n * sz, none⟩ := by rw [add_plain, his]
        simp [Builtin.append_, run_underlying ht, sizeOf, typeInfo, hi, Builtin.lenOf, hroom, hf, hadd, hst]
      have hle2 := pass_le (C := C) (w := C.w.setRow gb (arr.toList.take (off + n * sz) ++ news ++ arr.toList.drop (off + n * sz + news.length)).toArray) u ⟨some ⟨gb, off, none⟩, c, sz⟩ rfl rfl rfl (by simp)
        (fun k _ hk => setRow_other _ _ _ _ (fun e => hk (by rw [e]; exact ho)))
      refine ⟨C.pass u ⟨some ⟨gb, off, none⟩, c, sz⟩ (C.w.setRow gb _), _, .sl C.gen 0 (h + es2.length), _, hexec _ _ hr, ⟨C.gen, rfl, hH2.symm⟩, pass_ok ok _ _ (by simp), hle2.mono (fun v hv => by subst hv; exact List.mem_map.2 ⟨_, List.mem_of_getElem? hqq, rfl⟩),
        repl_new (Nat.le_refl _), HRel.repl ok hh hqq hle2 (Nat.le_refl _) ?_, ?_⟩
      · refine ⟨by simp [Cx.pass], by simp [Cx.pass], by rw [hlen3]; simp [Cx.pass]; omega, by simp [Cx.pass]; omega, hres3, .inr ⟨gb, off, _, by simp [Cx.pass], setRow_heap _ _ _ _ _ _ hg, by simp [Cx.pass, ho], ?_, ?_⟩⟩
        · simp only [Cx.pass, if_true, List.size_toArray, List.length_append, List.length_take, List.length_drop, Array.length_toList]
          omega
        · intro k y hk j x' hj
          have hjl : j < sz := by
            have := (List.getElem?_eq_some_iff.1 hj).1
            rwa [hres3 y (List.mem_of_getElem? hk)] at this
          have hkl3 : k < es.length := by rw [← hlen3]; exact (List.getElem?_eq_some_iff.1 hk).1
          have hl1 : (arr.toList.take (off + n * sz)).length = off + n * sz := by simp; omega
          have hlt : (es.take h).length = n := by rw [List.length_take]; omega
          simp only [List.getElem?_toArray]
          rw [List.append_assoc] at hk
          rcases Nat.lt_or_ge k n with hkn | hkn
          · rw [List.getElem?_append_left (by omega), List.getElem?_take_of_lt (by omega)] at hk
            obtain ⟨v, k1, k2⟩ := hb k y hk j x' hj
            refine ⟨v, ?_, k2.le hle2⟩
            have hkk : (k + 1) * sz ≤ n * sz := Nat.mul_le_mul_right _ hkn
            rw [Nat.add_mul] at hkk
            rw [List.append_assoc, List.getElem?_append_left (by omega), List.getElem?_take_of_lt (by omega), ← k1]
            simp only [Array.getElem?_toList]
          · rw [List.getElem?_append_right (by omega), hlt] at hk
            rcases Nat.lt_or_ge (k - n) es2.length with hkm | hkm
            · rw [List.getElem?_append_left hkm] at hk
              obtain ⟨v, k1, k2⟩ := hnrv (k - n) y hk j x' hj
              refine ⟨v, ?_, k2.le hle2⟩
              have hmul : k * sz = n * sz + (k - n) * sz := by rw [← Nat.add_mul]; congr 1; omega
              have hkk : (k - n + 1) * sz ≤ es2.length * sz := Nat.mul_le_mul_right _ hkm
              rw [Nat.add_mul] at hkk
              rw [List.append_assoc, List.getElem?_append_right (by omega), hl1, List.getElem?_append_left (by omega), ← k1]
              congr 1
              omega
            · rw [List.getElem?_append_right hkm, List.getElem?_drop, show h + es2.length + (k - n - es2.length) = k by omega] at hk
              obtain ⟨v, k1, k2⟩ := hb k y hk j x' hj
              refine ⟨v, ?_, k2.le hle2⟩
              have hmul : k * sz = n * sz + (es2.length * sz + (k - n - es2.length) * sz) := by rw [← Nat.add_mul, ← Nat.add_mul]; congr 1; omega
              rw [List.append_assoc, List.getElem?_append_right (by omega), hl1, List.getElem?_append_right (by omega), List.getElem?_drop, ← k1]
              simp only [Array.getElem?_toList]
              congr 1
              omega
      · refine .sl (by simp [Cx.pass]) (Nat.zero_le _) (by simp [Cx.pass]; omega) (fun _ => ?_) (by omega) (by simp [Cx.pass])
        simp [Cx.pass, add_zero]
end
end Go.Proofs.YtdlinfekifnmkaaAm
