/- The contract of Play, third part: the walk. Conditions: none. -/
import Derived.Test.YtdlinfekifnmkaaAmHistPlayInv
set_option linter.unusedVariables false
set_option linter.unusedSimpArgs false
set_option maxRecDepth 20000
namespace Go.Proofs.YtdlinfekifnmkaaAm
open Go.Proofs
theorem ev_app (l : List Event) (e : Event) : (l.map Event.cells).take l.length ++ [e.cells] = (l ++ [e]).map Event.cells := by
  rw [List.take_of_length_le (by simp)]; simp
theorem ev_len (l : List Event) (e : Event) : l.length - 0 + 1 = (l ++ [e]).length := by simp
theorem strVal_byte (s : ByteArray) : strVal s = byteAt s 0 := by simp [strVal, byteAt, Array.getD_eq_getD_getElem?, List.getD_eq_getElem?_getD]
abbrev evC (k w v : Int) (b : Bool) : List AV := [.lit (.int .i64 k), .lit (.int .i64 w), .lit (.int .i64 0), .lit (.int .i64 v), .lit (.bool b)]
theorem told_putC {l : List Event} (h : l.length = 4) {w : Nat} (hw : w < 4) (k v : Int) (b : Bool) : (toldCells l).take (5 * w) ++ [AV.lit (.int .i64 k), .lit (.int .i64 w), .lit (.int .i64 0), .lit (.int .i64 v), .lit (.bool b)] ++ (toldCells l).drop (5 * w + [AV.lit (.int .i64 k), .lit (.int .i64 w), .lit (.int .i64 0), .lit (.int .i64 v), .lit (.bool b)].length) = toldCells (l.set w ⟨k, w, 0, v, b⟩) :=
  told_put h hw ⟨k, w, 0, v, b⟩
theorem at_put1C {s : PS} (h : s.at_.length = 4) {w : Nat} (hw : w < 4) (y : Int) : (atCells s.at_).take (2 * w + 1) ++ [AV.lit (.int .i64 y)] ++ (atCells s.at_).drop (2 * w + 1 + [AV.lit (.int .i64 y)].length) = atCells (s.at_.set w ((atOf s w).1, y)) := at_put1 h hw y
theorem at_put2C {s : PS} (h : s.at_.length = 4) {w : Nat} (hw : w < 4) (x y : Int) : (atCells s.at_).take (2 * w) ++ [AV.lit (.int .i64 x), .lit (.int .i64 y)] ++ (atCells s.at_).drop (2 * w + [AV.lit (.int .i64 x), .lit (.int .i64 y)].length) = atCells (s.at_.set w (x, y)) := at_put2 h hw x y
set_option maxHeartbeats 16000000 in
theorem play120_c (calls : List Tri) (hcw : ∀ y ∈ calls, y.Wf) (ds : List Int) (hds : ∀ y ∈ ds, -9223372036854775808 ≤ y ∧ y ≤ 9223372036854775807) (room : Int) (hrm : 0 ≤ room ∧ room ≤ 3) (H : Heap) : QCall Try.prog 120 [.ro (calls.map Tri.cells), .ro (ds.map cI), .lit (.int .i64 room)] H (.ro ((playS calls room ds).out.map Event.cells)) := by
  refine QCall.any H ?_
  refine acall_intro (n := 163) (rvs := [.tmp 6]) Try.func120 rfl rfl rfl (Nat.le_of_ble_eq_true rfl) ?_
  refine awp_seq ?_
  refine awp_region ?_
  refine aqs rfl (q_as (by constructor)) rfl ?_
  refine alist_nil ?_
  show AWP _ _ _ _
  refine awp_seq ?_
  refine awp_region ?_
  refine aqs rfl (q_as (by constructor)) rfl ?_
  refine alist_nil ?_
  show AWP _ _ _ _
  refine awp_adopt 7 108 5 rfl fun u0 => ?_
  show AWP _ _ _ _
  refine awp_seq ?_
  refine awp_region ?_
  refine aqs rfl (q_as (by constructor)) rfl ?_
  refine alist_nil ?_
  show AWP _ _ _ _
  refine awp_nilro 8 rfl ?_
  show AWP _ _ _ _
  refine awp_seq ?_
  refine awp_region ?_
  (refine aes rfl (e_al (xs := [.lit (.int .i64 0), .lit (.int .i64 0), .lit (.int .i64 0), .lit (.int .i64 0), .lit (.int .i64 0), .lit (.int .i64 0), .lit (.int .i64 0), .lit (.int .i64 0)]) (k := 8) zr203 (.same _) rfl) rfl ?_; rintro _ _ ⟨u9, rfl, rfl⟩)
  refine alist_nil ?_
  show AWP _ _ _ _
  refine awp_seq ?_
  refine awp_region ?_
  (refine aes rfl (e_al (xs := [.lit (.int .i64 0), .lit (.int .i64 0), .lit (.int .i64 0), .lit (.int .i64 0), .lit (.bool false), .lit (.int .i64 0), .lit (.int .i64 0), .lit (.int .i64 0), .lit (.int .i64 0), .lit (.bool false), .lit (.int .i64 0), .lit (.int .i64 0), .lit (.int .i64 0), .lit (.int .i64 0), .lit (.bool false), .lit (.int .i64 0), .lit (.int .i64 0), .lit (.int .i64 0), .lit (.int .i64 0), .lit (.bool false)]) (k := 20) zr204 (.same _) rfl) rfl ?_; rintro _ _ ⟨u10, rfl, rfl⟩)
  refine alist_nil ?_
  show AWP _ _ _ _
  refine awp_seq ?_
  refine awp_region ?_
  refine aqs rfl (q_as (by constructor)) rfl ?_
  refine alist_nil ?_
  show AWP _ _ _ _
  refine awp_seq ?_
  refine awp_seq ?_
  refine awp_region ?_
  refine aqs rfl (q_as (by constructor)) rfl ?_
  refine alist_nil ?_
  show AWP _ _ _ _
  refine awp_block ?_
  refine awp_loop_inv (fun x : Nat × PS × Nat => ⟨[(12, .lit (.int .i64 x.1)), (11, .lit (.int .i64 x.2.1.next)), (9, .ptr u9 0 0), (10, .ptr u10 0 0), (8, .ro (x.2.1.slots.map Slot.cells)), (7, .sl x.2.2 0 x.2.1.out.length), (0, .ro (calls.map Tri.cells)), (1, .ro (ds.map cI)), (2, .lit (.int .i64 room))], 163, [(u10, .arr 204 20 [toldCells x.2.1.told]), (u9, .arr 203 8 [atCells x.2.1.at_]), (x.2.2, .arr 108 5 (x.2.1.out.map Event.cells))]⟩) (fun x => x.1 ≤ ds.length ∧ x.1 ≤ 60 ∧ PInv calls x.2.1 x.1 ∧ x.2.1 = (ds.take x.1).foldl (fun s c => playStep calls room s (pick c 4).toNat) play0) (fun x => 60 - x.1) (0, play0, u0) ?_ ?_ ?_
  ·exact ⟨Nat.zero_le _, Nat.zero_le _, pinv0 calls, rfl⟩
  ·exact .mk' (by repeat (first | exact trivial | refine ⟨rfl, ?_⟩)) (by repeat (first | exact .refl _ | apply List.Sublist.cons_cons | apply List.Sublist.cons))
  ·rintro ⟨i, s, u⟩ ⟨hi, hi6, hinv, hs⟩
   simp only at hi hi6 hinv hs ⊢
   have hlen := lenEvent s.out
   have hone := oneEvent s.out
   have hol := hinv.outl
   have hsl := hinv.sll
   have hnx8 := hinv.nx
   refine awp_seq ?_
   refine awp_mid [(31, .lit (.bool (decide ((i : Int) < (ds.map cI).length) && decide ((i : Int) < 60)))), (12, .lit (.int .i64 i)), (11, .lit (.int .i64 s.next)), (9, .ptr u9 0 0), (10, .ptr u10 0 0), (8, .ro (s.slots.map Slot.cells)), (7, .sl u 0 s.out.length), (0, .ro (calls.map Tri.cells)), (1, .ro (ds.map cI)), (2, .lit (.int .i64 room))] ?_ ?_
   ·skip
    refine awp_region ?_
    all_goals (refine aqs rfl (q_mv (by constructor)) rfl ?_)
    all_goals (refine aqs rfl (q_mv (by constructor)) rfl ?_)
    all_goals (first | refine aqs rfl (q_len Try.underlying25 .ro) rfl ?_ | refine aqs rfl (q_lenO Try.underlying25 rfl (by repeat (first | exact .here | assumption | (apply HAt.left; assumption) | apply HAt.there | apply HAt.right)) (by first | omega | (simp; done) | (simp; omega) | fail) (by first | exact Nat.sub_zero _ | rfl)) rfl ?_ | refine aqs rfl (q_len Try.underlying25 .nil) rfl ?_ | refine aqs rfl (q_len Try.underlying25 .cro) rfl ?_)
    all_goals (refine aqs rfl (q_lss rfl rfl) rfl ?_)
    all_goals (refine aqs rfl (q_mv (by constructor)) rfl ?_)
    all_goals try (refine acase (fun hb4 => ?_) (fun hb4 => ?_))
    all_goals first | (exfalso; cases hb4; done) | skip
    all_goals (first | refine ans rfl rfl ?_ | refine aqs rfl (q_mv (by constructor)) rfl ?_)
    all_goals (first | refine ans rfl rfl ?_ | refine aqs rfl (q_lss rfl rfl) rfl ?_)
    all_goals (first | refine aqs rfl (q_pickT rfl (by constructor)) rfl ?_ | refine aqs rfl (q_pickF rfl (by constructor)) rfl ?_)
    all_goals (refine alist_nil ?_)
    all_goals (exact ⟨rfl, .mk' (by repeat (first | exact trivial | refine ⟨rfl, ?_⟩ | (refine ⟨?_, ?_⟩; (· first | (rw [hb4]; rfl) | fail)))) (by repeat (first | exact .refl _ | exact List.nil_sublist _ | exact List.sublist_append_left _ _ | apply List.Sublist.cons))⟩)
   refine awp_cond rfl (fun hc0 => ?_) (fun hc0 => ?_)
   ·simp only [Bool.and_eq_true, decide_eq_true_eq, List.length_map] at hc0
    have hil : i < ds.length := by omega
    have hk2 := cI_at hil
    have hk := hds (ds.getD i 0) (by rw [List.getD_eq_getElem?_getD, List.getElem?_eq_getElem hil]; exact List.getElem_mem hil)
    have hp0 := pick_nonneg (ds.getD i 0) 4 (by omega)
    have hp1 := pick_lt (ds.getD i 0) 4 (by omega)
    obtain ⟨w, hw, hw4⟩ : ∃ w : Nat, (w : Int) = pick (ds.getD i 0) 4 ∧ w < 4 := ⟨(pick (ds.getD i 0) 4).toNat, by omega, by omega⟩
    have hg1 : (atCells s.at_)[2 * w]? = some (.lit (.int .i64 (atOf s w).1)) := at_fst hinv.la hw4
    have hg2 : (atCells s.at_)[2 * w + 1]? = some (.lit (.int .i64 (atOf s w).2)) := at_snd hinv.la hw4
    have hal := at_len hinv.la
    have htl := told_len hinv.lt
    have hnext : (ds.take (i + 1)).foldl (fun s c => playStep calls room s (pick c 4).toNat) play0 = playStep calls room s w := by
     rw [take_next (show ds[i]? = some (ds.getD i 0) by rw [List.getD_eq_getElem?_getD, List.getElem?_eq_getElem hil]; rfl), List.foldl_append, ← hs]
     show playStep calls room s (pick (ds.getD i 0) 4).toNat = _
     rw [← hw]; rfl
    have hinv2 := pinv_step (room := room) hinv hw4
    obtain ⟨s2, hs2⟩ : ∃ s2, s2 = playStep calls room s w := ⟨_, rfl⟩
    rw [← hs2] at hinv2 hnext
    refine awp_skip ?_
    show AWP _ _ _ _
    refine awp_seq ?_
    refine awp_block ?_
    refine awp_seq ?_
    refine awp_region ?_
    refine aqs rfl (q_mv (by constructor)) rfl ?_
    refine aqs rfl (q_mv (by constructor)) rfl ?_
    first | refine aqs rfl (q_iaN Try.underlying25 sz3 (.inl rfl) rfl (by omega) (by first | rfl | assumption | (simp [*]; done) | fail) (by first | rfl | assumption | (simp [*]; done) | fail) (by decide) (by first | ((repeat constructor); done) | exact .same _)) rfl ?_ | refine aqs rfl (q_iaS Try.underlying25 sz3 rfl (by repeat (first | exact .here | assumption | (apply HAt.left; assumption) | apply HAt.there | apply HAt.right)) rfl (by omega) (by omega) (by first | exact Nat.zero_add _ | rfl)) rfl ?_ | refine aqs rfl (q_iaN Try.underlying25 sz3 (.inr rfl) rfl (by omega) (by first | rfl | assumption | (simp [*]; done) | fail) (by first | rfl | assumption | (simp [*]; done) | fail) (by decide) (by first | ((repeat constructor); done) | exact .same _)) rfl ?_
    first | refine aqs rfl (q_ldpN ag3 rfl (by repeat (first | exact .here | assumption | (apply HAt.left; assumption) | apply HAt.there | apply HAt.right)) (by first | rfl | assumption | (simp [*]; done) | fail) (by first | rfl | assumption | (simp [*]; done) | fail) (by constructor)) rfl ?_ | refine aqs rfl (q_ld1N ag3 rfl (by constructor)) rfl ?_
    first | refine aqs rfl (e_callN cb84 (hw ▸ pick84_c _ _ hk.1 hk.2 (by omega) _) rfl rfl) rfl ?_ | refine aqs rfl (e_callN cb84 (ACall.arg (hw ▸ pick84_c _ _ hk.1 hk.2 (by omega) _) (by repeat (first | exact ArgL.nil | (apply ArgL.cons; (· first | exact .same | exact .cro | exact .nil))))) rfl rfl) rfl ?_
    refine aqs rfl (q_as (by constructor)) rfl ?_
    refine alist_nil ?_
    show AWP _ _ _ _
    refine awp_seq ?_
    refine awp_seq ?_
    refine awp_region ?_
    refine aqs rfl (q_mv (by constructor)) rfl ?_
    refine aqs rfl (castQ (r2 := .ptr u9 0 (2 * w)) (q_iaA Try.underlying203 sz113 rfl rfl (by omega) (by omega) rfl) (by (rw [AV.ptr.injEq]; exact ⟨rfl, rfl, by simp; try omega⟩))) rfl ?_
    refine aqs rfl (castQ (r2 := .ptr u9 0 (2 * w + 1)) (q_iaA Try.underlying113 sz3 rfl rfl (by omega) (by omega) rfl) (by (rw [AV.ptr.injEq]; exact ⟨rfl, rfl, by simp; try omega⟩))) rfl ?_
    first | refine aqs rfl (q_ldpN ag3 rfl (by repeat (first | exact .here | assumption | (apply HAt.left; assumption) | apply HAt.there | apply HAt.right)) (by first | rfl | assumption | (simp [*]; done) | fail) (by first | rfl | assumption | (simp [*]; done) | fail) (by constructor)) rfl ?_ | refine aqs rfl (q_ld1N ag3 rfl (by constructor)) rfl ?_
    refine aqs rfl (q_eql rfl rfl) rfl ?_
    refine alist_nil ?_
    show AWP _ _ _ _
    refine awp_cond rfl (fun hc1 => ?_) (fun hc1 => ?_)
    ·have h0 : (atOf s w).2 = 0 := by simpa using hc1
     refine awp_seq ?_
     refine awp_mid [(51, .lit (.bool (decide ((s.next : Int) < (calls.map Tri.cells).length) && decide ((s.next : Int) < 8)))), (13, .lit (.int .i64 w)), (12, .lit (.int .i64 i)), (11, .lit (.int .i64 s.next)), (9, .ptr u9 0 0), (10, .ptr u10 0 0), (8, .ro (s.slots.map Slot.cells)), (7, .sl u 0 s.out.length), (0, .ro (calls.map Tri.cells)), (1, .ro (ds.map cI)), (2, .lit (.int .i64 room))] ?_ ?_
     ·skip
      refine awp_region ?_
      all_goals (refine aqs rfl (q_mv (by constructor)) rfl ?_)
      all_goals (refine aqs rfl (q_mv (by constructor)) rfl ?_)
      all_goals (first | refine aqs rfl (q_len Try.underlying64 .ro) rfl ?_ | refine aqs rfl (q_lenO Try.underlying64 rfl (by repeat (first | exact .here | assumption | (apply HAt.left; assumption) | apply HAt.there | apply HAt.right)) (by first | omega | (simp; done) | (simp; omega) | fail) (by first | exact Nat.sub_zero _ | rfl)) rfl ?_ | refine aqs rfl (q_len Try.underlying64 .nil) rfl ?_ | refine aqs rfl (q_len Try.underlying64 .cro) rfl ?_)
      all_goals (refine aqs rfl (q_lss rfl rfl) rfl ?_)
      all_goals (refine aqs rfl (q_mv (by constructor)) rfl ?_)
      all_goals try (refine acase (fun hb4 => ?_) (fun hb4 => ?_))
      all_goals first | (exfalso; cases hb4; done) | skip
      all_goals (first | refine ans rfl rfl ?_ | refine aqs rfl (q_mv (by constructor)) rfl ?_)
      all_goals (first | refine ans rfl rfl ?_ | refine aqs rfl (q_lss rfl rfl) rfl ?_)
      all_goals (first | refine aqs rfl (q_pickT rfl (by constructor)) rfl ?_ | refine aqs rfl (q_pickF rfl (by constructor)) rfl ?_)
      all_goals (refine alist_nil ?_)
      all_goals (exact ⟨rfl, .mk' (by repeat (first | exact trivial | refine ⟨rfl, ?_⟩ | (refine ⟨?_, ?_⟩; (· first | (rw [hb4]; rfl) | fail)))) (by repeat (first | exact .refl _ | exact List.nil_sublist _ | exact List.sublist_append_left _ _ | apply List.Sublist.cons))⟩)
     refine awp_cond rfl (fun hc2 => ?_) (fun hc2 => ?_)
     ·have hn : s.next < calls.length ∧ s.next < 8 := by
       simp only [Bool.and_eq_true, decide_eq_true_eq, List.length_map] at hc2
       omega
      rw [playStep, if_pos h0, if_pos hn] at hs2
      obtain ⟨c, hc, hcm⟩ := get_lt (l := calls) hn.1
      have hcc := get_map (f := Tri.cells) hc
      have hce : callAt calls s.next = c := by rw [callAt, List.getD_eq_getElem?_getD, hc]; rfl
      rw [hce] at hs2
      have hcwf := hcw c hcm
      have ha2 := pick_nonneg c.b 3 (by omega)
      have ha3 := pick_lt c.b 3 (by omega)
      have hput := at_put2C hinv.la hw4 s.next 1
      have hes := ev_app s.out (newEv w c s.next)
      have hml := ev_len s.out (newEv w c s.next)
      refine awp_seq ?_
      refine awp_region ?_
      refine aqs rfl (q_mv (by constructor)) rfl ?_
      refine aqs rfl (q_mv (by constructor)) rfl ?_
      first | refine aqs rfl (q_iaN Try.underlying64 sz83 (.inl rfl) rfl (by omega) (by first | rfl | assumption | (simp [*]; done) | fail) (by first | rfl | assumption | (simp [*]; done) | fail) (by decide) (by first | ((repeat constructor); done) | exact .same _)) rfl ?_ | refine aqs rfl (q_iaS Try.underlying64 sz83 rfl (by repeat (first | exact .here | assumption | (apply HAt.left; assumption) | apply HAt.there | apply HAt.right)) rfl (by omega) (by omega) (by first | exact Nat.zero_add _ | rfl)) rfl ?_ | refine aqs rfl (q_iaN Try.underlying64 sz83 (.inr rfl) rfl (by omega) (by first | rfl | assumption | (simp [*]; done) | fail) (by first | rfl | assumption | (simp [*]; done) | fail) (by decide) (by first | ((repeat constructor); done) | exact .same _)) rfl ?_
      first | refine aqs rfl (q_ldpW ag83 sz83 rfl (by repeat (first | exact .here | assumption | (apply HAt.left; assumption) | apply HAt.there | apply HAt.right)) (by first | rfl | assumption | (simp [*]; done) | fail) (by first | rfl | assumption | (simp [*]; done) | fail) (by decide)) rfl ?_ | refine aqs rfl (q_ldW ag83 sz83 rfl (by first | rfl | assumption | (simp [*]; done) | fail)) rfl ?_ | refine aqs rfl (q_ldpP ag83 sz83 rfl (by repeat (first | exact .here | assumption | (apply HAt.left; assumption) | apply HAt.there | apply HAt.right)) (by first | rfl | assumption | (simp [*]; done) | fail) (by first | decide | (simp; done) | omega | fail) (by decide) (by first | ((repeat constructor); done) | exact .same _)) rfl ?_ | refine aqs rfl (q_ldP ag83 sz83 rfl (by first | decide | (simp; done) | omega | fail) (by first | ((repeat constructor); done) | exact .same _)) rfl ?_
      (refine aes rfl (e_al (xs := [.lit (.int .i64 0), .lit (.int .i64 0), .lit (.int .i64 0)]) (k := 3) zr83 (.same _) rfl) rfl ?_; rintro _ _ ⟨u14, rfl, rfl⟩)
      first | (refine aen rfl (e_stW sz83 rfl (by repeat (first | exact .here | assumption | (apply HAt.left; assumption) | apply HAt.there | apply HAt.right)) (by constructor) (by first | rfl | assumption | (simp [*]; done) | fail) rfl (by repeat (first | exact .here | apply HSet.there))) ?_; rintro _ _ ⟨rfl, rfl⟩) | (refine aen rfl (e_stP sz83 rfl (by repeat (first | exact .here | assumption | (apply HAt.left; assumption) | apply HAt.there | apply HAt.right)) (by first | rfl | assumption | (simp [*]; done) | fail) (by constructor) (by first | rfl | assumption | (simp [*]; done) | fail) rfl (by first | decide | omega) (by first | ((repeat constructor); done) | exact .same _) (by first | exact .one | exact .set) (by repeat (first | exact .here | apply HSet.there))) ?_; rintro _ _ ⟨rfl, rfl⟩)
      refine alist_nil ?_
      show AWP _ _ _ _
      refine awp_seq ?_
      refine awp_region ?_
      refine aqs rfl (q_as (by constructor)) rfl ?_
      refine alist_nil ?_
      show AWP _ _ _ _
      refine awp_seq ?_
      refine awp_seq ?_
      refine awp_region ?_
      refine aqs rfl (q_iaA Try.underlying83 sz3 rfl rfl (by omega) (by omega) rfl) rfl ?_
      first | refine aqs rfl (q_ldpN ag3 rfl (by repeat (first | exact .here | assumption | (apply HAt.left; assumption) | apply HAt.there | apply HAt.right)) (by first | rfl | assumption | (simp [*]; done) | fail) (by first | rfl | assumption | (simp [*]; done) | fail) (by constructor)) rfl ?_ | refine aqs rfl (q_ld1N ag3 rfl (by constructor)) rfl ?_
      first | refine aqs rfl (e_callN cb84 (pick84_c c.a 2 hcwf.1.1 hcwf.1.2 (by omega) _) rfl rfl) rfl ?_ | refine aqs rfl (e_callN cb84 (ACall.arg (pick84_c c.a 2 hcwf.1.1 hcwf.1.2 (by omega) _) (by repeat (first | exact ArgL.nil | (apply ArgL.cons; (· first | exact .same | exact .cro | exact .nil))))) rfl rfl) rfl ?_
      refine aqs rfl (q_eql rfl rfl) rfl ?_
      refine alist_nil ?_
      show AWP _ _ _ _
      refine awp_cond rfl (fun hc3 => ?_) (fun hc3 => ?_)
      ·have hp : isPutC c = true := hc3
       have hec : (newEv w c s.next).cells = [.lit (.int .i64 3), .lit (.int .i64 w), .lit (.int .i64 (pick c.b 3)), .lit (.int .i64 (1 + (s.next : Int))), .lit (.bool false)] := by rw [newEv, hp]; rfl
       rw [hec] at hes
       refine awp_region ?_
       refine aqs rfl (q_as (by constructor)) rfl ?_
       refine alist_nil ?_
       show AWP _ _ _ _
       refine awp_seq ?_
       refine awp_region ?_
       refine aqs rfl (q_mv (by constructor)) rfl ?_
       refine aqs rfl (q_mv (by constructor)) rfl ?_
       refine aqs rfl (q_mv (by constructor)) rfl ?_
       refine aqs rfl (q_iaA Try.underlying83 sz3 rfl rfl (by omega) (by omega) rfl) rfl ?_
       first | refine aqs rfl (q_ldpN ag3 rfl (by repeat (first | exact .here | assumption | (apply HAt.left; assumption) | apply HAt.there | apply HAt.right)) (by first | rfl | assumption | (simp [*]; done) | fail) (by first | rfl | assumption | (simp [*]; done) | fail) (by constructor)) rfl ?_ | refine aqs rfl (q_ld1N ag3 rfl (by constructor)) rfl ?_
       first | refine aqs rfl (e_callN cb84 (pick84_c c.b 3 hcwf.2.1.1 hcwf.2.1.2 (by omega) _) rfl rfl) rfl ?_ | refine aqs rfl (e_callN cb84 (ACall.arg (pick84_c c.b 3 hcwf.2.1.1 hcwf.2.1.2 (by omega) _) (by repeat (first | exact ArgL.nil | (apply ArgL.cons; (· first | exact .same | exact .cro | exact .nil))))) rfl rfl) rfl ?_
       refine aqs rfl (q_mv (by constructor)) rfl ?_
       first | refine aqs rfl (q_add64 rfl rfl (by omega) (by omega)) rfl ?_ | refine aqs rfl (q_add rfl rfl) rfl ?_
       refine aqs rfl (q_bd st108 zr108 (by first | ((repeat constructor); done) | exact .same _) (by repeat (first | exact BD.nil | (apply BD.cons; (· rfl); (· constructor); (· rfl); (· rfl); (· exact Nat.le_of_ble_eq_true (by rfl)); (· exact (by first | ((repeat constructor); done) | exact .same _)))))) rfl ?_
       first | refine aqs rfl (q_bs Try.underlying88 sz108 zr108 rfl (by first | ((repeat constructor); done) | exact .same _) rfl (by decide) (by repeat (first | exact BS.nil | (apply BS.cons; (· constructor); (· rfl); (· rfl); (· rfl); (· exact (by first | ((repeat constructor); done) | exact .same _)))))) rfl ?_ | (refine aes rfl (e_bs Try.underlying88 sz108 zr108 rfl (by first | ((repeat constructor); done) | exact .same _) rfl (by decide) (by repeat (first | exact BS.nil | (apply BS.cons; (· constructor); (· rfl); (· rfl); (· rfl); (· exact (by first | ((repeat constructor); done) | exact .same _)))))) rfl ?_; rintro _ _ ⟨u69, rfl, rfl⟩)
       first | refine aqs rfl (q_apC Try.underlying88 sz108 by108 zr108 (.inl rfl) (by first | exact .ro | exact .cro | exact .nil | exact SV.slA (by repeat (first | exact .here | assumption | (apply HAt.left; assumption) | apply HAt.there | apply HAt.right)) (by first | rfl | (simp; done) | (simp; omega) | (simp [*]; done) | fail)) (by first | assumption | (intro c hc; simp at hc; subst hc; rfl) | (simp; done) | fail) (by first | assumption | (intro c hc; simp at hc; subst hc; rfl) | (simp; done) | fail) (by first | omega | decide | (simp; omega) | assumption | fail) (by decide) (by decide) rfl (by first | rfl | (simp; done) | fail)) rfl ?_ | refine aqs rfl (q_apC Try.underlying88 sz108 by108 zr108 (.inr ⟨rfl, rfl⟩) (by first | exact .ro | exact .cro | exact .nil | exact SV.slA (by repeat (first | exact .here | assumption | (apply HAt.left; assumption) | apply HAt.there | apply HAt.right)) (by first | rfl | (simp; done) | (simp; omega) | (simp [*]; done) | fail)) (by first | assumption | (intro c hc; simp at hc; subst hc; rfl) | (simp; done) | fail) (by first | assumption | (intro c hc; simp at hc; subst hc; rfl) | (simp; done) | fail) (by first | omega | decide | (simp; omega) | assumption | fail) (by decide) (by decide) rfl (by first | rfl | (simp; done) | fail)) rfl ?_ | (refine aes rfl (e_apO Try.underlying88 sz108 by108 zr108 rfl (by repeat (first | exact .here | assumption | (apply HAt.left; assumption) | apply HAt.there | apply HAt.right)) (by rw [List.length_map]; exact Nat.le_refl _) (by first | exact .ro | exact .cro | exact .nil | exact SV.slA (by repeat (first | exact .here | assumption | (apply HAt.left; assumption) | apply HAt.there | apply HAt.right)) (by first | rfl | (simp; done) | (simp; omega) | (simp [*]; done) | fail)) (by first | assumption | (intro c hc; simp at hc; subst hc; rfl) | (simp; done) | fail) (by first | assumption | (intro c hc; simp at hc; subst hc; rfl) | (simp; done) | fail) (by first | assumption | (intro c hc; simp at hc; subst hc; rfl) | (simp; done) | fail) (by first | (simp; done) | (simp; omega) | omega | fail) (by decide) (by decide) rfl (by exact hml) hes (fun v => (by repeat (first | exact .here | apply HSet.there)))) rfl ?_; rintro _ _ ⟨u70, rfl, rfl⟩) | (refine aes rfl (e_apN Try.underlying88 sz108 by108 zr108 rfl (by first | exact .ro | exact .cro | exact .nil | exact SV.slA (by repeat (first | exact .here | assumption | (apply HAt.left; assumption) | apply HAt.there | apply HAt.right)) (by first | rfl | (simp; done) | (simp; omega) | (simp [*]; done) | fail)) (by first | assumption | (intro c hc; simp at hc; subst hc; rfl) | (simp; done) | fail) (by first | assumption | (intro c hc; simp at hc; subst hc; rfl) | (simp; done) | fail) (by first | (simp; done) | (simp; omega) | omega | fail) (by decide) (by decide) rfl rfl) rfl ?_; rintro _ _ ⟨u70, rfl, rfl⟩)
       refine aqs rfl (q_as (by constructor)) rfl ?_
       refine alist_nil ?_
       show AWP _ _ _ _
       refine awp_seq ?_
       refine awp_region ?_
       refine aqs rfl (q_mv (by constructor)) rfl ?_
       refine aqs rfl (q_mv (by constructor)) rfl ?_
       refine aqs rfl (q_bd st113 zr113 (by first | ((repeat constructor); done) | exact .same _) (by repeat (first | exact BD.nil | (apply BD.cons; (· rfl); (· constructor); (· rfl); (· rfl); (· exact Nat.le_of_ble_eq_true (by rfl)); (· exact (by first | ((repeat constructor); done) | exact .same _)))))) rfl ?_
       refine aqs rfl (castQ (r2 := .ptr u9 0 (2 * w)) (q_iaA Try.underlying203 sz113 rfl rfl (by omega) (by omega) rfl) (by (rw [AV.ptr.injEq]; exact ⟨rfl, rfl, by simp; try omega⟩))) rfl ?_
       first | (refine aen rfl (e_stW sz113 rfl (by repeat (first | exact .here | assumption | (apply HAt.left; assumption) | apply HAt.there | apply HAt.right)) (by constructor) (by first | rfl | assumption | (simp [*]; done) | fail) rfl (by repeat (first | exact .here | apply HSet.there))) ?_; rintro _ _ ⟨rfl, rfl⟩) | (refine aen rfl (e_stP sz113 rfl (by repeat (first | exact .here | assumption | (apply HAt.left; assumption) | apply HAt.there | apply HAt.right)) (by first | rfl | assumption | (simp [*]; done) | fail) (by constructor) (by first | rfl | assumption | (simp [*]; done) | fail) rfl (by first | decide | omega) (by first | ((repeat constructor); done) | exact .same _) (by first | exact .one | exact .set) (by repeat (first | exact .here | apply HSet.there))) ?_; rintro _ _ ⟨rfl, rfl⟩)
       refine alist_nil ?_
       show AWP _ _ _ _
       rw [hput]
       show AWP _ _ _ _
       refine awp_region ?_
       refine aqs rfl (q_mv (by constructor)) rfl ?_
       first | refine aqs rfl (q_add64 rfl rfl (by omega) (by omega)) rfl ?_ | refine aqs rfl (q_add rfl rfl) rfl ?_
       refine aqs rfl (q_as (by constructor)) rfl ?_
       refine alist_nil ?_
       show AWP _ _ _ _
       refine awp_exit ?_
       show AWP _ _ _ _
       refine awp_region ?_
       refine aqs rfl (q_mv (by constructor)) rfl ?_
       first | refine aqs rfl (q_add64 rfl rfl (by omega) (by omega)) rfl ?_ | refine aqs rfl (q_add rfl rfl) rfl ?_
       refine aqs rfl (q_as (by constructor)) rfl ?_
       refine alist_nil ?_
       show ∃ y, _ ∧ _ ∧ _
       exact ⟨(i + 1, s2, _), ⟨by show i + 1 ≤ ds.length; omega, by show i + 1 ≤ 60; omega, hinv2, hnext.symm⟩, by show 60 - (i + 1) < 60 - i; omega, by simp only [hs2]; exact .mk' ⟨by rfl, by rfl, rfl, rfl, rfl, rfl, rfl, rfl, rfl, trivial⟩ (by repeat (first | exact List.Sublist.refl _ | exact List.nil_sublist _ | exact List.sublist_append_left _ _ | (apply List.Sublist.cons_cons) | (apply List.Sublist.cons)))⟩
      ·have hp : isPutC c = false := hc3
       have hec : (newEv w c s.next).cells = [.lit (.int .i64 1), .lit (.int .i64 w), .lit (.int .i64 (pick c.b 3)), .lit (.int .i64 (1 + (s.next : Int))), .lit (.bool false)] := by rw [newEv, hp]; rfl
       rw [hec] at hes
       refine awp_skip ?_
       show AWP _ _ _ _
       refine awp_seq ?_
       refine awp_region ?_
       refine aqs rfl (q_mv (by constructor)) rfl ?_
       refine aqs rfl (q_mv (by constructor)) rfl ?_
       refine aqs rfl (q_mv (by constructor)) rfl ?_
       refine aqs rfl (q_iaA Try.underlying83 sz3 rfl rfl (by omega) (by omega) rfl) rfl ?_
       first | refine aqs rfl (q_ldpN ag3 rfl (by repeat (first | exact .here | assumption | (apply HAt.left; assumption) | apply HAt.there | apply HAt.right)) (by first | rfl | assumption | (simp [*]; done) | fail) (by first | rfl | assumption | (simp [*]; done) | fail) (by constructor)) rfl ?_ | refine aqs rfl (q_ld1N ag3 rfl (by constructor)) rfl ?_
       first | refine aqs rfl (e_callN cb84 (pick84_c c.b 3 hcwf.2.1.1 hcwf.2.1.2 (by omega) _) rfl rfl) rfl ?_ | refine aqs rfl (e_callN cb84 (ACall.arg (pick84_c c.b 3 hcwf.2.1.1 hcwf.2.1.2 (by omega) _) (by repeat (first | exact ArgL.nil | (apply ArgL.cons; (· first | exact .same | exact .cro | exact .nil))))) rfl rfl) rfl ?_
       refine aqs rfl (q_mv (by constructor)) rfl ?_
       first | refine aqs rfl (q_add64 rfl rfl (by omega) (by omega)) rfl ?_ | refine aqs rfl (q_add rfl rfl) rfl ?_
       refine aqs rfl (q_bd st108 zr108 (by first | ((repeat constructor); done) | exact .same _) (by repeat (first | exact BD.nil | (apply BD.cons; (· rfl); (· constructor); (· rfl); (· rfl); (· exact Nat.le_of_ble_eq_true (by rfl)); (· exact (by first | ((repeat constructor); done) | exact .same _)))))) rfl ?_
       first | refine aqs rfl (q_bs Try.underlying88 sz108 zr108 rfl (by first | ((repeat constructor); done) | exact .same _) rfl (by decide) (by repeat (first | exact BS.nil | (apply BS.cons; (· constructor); (· rfl); (· rfl); (· rfl); (· exact (by first | ((repeat constructor); done) | exact .same _)))))) rfl ?_ | (refine aes rfl (e_bs Try.underlying88 sz108 zr108 rfl (by first | ((repeat constructor); done) | exact .same _) rfl (by decide) (by repeat (first | exact BS.nil | (apply BS.cons; (· constructor); (· rfl); (· rfl); (· rfl); (· exact (by first | ((repeat constructor); done) | exact .same _)))))) rfl ?_; rintro _ _ ⟨u69, rfl, rfl⟩)
       first | refine aqs rfl (q_apC Try.underlying88 sz108 by108 zr108 (.inl rfl) (by first | exact .ro | exact .cro | exact .nil | exact SV.slA (by repeat (first | exact .here | assumption | (apply HAt.left; assumption) | apply HAt.there | apply HAt.right)) (by first | rfl | (simp; done) | (simp; omega) | (simp [*]; done) | fail)) (by first | assumption | (intro c hc; simp at hc; subst hc; rfl) | (simp; done) | fail) (by first | assumption | (intro c hc; simp at hc; subst hc; rfl) | (simp; done) | fail) (by first | omega | decide | (simp; omega) | assumption | fail) (by decide) (by decide) rfl (by first | rfl | (simp; done) | fail)) rfl ?_ | refine aqs rfl (q_apC Try.underlying88 sz108 by108 zr108 (.inr ⟨rfl, rfl⟩) (by first | exact .ro | exact .cro | exact .nil | exact SV.slA (by repeat (first | exact .here | assumption | (apply HAt.left; assumption) | apply HAt.there | apply HAt.right)) (by first | rfl | (simp; done) | (simp; omega) | (simp [*]; done) | fail)) (by first | assumption | (intro c hc; simp at hc; subst hc; rfl) | (simp; done) | fail) (by first | assumption | (intro c hc; simp at hc; subst hc; rfl) | (simp; done) | fail) (by first | omega | decide | (simp; omega) | assumption | fail) (by decide) (by decide) rfl (by first | rfl | (simp; done) | fail)) rfl ?_ | (refine aes rfl (e_apO Try.underlying88 sz108 by108 zr108 rfl (by repeat (first | exact .here | assumption | (apply HAt.left; assumption) | apply HAt.there | apply HAt.right)) (by rw [List.length_map]; exact Nat.le_refl _) (by first | exact .ro | exact .cro | exact .nil | exact SV.slA (by repeat (first | exact .here | assumption | (apply HAt.left; assumption) | apply HAt.there | apply HAt.right)) (by first | rfl | (simp; done) | (simp; omega) | (simp [*]; done) | fail)) (by first | assumption | (intro c hc; simp at hc; subst hc; rfl) | (simp; done) | fail) (by first | assumption | (intro c hc; simp at hc; subst hc; rfl) | (simp; done) | fail) (by first | assumption | (intro c hc; simp at hc; subst hc; rfl) | (simp; done) | fail) (by first | (simp; done) | (simp; omega) | omega | fail) (by decide) (by decide) rfl (by exact hml) hes (fun v => (by repeat (first | exact .here | apply HSet.there)))) rfl ?_; rintro _ _ ⟨u70, rfl, rfl⟩) | (refine aes rfl (e_apN Try.underlying88 sz108 by108 zr108 rfl (by first | exact .ro | exact .cro | exact .nil | exact SV.slA (by repeat (first | exact .here | assumption | (apply HAt.left; assumption) | apply HAt.there | apply HAt.right)) (by first | rfl | (simp; done) | (simp; omega) | (simp [*]; done) | fail)) (by first | assumption | (intro c hc; simp at hc; subst hc; rfl) | (simp; done) | fail) (by first | assumption | (intro c hc; simp at hc; subst hc; rfl) | (simp; done) | fail) (by first | (simp; done) | (simp; omega) | omega | fail) (by decide) (by decide) rfl rfl) rfl ?_; rintro _ _ ⟨u70, rfl, rfl⟩)
       refine aqs rfl (q_as (by constructor)) rfl ?_
       refine alist_nil ?_
       show AWP _ _ _ _
       refine awp_seq ?_
       refine awp_region ?_
       refine aqs rfl (q_mv (by constructor)) rfl ?_
       refine aqs rfl (q_mv (by constructor)) rfl ?_
       refine aqs rfl (q_bd st113 zr113 (by first | ((repeat constructor); done) | exact .same _) (by repeat (first | exact BD.nil | (apply BD.cons; (· rfl); (· constructor); (· rfl); (· rfl); (· exact Nat.le_of_ble_eq_true (by rfl)); (· exact (by first | ((repeat constructor); done) | exact .same _)))))) rfl ?_
       refine aqs rfl (castQ (r2 := .ptr u9 0 (2 * w)) (q_iaA Try.underlying203 sz113 rfl rfl (by omega) (by omega) rfl) (by (rw [AV.ptr.injEq]; exact ⟨rfl, rfl, by simp; try omega⟩))) rfl ?_
       first | (refine aen rfl (e_stW sz113 rfl (by repeat (first | exact .here | assumption | (apply HAt.left; assumption) | apply HAt.there | apply HAt.right)) (by constructor) (by first | rfl | assumption | (simp [*]; done) | fail) rfl (by repeat (first | exact .here | apply HSet.there))) ?_; rintro _ _ ⟨rfl, rfl⟩) | (refine aen rfl (e_stP sz113 rfl (by repeat (first | exact .here | assumption | (apply HAt.left; assumption) | apply HAt.there | apply HAt.right)) (by first | rfl | assumption | (simp [*]; done) | fail) (by constructor) (by first | rfl | assumption | (simp [*]; done) | fail) rfl (by first | decide | omega) (by first | ((repeat constructor); done) | exact .same _) (by first | exact .one | exact .set) (by repeat (first | exact .here | apply HSet.there))) ?_; rintro _ _ ⟨rfl, rfl⟩)
       refine alist_nil ?_
       show AWP _ _ _ _
       rw [hput]
       show AWP _ _ _ _
       refine awp_region ?_
       refine aqs rfl (q_mv (by constructor)) rfl ?_
       first | refine aqs rfl (q_add64 rfl rfl (by omega) (by omega)) rfl ?_ | refine aqs rfl (q_add rfl rfl) rfl ?_
       refine aqs rfl (q_as (by constructor)) rfl ?_
       refine alist_nil ?_
       show AWP _ _ _ _
       refine awp_exit ?_
       show AWP _ _ _ _
       refine awp_region ?_
       refine aqs rfl (q_mv (by constructor)) rfl ?_
       first | refine aqs rfl (q_add64 rfl rfl (by omega) (by omega)) rfl ?_ | refine aqs rfl (q_add rfl rfl) rfl ?_
       refine aqs rfl (q_as (by constructor)) rfl ?_
       refine alist_nil ?_
       show ∃ y, _ ∧ _ ∧ _
       exact ⟨(i + 1, s2, _), ⟨by show i + 1 ≤ ds.length; omega, by show i + 1 ≤ 60; omega, hinv2, hnext.symm⟩, by show 60 - (i + 1) < 60 - i; omega, by simp only [hs2]; exact .mk' ⟨by rfl, by rfl, rfl, rfl, rfl, rfl, rfl, rfl, rfl, trivial⟩ (by repeat (first | exact List.Sublist.refl _ | exact List.nil_sublist _ | exact List.sublist_append_left _ _ | (apply List.Sublist.cons_cons) | (apply List.Sublist.cons)))⟩
     ·have hn : ¬ (s.next < calls.length ∧ s.next < 8) := by
       simp only [Bool.and_eq_false_iff, decide_eq_false_iff_not, List.length_map] at hc2
       omega
      rw [playStep, if_pos h0, if_neg hn] at hs2
      refine awp_skip ?_
      show AWP _ _ _ _
      refine awp_exit ?_
      show AWP _ _ _ _
      refine awp_region ?_
      refine aqs rfl (q_mv (by constructor)) rfl ?_
      first | refine aqs rfl (q_add64 rfl rfl (by omega) (by omega)) rfl ?_ | refine aqs rfl (q_add rfl rfl) rfl ?_
      refine aqs rfl (q_as (by constructor)) rfl ?_
      refine alist_nil ?_
      show ∃ y, _ ∧ _ ∧ _
      exact ⟨(i + 1, s2, _), ⟨by show i + 1 ≤ ds.length; omega, by show i + 1 ≤ 60; omega, hinv2, hnext.symm⟩, by show 60 - (i + 1) < 60 - i; omega, by simp only [hs2]; exact .mk' ⟨by rfl, by rfl, rfl, rfl, rfl, rfl, rfl, rfl, rfl, trivial⟩ (by repeat (first | exact List.Sublist.refl _ | exact List.nil_sublist _ | exact List.sublist_append_left _ _ | (apply List.Sublist.cons_cons) | (apply List.Sublist.cons)))⟩
    ·have h0 : ¬ (atOf s w).2 = 0 := by simpa using hc1
     have hat := (hinv.at_ w hw4).resolve_left h0
     obtain ⟨c, hc, hcm⟩ := get_lt (l := calls) (i := (atOf s w).1.toNat) (by omega)
     have hcc := get_map (f := Tri.cells) hc
     have hce : callAt calls (atOf s w).1.toNat = c := by rw [callAt, List.getD_eq_getElem?_getD, hc]; rfl
     rw [playStep, if_neg h0, hce] at hs2
     have hcwf := hcw c hcm
     have ha2 := pick_nonneg c.b 3 (by omega)
     have ha3 := pick_lt c.b 3 (by omega)
     refine awp_skip ?_
     show AWP _ _ _ _
     refine awp_seq ?_
     refine awp_region ?_
     refine aqs rfl (q_mv (by constructor)) rfl ?_
     refine aqs rfl (q_mv (by constructor)) rfl ?_
     refine aqs rfl (castQ (r2 := .ptr u9 0 (2 * w)) (q_iaA Try.underlying203 sz113 rfl rfl (by omega) (by omega) rfl) (by (rw [AV.ptr.injEq]; exact ⟨rfl, rfl, by simp; try omega⟩))) rfl ?_
     refine aqs rfl (castQ (r2 := .ptr u9 0 (2 * w)) (q_iaA Try.underlying113 sz3 rfl rfl (by omega) (by omega) rfl) (by (rw [AV.ptr.injEq]; exact ⟨rfl, rfl, by simp; try omega⟩))) rfl ?_
     first | refine aqs rfl (q_ldpN ag3 rfl (by repeat (first | exact .here | assumption | (apply HAt.left; assumption) | apply HAt.there | apply HAt.right)) (by first | rfl | assumption | (simp [*]; done) | fail) (by first | rfl | assumption | (simp [*]; done) | fail) (by constructor)) rfl ?_ | refine aqs rfl (q_ld1N ag3 rfl (by constructor)) rfl ?_
     first | refine aqs rfl (q_iaN Try.underlying64 sz83 (.inl rfl) rfl (by omega) (by first | rfl | assumption | (simp [*]; done) | fail) (by first | rfl | assumption | (simp [*]; done) | fail) (by decide) (by first | ((repeat constructor); done) | exact .same _)) rfl ?_ | refine aqs rfl (q_iaS Try.underlying64 sz83 rfl (by repeat (first | exact .here | assumption | (apply HAt.left; assumption) | apply HAt.there | apply HAt.right)) rfl (by omega) (by omega) (by first | exact Nat.zero_add _ | rfl)) rfl ?_ | refine aqs rfl (q_iaN Try.underlying64 sz83 (.inr rfl) rfl (by omega) (by first | rfl | assumption | (simp [*]; done) | fail) (by first | rfl | assumption | (simp [*]; done) | fail) (by decide) (by first | ((repeat constructor); done) | exact .same _)) rfl ?_
     first | refine aqs rfl (q_ldpW ag83 sz83 rfl (by repeat (first | exact .here | assumption | (apply HAt.left; assumption) | apply HAt.there | apply HAt.right)) (by first | rfl | assumption | (simp [*]; done) | fail) (by first | rfl | assumption | (simp [*]; done) | fail) (by decide)) rfl ?_ | refine aqs rfl (q_ldW ag83 sz83 rfl (by first | rfl | assumption | (simp [*]; done) | fail)) rfl ?_ | refine aqs rfl (q_ldpP ag83 sz83 rfl (by repeat (first | exact .here | assumption | (apply HAt.left; assumption) | apply HAt.there | apply HAt.right)) (by first | rfl | assumption | (simp [*]; done) | fail) (by first | decide | (simp; done) | omega | fail) (by decide) (by first | ((repeat constructor); done) | exact .same _)) rfl ?_ | refine aqs rfl (q_ldP ag83 sz83 rfl (by first | decide | (simp; done) | omega | fail) (by first | ((repeat constructor); done) | exact .same _)) rfl ?_
     (refine aes rfl (e_al (xs := [.lit (.int .i64 0), .lit (.int .i64 0), .lit (.int .i64 0)]) (k := 3) zr83 (.same _) rfl) rfl ?_; rintro _ _ ⟨u16, rfl, rfl⟩)
     first | (refine aen rfl (e_stW sz83 rfl (by repeat (first | exact .here | assumption | (apply HAt.left; assumption) | apply HAt.there | apply HAt.right)) (by constructor) (by first | rfl | assumption | (simp [*]; done) | fail) rfl (by repeat (first | exact .here | apply HSet.there))) ?_; rintro _ _ ⟨rfl, rfl⟩) | (refine aen rfl (e_stP sz83 rfl (by repeat (first | exact .here | assumption | (apply HAt.left; assumption) | apply HAt.there | apply HAt.right)) (by first | rfl | assumption | (simp [*]; done) | fail) (by constructor) (by first | rfl | assumption | (simp [*]; done) | fail) rfl (by first | decide | omega) (by first | ((repeat constructor); done) | exact .same _) (by first | exact .one | exact .set) (by repeat (first | exact .here | apply HSet.there))) ?_; rintro _ _ ⟨rfl, rfl⟩)
     refine alist_nil ?_
     show AWP _ _ _ _
     refine awp_seq ?_
     refine awp_region ?_
     refine aqs rfl (q_iaA Try.underlying83 sz3 rfl rfl (by omega) (by omega) rfl) rfl ?_
     first | refine aqs rfl (q_ldpN ag3 rfl (by repeat (first | exact .here | assumption | (apply HAt.left; assumption) | apply HAt.there | apply HAt.right)) (by first | rfl | assumption | (simp [*]; done) | fail) (by first | rfl | assumption | (simp [*]; done) | fail) (by constructor)) rfl ?_ | refine aqs rfl (q_ld1N ag3 rfl (by constructor)) rfl ?_
     first | refine aqs rfl (e_callN cb84 (pick84_c c.b 3 hcwf.2.1.1 hcwf.2.1.2 (by omega) _) rfl rfl) rfl ?_ | refine aqs rfl (e_callN cb84 (ACall.arg (pick84_c c.b 3 hcwf.2.1.1 hcwf.2.1.2 (by omega) _) (by repeat (first | exact ArgL.nil | (apply ArgL.cons; (· first | exact .same | exact .cro | exact .nil))))) rfl rfl) rfl ?_
     first | refine aqs rfl (q_convU rfl Try.underlying3 Try.underlying22 (by omega) (by omega)) rfl ?_ | refine aqs rfl (q_conv rfl Try.underlying3 Try.underlying22) rfl ?_
     refine aqs rfl (q_bd st29 zr29 (by first | ((repeat constructor); done) | exact .same _) (by repeat (first | exact BD.nil | (apply BD.cons; (· rfl); (· constructor); (· rfl); (· rfl); (· exact Nat.le_of_ble_eq_true (by rfl)); (· exact (by first | ((repeat constructor); done) | exact .same _)))))) rfl ?_
     (refine aes rfl (e_al (xs := [.lit (.int .u64 0), .lit (.int .i64 0)]) (k := 2) zr29 (.same _) rfl) rfl ?_; rintro _ _ ⟨u17, rfl, rfl⟩)
     first | (refine aen rfl (e_stW sz29 rfl (by repeat (first | exact .here | assumption | (apply HAt.left; assumption) | apply HAt.there | apply HAt.right)) (by constructor) (by first | rfl | assumption | (simp [*]; done) | fail) rfl (by repeat (first | exact .here | apply HSet.there))) ?_; rintro _ _ ⟨rfl, rfl⟩) | (refine aen rfl (e_stP sz29 rfl (by repeat (first | exact .here | assumption | (apply HAt.left; assumption) | apply HAt.there | apply HAt.right)) (by first | rfl | assumption | (simp [*]; done) | fail) (by constructor) (by first | rfl | assumption | (simp [*]; done) | fail) rfl (by first | decide | omega) (by first | ((repeat constructor); done) | exact .same _) (by first | exact .one | exact .set) (by repeat (first | exact .here | apply HSet.there))) ?_; rintro _ _ ⟨rfl, rfl⟩)
     refine alist_nil ?_
     show AWP _ _ _ _
     refine awp_seq ?_
     refine awp_seq ?_
     refine awp_region ?_
     refine aqs rfl (q_mv (by constructor)) rfl ?_
     refine aqs rfl (castQ (r2 := .ptr u9 0 (2 * w)) (q_iaA Try.underlying203 sz113 rfl rfl (by omega) (by omega) rfl) (by (rw [AV.ptr.injEq]; exact ⟨rfl, rfl, by simp; try omega⟩))) rfl ?_
     refine aqs rfl (castQ (r2 := .ptr u9 0 (2 * w + 1)) (q_iaA Try.underlying113 sz3 rfl rfl (by omega) (by omega) rfl) (by (rw [AV.ptr.injEq]; exact ⟨rfl, rfl, by simp; try omega⟩))) rfl ?_
     first | refine aqs rfl (q_ldpN ag3 rfl (by repeat (first | exact .here | assumption | (apply HAt.left; assumption) | apply HAt.there | apply HAt.right)) (by first | rfl | assumption | (simp [*]; done) | fail) (by first | rfl | assumption | (simp [*]; done) | fail) (by constructor)) rfl ?_ | refine aqs rfl (q_ld1N ag3 rfl (by constructor)) rfl ?_
     refine aqs rfl (q_eql rfl rfl) rfl ?_
     refine alist_nil ?_
     show AWP _ _ _ _
     refine awp_cond rfl (fun hc4 => ?_) (fun hc4 => ?_)
     ·have h1 : (atOf s w).2 = 1 := by simpa using hc4
      rw [if_pos h1] at hs2
      have hput := at_put1C hinv.la hw4 2
      refine awp_seq ?_
      refine awp_region ?_
      refine aqs rfl (q_mv (by constructor)) rfl ?_
      refine aqs rfl (castQ (r2 := .ptr u9 0 (2 * w)) (q_iaA Try.underlying203 sz113 rfl rfl (by omega) (by omega) rfl) (by (rw [AV.ptr.injEq]; exact ⟨rfl, rfl, by simp; try omega⟩))) rfl ?_
      refine aqs rfl (castQ (r2 := .ptr u9 0 (2 * w + 1)) (q_iaA Try.underlying113 sz3 rfl rfl (by omega) (by omega) rfl) (by (rw [AV.ptr.injEq]; exact ⟨rfl, rfl, by simp; try omega⟩))) rfl ?_
      first | (refine aen rfl (e_stW sz3 rfl (by repeat (first | exact .here | assumption | (apply HAt.left; assumption) | apply HAt.there | apply HAt.right)) (by constructor) (by first | rfl | assumption | (simp [*]; done) | fail) rfl (by repeat (first | exact .here | apply HSet.there))) ?_; rintro _ _ ⟨rfl, rfl⟩) | (refine aen rfl (e_stP sz3 rfl (by repeat (first | exact .here | assumption | (apply HAt.left; assumption) | apply HAt.there | apply HAt.right)) (by first | rfl | assumption | (simp [*]; done) | fail) (by constructor) (by first | rfl | assumption | (simp [*]; done) | fail) rfl (by first | decide | omega) (by first | ((repeat constructor); done) | exact .same _) (by first | exact .one | exact .set) (by repeat (first | exact .here | apply HSet.there))) ?_; rintro _ _ ⟨rfl, rfl⟩)
      refine alist_nil ?_
      show AWP _ _ _ _
      rw [hput]
      show AWP _ _ _ _
      refine awp_seq ?_
      refine awp_seq ?_
      refine awp_region ?_
      refine aqs rfl (q_iaA Try.underlying83 sz3 rfl rfl (by omega) (by omega) rfl) rfl ?_
      first | refine aqs rfl (q_ldpN ag3 rfl (by repeat (first | exact .here | assumption | (apply HAt.left; assumption) | apply HAt.there | apply HAt.right)) (by first | rfl | assumption | (simp [*]; done) | fail) (by first | rfl | assumption | (simp [*]; done) | fail) (by constructor)) rfl ?_ | refine aqs rfl (q_ld1N ag3 rfl (by constructor)) rfl ?_
      first | refine aqs rfl (e_callN cb84 (pick84_c c.a 2 hcwf.1.1 hcwf.1.2 (by omega) _) rfl rfl) rfl ?_ | refine aqs rfl (e_callN cb84 (ACall.arg (pick84_c c.a 2 hcwf.1.1 hcwf.1.2 (by omega) _) (by repeat (first | exact ArgL.nil | (apply ArgL.cons; (· first | exact .same | exact .cro | exact .nil))))) rfl rfl) rfl ?_
      refine aqs rfl (q_eql rfl rfl) rfl ?_
      refine alist_nil ?_
      show AWP _ _ _ _
      refine awp_cond rfl (fun hc5 => ?_) (fun hc5 => ?_)
      ·have hp : isPutC c = true := hc5
       rw [if_pos hp] at hs2
       have hgp : (atCells (s.at_.set w ((atOf s w).1, 2)))[2 * w]? = some (.lit (.int .i64 (atOf s w).1)) := by
        rw [at_fst (by rw [List.length_set]; exact hinv.la) hw4, at_set hinv.la hw4, if_pos rfl]; rfl
       obtain ⟨A, o, e, hpe⟩ : ∃ A o e, putS s.slots room (slotP c (atOf s w).1) = (A, o, e) := ⟨_, _, _, rfl⟩
       rw [hpe] at hs2
       simp only at hs2
       have hput2 := told_putC hinv.lt hw4 4 0 false
       refine awp_seq ?_
       refine awp_draw 20 [(0, false), (1, false), (2, false), (3, false), (4, false), (5, false), (6, false), (7, false), (8, false), (9, false), (10, false), (11, false), (12, false), (13, false), (14, false), (15, false), (16, false), (17, false), (18, false), (19, false)] _ ([]) mixed (by kernel_rfl) (perm0 _) ?_
       refine glq rfl (.inl ⟨rfl, q_mv (by constructor)⟩) rfl ?_
       refine glq rfl (.inl ⟨rfl, q_mv (by constructor)⟩) rfl ?_
       first | refine glq rfl (.inl ⟨rfl, q_ldpW ag29 sz29 rfl (by repeat (first | exact .here | assumption | (apply HAt.left; assumption) | apply HAt.there | apply HAt.right)) (by first | rfl | assumption | (simp [*]; done) | fail) (by first | rfl | assumption | (simp [*]; done) | fail) (by decide)⟩) rfl ?_ | refine glq rfl (.inl ⟨rfl, q_ldW ag29 sz29 rfl (by first | rfl | assumption | (simp [*]; done) | fail)⟩) rfl ?_ | refine glq rfl (.inl ⟨rfl, q_ldpP ag29 sz29 rfl (by repeat (first | exact .here | assumption | (apply HAt.left; assumption) | apply HAt.there | apply HAt.right)) (by first | rfl | assumption | (simp [*]; done) | fail) (by first | decide | (simp; done) | omega | fail) (by decide) (by first | ((repeat constructor); done) | exact .same _)⟩) rfl ?_ | refine glq rfl (.inl ⟨rfl, q_ldP ag29 sz29 rfl (by first | decide | (simp; done) | omega | fail) (by first | ((repeat constructor); done) | exact .same _)⟩) rfl ?_
       refine glq rfl (.inl ⟨rfl, q_mv (by constructor)⟩) rfl ?_
       refine glq rfl (.inl ⟨rfl, castQ (r2 := .ptr u9 0 (2 * w)) (q_iaA Try.underlying203 sz113 rfl rfl (by omega) (by omega) rfl) (by (rw [AV.ptr.injEq]; exact ⟨rfl, rfl, by simp; try omega⟩))⟩) rfl ?_
       refine glq rfl (.inl ⟨rfl, castQ (r2 := .ptr u9 0 (2 * w)) (q_iaA Try.underlying113 sz3 rfl rfl (by omega) (by omega) rfl) (by (rw [AV.ptr.injEq]; exact ⟨rfl, rfl, by simp; try omega⟩))⟩) rfl ?_
       first | refine glq rfl (.inl ⟨rfl, q_ldpN ag3 rfl (by repeat (first | exact .here | assumption | (apply HAt.left; assumption) | apply HAt.there | apply HAt.right)) (by first | rfl | assumption | (simp [*]; done) | fail) (by first | rfl | assumption | (simp [*]; done) | fail) (by constructor)⟩) rfl ?_ | refine glq rfl (.inl ⟨rfl, q_ld1N ag3 rfl (by constructor)⟩) rfl ?_
       first | refine glq rfl (.inl ⟨rfl, q_add64 rfl rfl (by omega) (by omega)⟩) rfl ?_ | refine glq rfl (.inl ⟨rfl, q_add rfl rfl⟩) rfl ?_
       refine glq rfl (.inl ⟨rfl, castQ (r2 := .lit (.int .u8 (1 + (atOf s w).1))) (q_conv rfl Try.underlying3 Try.underlying5) (by (congr 2; simp only [IntKind.wrap, IntKind.signed, IntKind.bits]; simp; omega))⟩) rfl ?_
       refine glq rfl (.inl ⟨rfl, q_bs Try.underlying35 sz5 zr5 rfl (by first | ((repeat constructor); done) | exact .same _) rfl (by decide) (by repeat (first | exact BS.nil | (apply BS.cons; (· constructor); (· rfl); (· rfl); (· rfl); (· exact (by first | ((repeat constructor); done) | exact .same _)))))⟩) rfl ?_
       refine glq rfl (.inl ⟨rfl, q_bstr (bs := [1 + (atOf s w).1]) Try.underlying35 Try.underlying5 Try.underlying9 (by first | exact .cro | exact .ro)⟩) rfl ?_
       refine glq rfl (.inl ⟨rfl, q_bd st40 zr40 (by first | ((repeat constructor); done) | exact .same _) (by repeat (first | exact BD.nil | (apply BD.cons; (· rfl); (· constructor); (· rfl); (· rfl); (· exact Nat.le_of_ble_eq_true (by rfl)); (· exact (by first | ((repeat constructor); done) | exact .same _)))))⟩) rfl ?_
       first | refine glq rfl (.inl ⟨rfl, e_callN cb58 (hpe ▸ put58_c s.slots (by omega) room (slotP c (atOf s w).1) _) rfl rfl⟩) rfl ?_ | refine glq rfl (.inl ⟨rfl, e_callN cb58 (ACall.arg (hpe ▸ put58_c s.slots (by omega) room (slotP c (atOf s w).1) _) (by repeat (first | exact ArgL.nil | (apply ArgL.cons; (· first | exact .same | exact .cro | exact .nil))))) rfl rfl⟩) rfl ?_
       refine glq rfl (.inl ⟨rfl, q_mv (by constructor)⟩) rfl ?_
       refine glq rfl (.inl ⟨rfl, q_ex rfl rfl (by constructor)⟩) rfl ?_
       refine glq rfl (.inl ⟨rfl, q_ex rfl rfl (by constructor)⟩) rfl ?_
       refine glq rfl (.inl ⟨rfl, q_ex rfl rfl (by constructor)⟩) rfl ?_
       refine glq rfl (.inl ⟨rfl, q_as (by constructor)⟩) rfl ?_
       refine glq rfl (.inl ⟨rfl, q_as (by constructor)⟩) rfl ?_
       refine glq rfl (.inl ⟨rfl, q_as (by constructor)⟩) rfl ?_
       (first | refine gld0 ?_ | refine gldA ?_)
       refine alist_nil ?_
       show AWP _ _ _ _
       refine awp_seq ?_
       refine awp_seq ?_
       refine awp_region ?_
       refine aqs rfl (q_mv (by constructor)) rfl ?_
       refine aqs rfl (q_eql rfl rfl) rfl ?_
       refine alist_nil ?_
       show AWP _ _ _ _
       refine awp_cond rfl (fun hc6 => ?_) (fun hc6 => ?_)
       ·have he : e = 0 := by simpa using hc6
        rw [if_pos he] at hs2
        refine awp_region ?_
        refine aqs rfl (q_mv (by constructor)) rfl ?_
        refine aqs rfl (q_as (by constructor)) rfl ?_
        refine alist_nil ?_
        show AWP _ _ _ _
        refine awp_seq ?_
        refine awp_region ?_
        refine aqs rfl (q_mv (by constructor)) rfl ?_
        refine aqs rfl (q_mv (by constructor)) rfl ?_
        refine aqs rfl (q_bd st108 zr108 (by first | ((repeat constructor); done) | exact .same _) (by repeat (first | exact BD.nil | (apply BD.cons; (· rfl); (· constructor); (· rfl); (· rfl); (· exact Nat.le_of_ble_eq_true (by rfl)); (· exact (by first | ((repeat constructor); done) | exact .same _)))))) rfl ?_
        refine aqs rfl (castQ (r2 := .ptr u10 0 (5 * w)) (q_iaA Try.underlying204 sz108 rfl rfl (by omega) (by omega) rfl) (by (rw [AV.ptr.injEq]; exact ⟨rfl, rfl, by simp; try omega⟩))) rfl ?_
        first | (refine aen rfl (e_stW sz108 rfl (by repeat (first | exact .here | assumption | (apply HAt.left; assumption) | apply HAt.there | apply HAt.right)) (by constructor) (by first | rfl | assumption | (simp [*]; done) | fail) rfl (by repeat (first | exact .here | apply HSet.there))) ?_; rintro _ _ ⟨rfl, rfl⟩) | (refine aen rfl (e_stP sz108 rfl (by repeat (first | exact .here | assumption | (apply HAt.left; assumption) | apply HAt.there | apply HAt.right)) (by first | rfl | assumption | (simp [*]; done) | fail) (by constructor) (by first | rfl | assumption | (simp [*]; done) | fail) rfl (by first | decide | omega) (by first | ((repeat constructor); done) | exact .same _) (by first | exact .one | exact .set) (by repeat (first | exact .here | apply HSet.there))) ?_; rintro _ _ ⟨rfl, rfl⟩)
        refine alist_nil ?_
        show AWP _ _ _ _
        rw [hput2]
        show AWP _ _ _ _
        refine awp_exit ?_
        show AWP _ _ _ _
        refine awp_region ?_
        refine aqs rfl (q_mv (by constructor)) rfl ?_
        first | refine aqs rfl (q_add64 rfl rfl (by omega) (by omega)) rfl ?_ | refine aqs rfl (q_add rfl rfl) rfl ?_
        refine aqs rfl (q_as (by constructor)) rfl ?_
        refine alist_nil ?_
        show ∃ y, _ ∧ _ ∧ _
        exact ⟨(i + 1, s2, _), ⟨by show i + 1 ≤ ds.length; omega, by show i + 1 ≤ 60; omega, hinv2, hnext.symm⟩, by show 60 - (i + 1) < 60 - i; omega, by simp only [hs2]; exact .mk' ⟨by rfl, by rfl, rfl, rfl, rfl, rfl, rfl, rfl, rfl, trivial⟩ (by repeat (first | exact List.Sublist.refl _ | exact List.nil_sublist _ | exact List.sublist_append_left _ _ | (apply List.Sublist.cons_cons) | (apply List.Sublist.cons)))⟩
       ·have he : ¬ e = 0 := by simpa using hc6
        rw [if_neg he] at hs2
        refine awp_skip ?_
        show AWP _ _ _ _
        refine awp_seq ?_
        refine awp_region ?_
        refine aqs rfl (q_mv (by constructor)) rfl ?_
        refine aqs rfl (q_mv (by constructor)) rfl ?_
        refine aqs rfl (q_bd st108 zr108 (by first | ((repeat constructor); done) | exact .same _) (by repeat (first | exact BD.nil | (apply BD.cons; (· rfl); (· constructor); (· rfl); (· rfl); (· exact Nat.le_of_ble_eq_true (by rfl)); (· exact (by first | ((repeat constructor); done) | exact .same _)))))) rfl ?_
        refine aqs rfl (castQ (r2 := .ptr u10 0 (5 * w)) (q_iaA Try.underlying204 sz108 rfl rfl (by omega) (by omega) rfl) (by (rw [AV.ptr.injEq]; exact ⟨rfl, rfl, by simp; try omega⟩))) rfl ?_
        first | (refine aen rfl (e_stW sz108 rfl (by repeat (first | exact .here | assumption | (apply HAt.left; assumption) | apply HAt.there | apply HAt.right)) (by constructor) (by first | rfl | assumption | (simp [*]; done) | fail) rfl (by repeat (first | exact .here | apply HSet.there))) ?_; rintro _ _ ⟨rfl, rfl⟩) | (refine aen rfl (e_stP sz108 rfl (by repeat (first | exact .here | assumption | (apply HAt.left; assumption) | apply HAt.there | apply HAt.right)) (by first | rfl | assumption | (simp [*]; done) | fail) (by constructor) (by first | rfl | assumption | (simp [*]; done) | fail) rfl (by first | decide | omega) (by first | ((repeat constructor); done) | exact .same _) (by first | exact .one | exact .set) (by repeat (first | exact .here | apply HSet.there))) ?_; rintro _ _ ⟨rfl, rfl⟩)
        refine alist_nil ?_
        show AWP _ _ _ _
        rw [hput2]
        show AWP _ _ _ _
        refine awp_exit ?_
        show AWP _ _ _ _
        refine awp_region ?_
        refine aqs rfl (q_mv (by constructor)) rfl ?_
        first | refine aqs rfl (q_add64 rfl rfl (by omega) (by omega)) rfl ?_ | refine aqs rfl (q_add rfl rfl) rfl ?_
        refine aqs rfl (q_as (by constructor)) rfl ?_
        refine alist_nil ?_
        show ∃ y, _ ∧ _ ∧ _
        exact ⟨(i + 1, s2, _), ⟨by show i + 1 ≤ ds.length; omega, by show i + 1 ≤ 60; omega, hinv2, hnext.symm⟩, by show 60 - (i + 1) < 60 - i; omega, by simp only [hs2]; exact .mk' ⟨by rfl, by rfl, rfl, rfl, rfl, rfl, rfl, rfl, rfl, trivial⟩ (by repeat (first | exact List.Sublist.refl _ | exact List.nil_sublist _ | exact List.sublist_append_left _ _ | (apply List.Sublist.cons_cons) | (apply List.Sublist.cons)))⟩
      ·have hp : ¬ isPutC c = true := by rw [show isPutC c = decide (pick c.a 2 = 0) from rfl, hc5]; simp
       rw [if_neg hp] at hs2
       obtain ⟨g, A, e, hge⟩ : ∃ g A e, getS s.slots ⟨keyC c, 0⟩ = (g, A, e) := ⟨_, _, _, rfl⟩
       rw [hge] at hs2
       simp only at hs2
       have hput2 := told_putC hinv.lt hw4 2 0 false
       have hput3 := told_putC (l := s.told.set w ⟨2, w, 0, 0, false⟩) (by rw [List.length_set]; exact hinv.lt) hw4 2 (byteAt g.val 0) true
       rw [List.set_set] at hput3
       have htl2 := told_len (l := s.told.set w ⟨2, w, 0, 0, false⟩) (by rw [List.length_set]; exact hinv.lt)
       have hby := byteAt_range g.val 0
       refine awp_skip ?_
       show AWP _ _ _ _
       refine awp_seq ?_
       refine awp_region ?_
       refine aqs rfl (q_mv (by constructor)) rfl ?_
       first | refine aqs rfl (q_ldpW ag29 sz29 rfl (by repeat (first | exact .here | assumption | (apply HAt.left; assumption) | apply HAt.there | apply HAt.right)) (by first | rfl | assumption | (simp [*]; done) | fail) (by first | rfl | assumption | (simp [*]; done) | fail) (by decide)) rfl ?_ | refine aqs rfl (q_ldW ag29 sz29 rfl (by first | rfl | assumption | (simp [*]; done) | fail)) rfl ?_ | refine aqs rfl (q_ldpP ag29 sz29 rfl (by repeat (first | exact .here | assumption | (apply HAt.left; assumption) | apply HAt.there | apply HAt.right)) (by first | rfl | assumption | (simp [*]; done) | fail) (by first | decide | (simp; done) | omega | fail) (by decide) (by first | ((repeat constructor); done) | exact .same _)) rfl ?_ | refine aqs rfl (q_ldP ag29 sz29 rfl (by first | decide | (simp; done) | omega | fail) (by first | ((repeat constructor); done) | exact .same _)) rfl ?_
       first | refine aqs rfl (e_callN cb54 (hge ▸ get54_c s.slots (by omega) ⟨keyC c, 0⟩ _) rfl rfl) rfl ?_ | refine aqs rfl (e_callN cb54 (ACall.arg (hge ▸ get54_c s.slots (by omega) ⟨keyC c, 0⟩ _) (by repeat (first | exact ArgL.nil | (apply ArgL.cons; (· first | exact .same | exact .cro | exact .nil))))) rfl rfl) rfl ?_
       refine aqs rfl (q_mv (by constructor)) rfl ?_
       refine aqs rfl (q_ex rfl rfl (by constructor)) rfl ?_
       refine aqs rfl (q_ex rfl rfl (by constructor)) rfl ?_
       refine aqs rfl (q_ex rfl rfl (by constructor)) rfl ?_
       (refine aes rfl (e_al (xs := [.lit (.int .u64 0), .lit (.int .i64 0), .lit (.string ⟨#[]⟩), .lit (.string ⟨#[]⟩), .lit (.string ⟨#[]⟩)]) (k := 5) zr40 (.same _) rfl) rfl ?_; rintro _ _ ⟨u21, rfl, rfl⟩)
       first | (refine aen rfl (e_stW sz40 rfl (by repeat (first | exact .here | assumption | (apply HAt.left; assumption) | apply HAt.there | apply HAt.right)) (by constructor) (by first | rfl | assumption | (simp [*]; done) | fail) rfl (by repeat (first | exact .here | apply HSet.there))) ?_; rintro _ _ ⟨rfl, rfl⟩) | (refine aen rfl (e_stP sz40 rfl (by repeat (first | exact .here | assumption | (apply HAt.left; assumption) | apply HAt.there | apply HAt.right)) (by first | rfl | assumption | (simp [*]; done) | fail) (by constructor) (by first | rfl | assumption | (simp [*]; done) | fail) rfl (by first | decide | omega) (by first | ((repeat constructor); done) | exact .same _) (by first | exact .one | exact .set) (by repeat (first | exact .here | apply HSet.there))) ?_; rintro _ _ ⟨rfl, rfl⟩)
       refine aqs rfl (q_as (by constructor)) rfl ?_
       refine aqs rfl (q_as (by constructor)) rfl ?_
       refine alist_nil ?_
       show AWP _ _ _ _
       refine awp_seq ?_
       refine awp_region ?_
       refine aqs rfl (q_mv (by constructor)) rfl ?_
       refine aqs rfl (q_mv (by constructor)) rfl ?_
       refine aqs rfl (q_bd st108 zr108 (by first | ((repeat constructor); done) | exact .same _) (by repeat (first | exact BD.nil | (apply BD.cons; (· rfl); (· constructor); (· rfl); (· rfl); (· exact Nat.le_of_ble_eq_true (by rfl)); (· exact (by first | ((repeat constructor); done) | exact .same _)))))) rfl ?_
       refine aqs rfl (castQ (r2 := .ptr u10 0 (5 * w)) (q_iaA Try.underlying204 sz108 rfl rfl (by omega) (by omega) rfl) (by (rw [AV.ptr.injEq]; exact ⟨rfl, rfl, by simp; try omega⟩))) rfl ?_
       first | (refine aen rfl (e_stW sz108 rfl (by repeat (first | exact .here | assumption | (apply HAt.left; assumption) | apply HAt.there | apply HAt.right)) (by constructor) (by first | rfl | assumption | (simp [*]; done) | fail) rfl (by repeat (first | exact .here | apply HSet.there))) ?_; rintro _ _ ⟨rfl, rfl⟩) | (refine aen rfl (e_stP sz108 rfl (by repeat (first | exact .here | assumption | (apply HAt.left; assumption) | apply HAt.there | apply HAt.right)) (by first | rfl | assumption | (simp [*]; done) | fail) (by constructor) (by first | rfl | assumption | (simp [*]; done) | fail) rfl (by first | decide | omega) (by first | ((repeat constructor); done) | exact .same _) (by first | exact .one | exact .set) (by repeat (first | exact .here | apply HSet.there))) ?_; rintro _ _ ⟨rfl, rfl⟩)
       refine alist_nil ?_
       show AWP _ _ _ _
       rw [hput2]
       show AWP _ _ _ _
       refine awp_seq ?_
       refine awp_mid [(143, .lit (.bool (decide (e = 0) && decide (0 < (g.val.size : Int))))), (22, .ro (A.map Slot.cells)), (21, .ptr u21 0 0), (13, .lit (.int .i64 w)), (12, .lit (.int .i64 i)), (11, .lit (.int .i64 s.next)), (9, .ptr u9 0 0), (10, .ptr u10 0 0), (8, .ro (s.slots.map Slot.cells)), (7, .sl u 0 s.out.length), (0, .ro (calls.map Tri.cells)), (1, .ro (ds.map cI)), (2, .lit (.int .i64 room))] ?_ ?_
       ·skip
        refine awp_region ?_
        all_goals (refine aqs rfl (q_mv (by constructor)) rfl ?_)
        all_goals (refine aqs rfl (q_eql rfl rfl) rfl ?_)
        all_goals (refine aqs rfl (q_mv (by constructor)) rfl ?_)
        all_goals try (refine acase (fun hb2 => ?_) (fun hb2 => ?_))
        all_goals first | (exfalso; cases hb2; done) | skip
        all_goals (first | refine ans rfl rfl ?_ | refine aqs rfl (q_fapP fl40_3 (by decide) rfl rfl) rfl ?_ | refine aqs rfl (q_faP fl40_3 (by decide) rfl (by first | ((repeat constructor); done) | exact .same _)) rfl ?_)
        all_goals (first | refine ans rfl rfl ?_ | refine aqs rfl (q_ldpN ag9 rfl (by repeat (first | exact .here | assumption | (apply HAt.left; assumption) | apply HAt.there | apply HAt.right)) (by first | rfl | assumption | (simp [*]; done) | fail) (by first | rfl | assumption | (simp [*]; done) | fail) (by constructor)) rfl ?_ | refine aqs rfl (q_ld1N ag9 rfl (by constructor)) rfl ?_)
        all_goals (first | refine ans rfl rfl ?_ | refine aqs rfl (q_lenS Try.underlying9 rfl) rfl ?_)
        all_goals (first | refine ans rfl rfl ?_ | refine aqs rfl (q_gtr rfl rfl) rfl ?_)
        all_goals (first | refine aqs rfl (q_pickT rfl (by constructor)) rfl ?_ | refine aqs rfl (q_pickF rfl (by constructor)) rfl ?_)
        all_goals (refine alist_nil ?_)
        all_goals (exact ⟨rfl, .mk' (by repeat (first | exact trivial | refine ⟨rfl, ?_⟩ | (refine ⟨?_, ?_⟩; (· first | (rw [hb2]; rfl) | fail)))) (by repeat (first | exact .refl _ | exact List.nil_sublist _ | exact List.sublist_append_left _ _ | apply List.Sublist.cons))⟩)
       refine awp_cond rfl (fun hc7 => ?_) (fun hc7 => ?_)
       ·have he : e = 0 ∧ 0 < g.val.size := by
         simp only [Bool.and_eq_true, decide_eq_true_eq] at hc7
         omega
        rw [if_pos he, gotEv, if_pos he] at hs2
        simp only [strVal_byte] at hs2
        have hgs : (0 : Int) < ((g, A, e) : Slot × List Slot × Int).1.val.size := by have := he.2; show (0 : Int) < (g.val.size : Nat); omega
        refine awp_seq ?_
        refine awp_region ?_
        refine aqs rfl (q_mv (by constructor)) rfl ?_
        refine aqs rfl (q_as (by constructor)) rfl ?_
        refine alist_nil ?_
        show AWP _ _ _ _
        refine awp_region ?_
        refine aqs rfl (q_mv (by constructor)) rfl ?_
        refine aqs rfl (q_mv (by constructor)) rfl ?_
        first | refine aqs rfl (q_fapP fl40_3 (by decide) rfl rfl) rfl ?_ | refine aqs rfl (q_faP fl40_3 (by decide) rfl (by first | ((repeat constructor); done) | exact .same _)) rfl ?_
        first | refine aqs rfl (q_ldpN ag9 rfl (by repeat (first | exact .here | assumption | (apply HAt.left; assumption) | apply HAt.there | apply HAt.right)) (by first | rfl | assumption | (simp [*]; done) | fail) (by first | rfl | assumption | (simp [*]; done) | fail) (by constructor)) rfl ?_ | refine aqs rfl (q_ld1N ag9 rfl (by constructor)) rfl ?_
        refine aqs rfl (castQ (r2 := .lit (.int .u8 (byteAt g.val 0))) (q_ixs Try.underlying9 rfl rfl (by omega) (by first | omega | assumption)) (by rfl)) rfl ?_
        first | refine aqs rfl (q_conv64 rfl Try.underlying5 Try.underlying3 (by omega) (by omega)) rfl ?_ | refine aqs rfl (q_conv rfl Try.underlying5 Try.underlying3) rfl ?_
        refine aqs rfl (q_bd st108 zr108 (by first | ((repeat constructor); done) | exact .same _) (by repeat (first | exact BD.nil | (apply BD.cons; (· rfl); (· constructor); (· rfl); (· rfl); (· exact Nat.le_of_ble_eq_true (by rfl)); (· exact (by first | ((repeat constructor); done) | exact .same _)))))) rfl ?_
        refine aqs rfl (castQ (r2 := .ptr u10 0 (5 * w)) (q_iaA Try.underlying204 sz108 rfl rfl (by omega) (by omega) rfl) (by (rw [AV.ptr.injEq]; exact ⟨rfl, rfl, by simp; try omega⟩))) rfl ?_
        first | (refine aen rfl (e_stW sz108 rfl (by repeat (first | exact .here | assumption | (apply HAt.left; assumption) | apply HAt.there | apply HAt.right)) (by constructor) (by first | rfl | assumption | (simp [*]; done) | fail) rfl (by repeat (first | exact .here | apply HSet.there))) ?_; rintro _ _ ⟨rfl, rfl⟩) | (refine aen rfl (e_stP sz108 rfl (by repeat (first | exact .here | assumption | (apply HAt.left; assumption) | apply HAt.there | apply HAt.right)) (by first | rfl | assumption | (simp [*]; done) | fail) (by constructor) (by first | rfl | assumption | (simp [*]; done) | fail) rfl (by first | decide | omega) (by first | ((repeat constructor); done) | exact .same _) (by first | exact .one | exact .set) (by repeat (first | exact .here | apply HSet.there))) ?_; rintro _ _ ⟨rfl, rfl⟩)
        refine alist_nil ?_
        show AWP _ _ _ _
        rw [hput3]
        show AWP _ _ _ _
        refine awp_exit ?_
        show AWP _ _ _ _
        refine awp_region ?_
        refine aqs rfl (q_mv (by constructor)) rfl ?_
        first | refine aqs rfl (q_add64 rfl rfl (by omega) (by omega)) rfl ?_ | refine aqs rfl (q_add rfl rfl) rfl ?_
        refine aqs rfl (q_as (by constructor)) rfl ?_
        refine alist_nil ?_
        show ∃ y, _ ∧ _ ∧ _
        exact ⟨(i + 1, s2, _), ⟨by show i + 1 ≤ ds.length; omega, by show i + 1 ≤ 60; omega, hinv2, hnext.symm⟩, by show 60 - (i + 1) < 60 - i; omega, by simp only [hs2]; exact .mk' ⟨by rfl, by rfl, rfl, rfl, rfl, rfl, rfl, rfl, rfl, trivial⟩ (by repeat (first | exact List.Sublist.refl _ | exact List.nil_sublist _ | exact List.sublist_append_left _ _ | (apply List.Sublist.cons_cons) | (apply List.Sublist.cons)))⟩
       ·have he : ¬ (e = 0 ∧ 0 < g.val.size) := by
         simp only [Bool.and_eq_false_iff, decide_eq_false_iff_not] at hc7
         omega
        rw [if_neg he, gotEv, if_neg he] at hs2
        refine awp_skip ?_
        show AWP _ _ _ _
        refine awp_exit ?_
        show AWP _ _ _ _
        refine awp_region ?_
        refine aqs rfl (q_mv (by constructor)) rfl ?_
        first | refine aqs rfl (q_add64 rfl rfl (by omega) (by omega)) rfl ?_ | refine aqs rfl (q_add rfl rfl) rfl ?_
        refine aqs rfl (q_as (by constructor)) rfl ?_
        refine alist_nil ?_
        show ∃ y, _ ∧ _ ∧ _
        exact ⟨(i + 1, s2, _), ⟨by show i + 1 ≤ ds.length; omega, by show i + 1 ≤ 60; omega, hinv2, hnext.symm⟩, by show 60 - (i + 1) < 60 - i; omega, by simp only [hs2]; exact .mk' ⟨by rfl, by rfl, rfl, rfl, rfl, rfl, rfl, rfl, rfl, trivial⟩ (by repeat (first | exact List.Sublist.refl _ | exact List.nil_sublist _ | exact List.sublist_append_left _ _ | (apply List.Sublist.cons_cons) | (apply List.Sublist.cons)))⟩
     ·have h1 : ¬ (atOf s w).2 = 1 := by simpa using hc4
      rw [if_neg h1] at hs2
      have hput := at_put1C hinv.la hw4 0
      have hes := ev_app s.out (s.told.getD w zeroEv)
      have hml := ev_len s.out (s.told.getD w zeroEv)
      refine awp_skip ?_
      show AWP _ _ _ _
      refine awp_seq ?_
      refine awp_region ?_
      refine aqs rfl (q_mv (by constructor)) rfl ?_
      refine aqs rfl (q_mv (by constructor)) rfl ?_
      refine aqs rfl (castQ (r2 := .ptr u10 0 (5 * w)) (q_iaA Try.underlying204 sz108 rfl rfl (by omega) (by omega) rfl) (by (rw [AV.ptr.injEq]; exact ⟨rfl, rfl, by simp; try omega⟩))) rfl ?_
      first | refine aqs rfl (castQ (r2 := .agg (s.told.getD w zeroEv).cells) (q_ldpW ag108 sz108 rfl (by repeat (first | exact .here | assumption | (apply HAt.left; assumption) | apply HAt.there | apply HAt.right)) (by first | rfl | assumption | (simp [*]; done) | fail) (by first | rfl | assumption | (simp [*]; done) | fail) (by decide)) (by rw [told_get hinv.lt hw4])) rfl ?_ | refine aqs rfl (castQ (r2 := .agg (s.told.getD w zeroEv).cells) (q_ldW ag108 sz108 rfl (by first | rfl | assumption | (simp [*]; done) | fail)) (by rw [told_get hinv.lt hw4])) rfl ?_ | refine aqs rfl (castQ (r2 := .agg (s.told.getD w zeroEv).cells) (q_ldpP ag108 sz108 rfl (by repeat (first | exact .here | assumption | (apply HAt.left; assumption) | apply HAt.there | apply HAt.right)) (by first | rfl | assumption | (simp [*]; done) | fail) (by first | decide | (simp; done) | omega | fail) (by decide) (by first | ((repeat constructor); done) | exact .same _)) (by rw [told_get hinv.lt hw4])) rfl ?_ | refine aqs rfl (castQ (r2 := .agg (s.told.getD w zeroEv).cells) (q_ldP ag108 sz108 rfl (by first | decide | (simp; done) | omega | fail) (by first | ((repeat constructor); done) | exact .same _)) (by rw [told_get hinv.lt hw4])) rfl ?_
      first | refine aqs rfl (q_bs Try.underlying88 sz108 zr108 rfl (by first | ((repeat constructor); done) | exact .same _) rfl (by decide) (by repeat (first | exact BS.nil | (apply BS.cons; (· constructor); (· rfl); (· rfl); (· rfl); (· exact (by first | ((repeat constructor); done) | exact .same _)))))) rfl ?_ | (refine aes rfl (e_bs Try.underlying88 sz108 zr108 rfl (by first | ((repeat constructor); done) | exact .same _) rfl (by decide) (by repeat (first | exact BS.nil | (apply BS.cons; (· constructor); (· rfl); (· rfl); (· rfl); (· exact (by first | ((repeat constructor); done) | exact .same _)))))) rfl ?_; rintro _ _ ⟨u157, rfl, rfl⟩)
      first | refine aqs rfl (q_apC Try.underlying88 sz108 by108 zr108 (.inl rfl) (by first | exact .ro | exact .cro | exact .nil | exact SV.slA (by repeat (first | exact .here | assumption | (apply HAt.left; assumption) | apply HAt.there | apply HAt.right)) (by first | rfl | (simp; done) | (simp; omega) | (simp [*]; done) | fail)) (by first | assumption | (intro c hc; simp at hc; subst hc; rfl) | (simp; done) | fail) (by first | assumption | (intro c hc; simp at hc; subst hc; rfl) | (simp; done) | fail) (by first | omega | decide | (simp; omega) | assumption | fail) (by decide) (by decide) rfl (by first | rfl | (simp; done) | fail)) rfl ?_ | refine aqs rfl (q_apC Try.underlying88 sz108 by108 zr108 (.inr ⟨rfl, rfl⟩) (by first | exact .ro | exact .cro | exact .nil | exact SV.slA (by repeat (first | exact .here | assumption | (apply HAt.left; assumption) | apply HAt.there | apply HAt.right)) (by first | rfl | (simp; done) | (simp; omega) | (simp [*]; done) | fail)) (by first | assumption | (intro c hc; simp at hc; subst hc; rfl) | (simp; done) | fail) (by first | assumption | (intro c hc; simp at hc; subst hc; rfl) | (simp; done) | fail) (by first | omega | decide | (simp; omega) | assumption | fail) (by decide) (by decide) rfl (by first | rfl | (simp; done) | fail)) rfl ?_ | (refine aes rfl (e_apO Try.underlying88 sz108 by108 zr108 rfl (by repeat (first | exact .here | assumption | (apply HAt.left; assumption) | apply HAt.there | apply HAt.right)) (by rw [List.length_map]; exact Nat.le_refl _) (by first | exact .ro | exact .cro | exact .nil | exact SV.slA (by repeat (first | exact .here | assumption | (apply HAt.left; assumption) | apply HAt.there | apply HAt.right)) (by first | rfl | (simp; done) | (simp; omega) | (simp [*]; done) | fail)) (by first | assumption | (intro c hc; simp at hc; subst hc; rfl) | (simp; done) | fail) (by first | assumption | (intro c hc; simp at hc; subst hc; rfl) | (simp; done) | fail) (by first | assumption | (intro c hc; simp at hc; subst hc; rfl) | (simp; done) | fail) (by first | (simp; done) | (simp; omega) | omega | fail) (by decide) (by decide) rfl (by exact hml) hes (fun v => (by repeat (first | exact .here | apply HSet.there)))) rfl ?_; rintro _ _ ⟨u158, rfl, rfl⟩) | (refine aes rfl (e_apN Try.underlying88 sz108 by108 zr108 rfl (by first | exact .ro | exact .cro | exact .nil | exact SV.slA (by repeat (first | exact .here | assumption | (apply HAt.left; assumption) | apply HAt.there | apply HAt.right)) (by first | rfl | (simp; done) | (simp; omega) | (simp [*]; done) | fail)) (by first | assumption | (intro c hc; simp at hc; subst hc; rfl) | (simp; done) | fail) (by first | assumption | (intro c hc; simp at hc; subst hc; rfl) | (simp; done) | fail) (by first | (simp; done) | (simp; omega) | omega | fail) (by decide) (by decide) rfl rfl) rfl ?_; rintro _ _ ⟨u158, rfl, rfl⟩)
      refine aqs rfl (q_as (by constructor)) rfl ?_
      refine alist_nil ?_
      show AWP _ _ _ _
      refine awp_region ?_
      refine aqs rfl (q_mv (by constructor)) rfl ?_
      refine aqs rfl (castQ (r2 := .ptr u9 0 (2 * w)) (q_iaA Try.underlying203 sz113 rfl rfl (by omega) (by omega) rfl) (by (rw [AV.ptr.injEq]; exact ⟨rfl, rfl, by simp; try omega⟩))) rfl ?_
      refine aqs rfl (castQ (r2 := .ptr u9 0 (2 * w + 1)) (q_iaA Try.underlying113 sz3 rfl rfl (by omega) (by omega) rfl) (by (rw [AV.ptr.injEq]; exact ⟨rfl, rfl, by simp; try omega⟩))) rfl ?_
      first | (refine aen rfl (e_stW sz3 rfl (by repeat (first | exact .here | assumption | (apply HAt.left; assumption) | apply HAt.there | apply HAt.right)) (by constructor) (by first | rfl | assumption | (simp [*]; done) | fail) rfl (by repeat (first | exact .here | apply HSet.there))) ?_; rintro _ _ ⟨rfl, rfl⟩) | (refine aen rfl (e_stP sz3 rfl (by repeat (first | exact .here | assumption | (apply HAt.left; assumption) | apply HAt.there | apply HAt.right)) (by first | rfl | assumption | (simp [*]; done) | fail) (by constructor) (by first | rfl | assumption | (simp [*]; done) | fail) rfl (by first | decide | omega) (by first | ((repeat constructor); done) | exact .same _) (by first | exact .one | exact .set) (by repeat (first | exact .here | apply HSet.there))) ?_; rintro _ _ ⟨rfl, rfl⟩)
      refine alist_nil ?_
      show AWP _ _ _ _
      rw [hput]
      show AWP _ _ _ _
      refine awp_region ?_
      refine aqs rfl (q_mv (by constructor)) rfl ?_
      first | refine aqs rfl (q_add64 rfl rfl (by omega) (by omega)) rfl ?_ | refine aqs rfl (q_add rfl rfl) rfl ?_
      refine aqs rfl (q_as (by constructor)) rfl ?_
      refine alist_nil ?_
      show ∃ y, _ ∧ _ ∧ _
      exact ⟨(i + 1, s2, _), ⟨by show i + 1 ≤ ds.length; omega, by show i + 1 ≤ 60; omega, hinv2, hnext.symm⟩, by show 60 - (i + 1) < 60 - i; omega, by simp only [hs2]; exact .mk' ⟨by rfl, by rfl, rfl, rfl, rfl, rfl, rfl, rfl, rfl, trivial⟩ (by repeat (first | exact List.Sublist.refl _ | exact List.nil_sublist _ | exact List.sublist_append_left _ _ | (apply List.Sublist.cons_cons) | (apply List.Sublist.cons)))⟩
   ·simp only [Bool.and_eq_false_iff, decide_eq_false_iff_not, List.length_map] at hc0
    have e : s = playS calls room ds := by
     rw [hs, playS]
     rcases hc0 with h | h
     ·rw [List.take_of_length_le (show ds.length ≤ i by omega), List.take_of_length_le (show ds.length ≤ 60 by omega)]
     ·rw [show i = 60 by omega]
    rw [← e]
    refine awp_exit ?_
    show AWP _ _ _ _
    refine awp_seq ?_
    refine awp_region ?_
    refine aqs rfl (q_mv (by constructor)) rfl ?_
    refine aqs rfl (q_as (by constructor)) rfl ?_
    refine alist_nil ?_
    show AWP _ _ _ _
    refine awp_pub (u := u) (by repeat (first | exact .here | assumption | (apply HAt.left; assumption) | apply HAt.there | apply HAt.right)) (by repeat (first | exact PubT.nil | (apply PubT.cons; (· first | exact .one (pub_all (by first | rfl | (simp; done) | (simp; omega) | (simp [*]; done) | fail)) | exact .one .same)) | exact PubT.same)) (by repeat (first | exact PubH.drop .same | (apply PubH.cons; (· exact .same)))) ?_
    show AWP _ _ _ _
    refine awp_ret ?_
    repeat first | with_reducible refine then_ret ?_ | with_reducible refine blk_ret ?_
    apply retq (.inr rfl) (.cons (rok_t rfl) .nil)
    rotate_left
    ·exact ⟨rfl, rfl⟩
    repeat (first | exact List.Sublist.refl _ | exact List.nil_sublist _ | exact List.sublist_append_left _ _ | apply List.Sublist.cons)
end Go.Proofs.YtdlinfekifnmkaaAm
