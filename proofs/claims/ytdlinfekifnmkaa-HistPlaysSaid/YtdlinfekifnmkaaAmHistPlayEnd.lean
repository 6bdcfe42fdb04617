/- The plain laws of layer 21, sixth part: what is told at the end of a play. Conditions: none. -/
import Derived.Test.YtdlinfekifnmkaaAmHistPlayInv
import Derived.Test.YtdlinfekifnmkaaAmHistG
set_option linter.unusedVariables false
set_option linter.unusedSimpArgs false
set_option maxRecDepth 20000
namespace Go.Proofs.YtdlinfekifnmkaaAm
open Go.Proofs
theorem strNum_size (n : Int) : (strOfNums [n]).size = 1 := by simp [strOfNums, ByteArray.size]
theorem strNum_val {n : Int} (h0 : 0 ≤ n) (h1 : n ≤ 255) : strVal (strOfNums [n]) = n := by
  obtain ⟨m, rfl⟩ : ∃ m : Nat, n = m := ⟨n.toNat, by omega⟩
  simp [strVal, strOfNums]
  omega
structure Played (calls : List Tri) (room : Int) (s : PS) : Prop where
  ex : ∃ cs D E T S, HInv calls s cs D E T ∧ LInv room s.slots D E S
  vs : ∀ x ∈ s.slots, 0 < x.val.size
theorem played0 (calls : List Tri) {room : Int} (hr : 0 ≤ room) : Played calls room play0 :=
  ⟨⟨[], [], fun _ => zeroCall, fun _ => 0, fun _ => [], hinv0 calls, linv0 hr⟩, fun x hx => by simp [play0] at hx⟩
theorem frm_lt {calls : List Tri} {s : PS} {cs : List Call} {D : List Nat} {E : Nat → Call} {T : Nat → Nat} (h : HInv calls s cs D E T) :
    ∀ j, j < cs.length → (nth cs j).frm < s.out.length ∧ (0 ≤ (nth cs j).to → (nth cs j).frm < (nth cs j).to) := by
  intro j hj
  have h0 : (callsGo [] 0 s.out).2 = 0 := by rw [h.go]
  have e : stAt s.out s.out.length = cs := by rw [st_all, h.go]
  have := st_inv h0 s.out.length (Nat.le_refl _) j (by rw [e]; exact hj)
  rw [e] at this
  exact ⟨this.2.2.2.1, fun ht => (this.2.1 ht).1⟩
theorem played_step {calls : List Tri} {room : Int} {s : PS} (hr : 0 ≤ room) (h : Played calls room s) {w : Nat} (hw : w < 4) : Played calls room (playStep calls room s w) := by
  obtain ⟨⟨cs, D, E, T, S, hH, hL⟩, hvs⟩ := h
  obtain ⟨q0, q⟩ := hH.ph w hw
  unfold playStep
  split
  · rename_i h0
    split
    · rename_i hn
      exact ⟨⟨_, D, E, T, S, hinv_new hH hw h0 hn.2, hL⟩, hvs⟩
    · exact ⟨⟨cs, D, E, T, S, hH, hL⟩, hvs⟩
  · rename_i h0
    split
    · rename_i h1
      obtain ⟨hu, hd⟩ : Under cs w (atOf s w).1.toNat ∧ (atOf s w).1.toNat ∉ D := by
        rcases q with ⟨q1, _⟩ | ⟨_, q2⟩ | ⟨q1, _⟩
        · exact absurd q1 h0
        · exact q2
        · rw [h1] at q1; cases q1
      have hi8 : (atOf s w).1 < 8 := by
        have := hu.1
        have := hH.len
        have := hH.n8
        omega
      obtain ⟨c, hc⟩ : ∃ c, c = callAt calls (atOf s w).1.toNat := ⟨_, rfl⟩
      have hfr := fun j hj => (frm_lt hH j hj).1
      rw [← hc]
      split
      · rename_i hp
        have hval : strVal (slotP c (atOf s w).1).val = 1 + (atOf s w).1 := strNum_val (by omega) (by omega)
        have hl2 := linv_put hL hr hd (sl := slotP c (atOf s w).1) (key := keyC c) rfl hval
        have hh2 := hinv_done hH hw h1 (slots' := (putS s.slots room (slotP c (atOf s w).1)).1) (e := ⟨true, 0, keyC c, 1 + (atOf s w).1, false, 0, 0⟩) ⟨rfl, rfl, rfl⟩ (by rw [← hc, hp]) (by rw [← hc]) (fun _ => ⟨rfl, rfl⟩) (fun _ h => by cases h) hfr
        rw [if_pos (putS_err room _ hL.right)]
        refine ⟨⟨cs, _, _, _, _, hh2, hl2⟩, fun x hx => ?_⟩
        have hx : x ∈ (putS s.slots room (slotP c (atOf s w).1)).1 := hx
        rw [putS, if_neg (by rw [hL.right]; simp)] at hx
        rcases List.mem_cons.1 (List.mem_of_mem_take hx) with rfl | hx
        · show 0 < (strOfNums _).size
          rw [strNum_size]; decide
        · exact hvs x (List.mem_filter.1 hx).1
      · rename_i hp
        have hpf : isPutC c = false := by simpa using hp
        rcases getS_cases (k := ⟨keyC c, 0⟩) hL.right with ⟨hg, hn⟩ | ⟨t, ht, htk, hg⟩
        · rw [hg]
          have hl2 := linv_miss hL hd (key := keyC c) hn
          have hh2 := hinv_done hH hw h1 (slots' := s.slots) (e := ⟨false, 0, keyC c, 0, false, 0, 0⟩) ⟨rfl, rfl, rfl⟩ (by rw [← hc, hpf]) (by rw [← hc]) (fun h => by cases h) (fun _ _ => rfl) hfr
          rw [if_neg (by simp)]
          have e : gotEv w (zeroSlot, [], 10) = tellOf w ⟨false, 0, keyC c, 0, false, 0, 0⟩ := by simp [gotEv, tellOf]
          rw [e]
          exact ⟨⟨cs, _, _, _, _, hh2, hl2⟩, hvs⟩
        · rw [hg]
          have hl2 := linv_hit hL hd ht htk
          have hh2 := hinv_done hH hw h1 (slots' := t :: without s.slots ⟨keyC c, 0⟩) (e := ⟨false, 0, keyC c, strVal t.val, true, 0, 0⟩) ⟨rfl, rfl, rfl⟩ (by rw [← hc, hpf]) (by rw [← hc]) (fun h => by cases h) (fun h => by cases h) hfr
          have htv := hvs t ht
          rw [if_pos ⟨rfl, htv⟩]
          have e : gotEv w (t, t :: without s.slots ⟨keyC c, 0⟩, 0) = tellOf w ⟨false, 0, keyC c, strVal t.val, true, 0, 0⟩ := by simp [gotEv, tellOf, htv]
          rw [e]
          refine ⟨⟨cs, _, _, _, _, hh2, hl2⟩, fun x hx => ?_⟩
          rcases List.mem_cons.1 hx with rfl | hx
          · exact htv
          · exact hvs x (List.mem_filter.1 hx).1
    · rename_i h1
      obtain ⟨cs', hh⟩ := hinv_told hH hw h0 h1
      exact ⟨⟨cs', D, E, T, S, hh, hL⟩, hvs⟩
theorem played_fold {calls : List Tri} {room : Int} (hr : 0 ≤ room) : ∀ (ds : List Int) {s : PS}, Played calls room s → Played calls room (ds.foldl (fun s c => playStep calls room s (pick c 4).toNat) s)
  | [], s, h => h
  | c :: ds, s, h => by
    have h0 := pick_nonneg c 4 (by omega)
    have h1 := pick_lt c 4 (by omega)
    exact played_fold hr ds (played_step hr h (by omega))
theorem pinv_fold {calls : List Tri} {room : Int} : ∀ (ds : List Int) {s : PS} {i : Nat}, PInv calls s i → PInv calls (ds.foldl (fun s c => playStep calls room s (pick c 4).toNat) s) (i + ds.length)
  | [], s, i, h => h
  | c :: ds, s, i, h => by
    have h0 := pick_nonneg c 4 (by omega)
    have h1 := pick_lt c 4 (by omega)
    have := pinv_fold (room := room) ds (pinv_step (room := room) h (w := (pick c 4).toNat) (by omega))
    rw [List.length_cons, show i + (ds.length + 1) = i + 1 + ds.length by omega]
    exact this
/-- What HistPlays asks. -/
theorem plays_law (calls : List Tri) (order : List Int) {room more : Int} (hr : 0 ≤ room) (hm : 0 ≤ more) :
    ∃ cs, callsS (playS calls room order).out = (cs, 0) ∧ cs.length ≤ 8 ∧ (playS calls room order).out.length ≤ 60 ∧ linearS cs room = (true, 0) ∧ linearS cs (room + more) = (true, 0) := by
  obtain ⟨⟨cs, D, E, T, S, hH, hL⟩, _⟩ := played_fold (calls := calls) hr (order.take 60) (played0 calls hr)
  have hp := pinv_fold (room := room) (order.take 60) (pinv0 calls)
  have hlen : (playS calls room order).out.length ≤ 60 := by
    have := hp.outl
    rw [List.length_take] at this
    show (playS calls room order).out.length ≤ 60
    unfold playS
    omega
  have h8 : cs.length ≤ 8 := by rw [hH.len]; exact hH.n8
  have hft := fun j hj => (frm_lt hH j hj).2
  have hlin := hinv_linear hH hL hft
  have h0 : (callsGo [] 0 (playS calls room order).out).2 = 0 := by
    have := hH.go
    unfold playS
    rw [this]
  have hmay : ∀ j, j < cs.length → mayC (nth cs j) = true := by
    intro j hj
    have e : stAt (playS calls room order).out (playS calls room order).out.length = cs := by
      rw [st_all]; unfold playS; rw [hH.go]
    have := st_inv h0 (playS calls room order).out.length (Nat.le_refl _) j (by rw [e]; exact hj)
    rw [e] at this
    have hb := bad_may (nth cs j)
    have hb2 : bad86 (nth cs j) = false := by
      simp only [bad86, Bool.or_eq_false_iff, Bool.and_eq_false_iff, decide_eq_false_iff_not]
      have h1 := this.2.1
      have h2 := this.2.2
      by_cases ht : 0 ≤ (nth cs j).to
      · have := (h1 ht).1; omega
      · omega
    rw [hb2] at hb
    simpa using hb.symm
  have hlin2 : linear cs (room + more) = true := by
    refine linear_map (c := cs) (d := cs) (r := room) (fun i => i) (fun i => i) (by omega) (fun i hi => ⟨hi, rfl⟩) (fun i hi => ⟨hi, rfl⟩) (fun i hi => rfl) (fun i hi => Iff.rfl) (fun k i hk hi hb => hb) hlin
  refine ⟨cs, ?_, h8, hlen, ?_, ?_⟩
  · rw [callsS_short (by omega)]; exact hH.go
  · rw [linS_ok hmay (by omega), hlin]
  · rw [linS_ok hmay (by omega), hlin2]
end Go.Proofs.YtdlinfekifnmkaaAm
