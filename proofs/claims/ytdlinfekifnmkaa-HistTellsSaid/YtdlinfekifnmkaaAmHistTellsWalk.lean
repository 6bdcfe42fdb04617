/- The walk of HistTells. Conditions: none. -/
import Derived.Test.YtdlinfekifnmkaaAmHistK
set_option linter.unusedVariables false
set_option linter.unusedSimpArgs false
set_option maxRecDepth 20000
namespace Go.Proofs.YtdlinfekifnmkaaAm
open Go.Proofs
theorem eop_pub {P : Program} {o : Oper} {ev : Operand → AV} {H : Heap} {n size : Nat} {e : TypeId} {es : List (List AV)} (hn : n = es.length) (h : EOp P o ev H (fun r H' => ∃ u, r = .sl u 0 n ∧ H' = [(u, .arr e size es)])) : EOp P o ev H (fun r H' => r = .ro es ∧ H' = []) := by
  intro C a ok hh hx next Q hnx
  refine h C a ok hh hx next Q fun C' v r H' hR ok' hl hnew hh' hv => ?_
  obtain ⟨u, rfl, rfl⟩ := hR
  have ho : ObRel C' u (.arr e size es) := hh'.ob u _ (by simp)
  have hw := hnew u (by simp [Heap.M])
  exact hnx (C'.free u) v (.ro es) [] ⟨rfl, rfl⟩ (free_ok ok' u) (hl.trans ok (free_le C' u) (fun w hw2 => by subst hw2; exact hw)) (fun w hw2 => by simp [Heap.M] at hw2) ⟨List.nodup_nil, fun v q hvq => by cases hvq⟩ (pubV_rv ok' ho (.one (pub_all hn)) hv)
theorem e_apP {P : Program} {d : Option Tmp} {ty : TypeId} {pos : String} {af : Array Edge} {g : Option (Nat × Bool)} {ev : Operand → AV} {tt e : TypeId} {s x : Operand} {u sz by_ : Nat} {zs : List Value} {es es2 es3 : List (List AV)} (ht : P.underlying tt = some (.slice e)) (hsz : szOf P e = some sz) (hby : byOf P e = some by_) (hz : zeroOf P e = some zs)
    (hs : ev s = .sl u 0 es.length) (hx : ev x = .ro es2) (hes2 : ∀ c ∈ es2, c.length = sz) (hok : ∀ c ∈ es2, c.all cell1 = true) (hok1 : ∀ c ∈ es, c.all cell1 = true)
    (hbytes : (es.length - 0 + es2.length) * by_ ≤ 140737488355328) (hz0 : 0 < sz) (hby0 : 0 < by_) (hzl : zs.length = sz) (h3 : es ++ es2 = es3) :
    EOp P ⟨d, .call { callee := .builtin .append, args := #[s, x], argTypes := #[tt, tt] }, ty, pos, af, g⟩ ev [(u, .arr e sz es)] (fun r H' => r = .ro es3 ∧ H' = []) := by
  subst h3
  exact eop_pub (n := es.length - 0 + es2.length) (by simp) (e_apO ht hsz hby hz hs .here (Nat.le_refl _) (by rw [hx]; exact .ro) hes2 hok hok1 hbytes hz0 hby0 hzl rfl (by rw [List.take_length]; rfl) (fun v => .here))
theorem step_len (out : List Call) (i : Nat) (x : Event) : (callStep out i x).1.length ≤ out.length + 1 := by
  unfold callStep
  split
  · simp
  · split
    · split <;> simp
    · split
      · simp
      · split <;> simp
theorem go_len : ∀ (l : List Event) (out : List Call) (i : Nat), (callsGo out i l).1.length ≤ out.length + l.length
  | [], out, i => by simp [callsGo]
  | x :: l, out, i => by
    have h1 := step_len out i x
    have h2 := go_len l (callStep out i x).1 (i + 1)
    rw [callsGo]
    split
    · simp only [List.length_cons]; omega
    · simp only [List.length_cons]; omega
theorem callsS_len (l : List Event) : (callsS l).1.length ≤ l.length := by
  unfold callsS
  split
  · simp
  · have := go_len l [] 0
    simpa using this
def evRow (l : List Event) : List AV := [.ro (l.map Event.cells)]
def csRow (l : List Call) : List AV := [.ro (l.map Call.cells)]
theorem three {α : Type} {a b c x : α} (h : x ∈ [a, b, c]) : x = a ∨ x = b ∨ x = c := by simpa using h
set_option maxHeartbeats 16000000 in
theorem walkHistTells (ev : List Event) (raw : List Quad) (cs : List Call) (raw2 : List Quad) (room : Int) (wev : (∀ y ∈ ev, y.Wf) ∧ ev.length ≤ 9223372036854775807) (wraw : (∀ y ∈ raw, y.Wf) ∧ raw.length ≤ 9223372036854775807) (wcs : (∀ y ∈ cs, y.Wf) ∧ cs.length ≤ 9223372036854775807) (wraw2 : (∀ y ∈ raw2, y.Wf) ∧ raw2.length ≤ 9223372036854775807) (wroom : -9223372036854775808 ≤ room ∧ room ≤ 9223372036854775807) :
    QCall Try.prog 18 [.ro (ev.map Event.cells), .ro (raw.map Quad.cells), .ro (cs.map Call.cells), .ro (raw2.map Quad.cells), .lit (.int .i64 room)] [] (.lit (.bool true)) := by
  obtain ⟨l, hl⟩ : ∃ l, l = eventsS (raw.take 40) := ⟨_, rfl⟩
  have hll : l.length ≤ 40 := hl ▸ eventsS_len raw 40
  have hevl : (ev.map Event.cells).length = ev.length := List.length_map ..
  have hcsl : (cs.map Call.cells).length = cs.length := List.length_map ..
  obtain ⟨m, hm⟩ : ∃ m, m = min ev.length 12 := ⟨_, rfl⟩
  obtain ⟨k, hk⟩ : ∃ k, k = min cs.length 4 := ⟨_, rfl⟩
  obtain ⟨q, hq⟩ : ∃ q, q = listOf raw2 6 := ⟨_, rfl⟩
  have hql : q.length ≤ 6 := hq ▸ listOf_len raw2 6
  obtain ⟨j, hj⟩ : ∃ j, j = min q.length 2 := ⟨_, rfl⟩
  have hqcl : (q.map Call.cells).length = q.length := List.length_map ..
  obtain ⟨Es, hEs⟩ : ∃ Es, Es = [ev.take m, l, l ++ ev.take m] := ⟨_, rfl⟩
  have hE : ([[.ro ((ev.take m).map Event.cells)], [.ro (l.map Event.cells)], [.ro ((l ++ ev.take m).map Event.cells)]] : List (List AV)) = Es.map evRow := by rw [hEs]; rfl
  have hEl : Es.length = 3 := by rw [hEs]; rfl
  have hEb : ∀ x ∈ Es, x.length ≤ 100 := by
    intro x hx
    rw [hEs] at hx
    rcases three hx with h | h | h <;> rw [h] <;> (try simp only [List.length_append, List.length_take]) <;> omega
  obtain ⟨Cs, hCs⟩ : ∃ Cs, Cs = [cs.take k, q, cs.take k ++ q.take j] := ⟨_, rfl⟩
  have hC : ([[.ro ((cs.take k).map Call.cells)], [.ro (q.map Call.cells)], [.ro ((cs.take k ++ q.take j).map Call.cells)]] : List (List AV)) = Cs.map csRow := by rw [hCs]; rfl
  have hCl : Cs.length = 3 := by rw [hCs]; rfl
  have hCb : ∀ x ∈ Cs, x.length ≤ 100 := by
    intro x hx
    rw [hCs] at hx
    rcases three hx with h | h | h <;> rw [h] <;> (try simp only [List.length_append, List.length_take]) <;> omega
  have hes1 : l.map Event.cells ++ (ev.take m).map Event.cells = (l ++ ev.take m).map Event.cells := by simp
  have hes2 : (cs.take k).map Call.cells ++ (q.take j).map Call.cells = (cs.take k ++ q.take j).map Call.cells := by simp
  have hb1 : ((l.map Event.cells).length - 0 + ((ev.take m).map Event.cells).length) * 40 ≤ 140737488355328 := by simp; omega
  have u1 := lenEvent l
  have u2 := oneEvent l
  have u3 := lenCall (cs.take k)
  have u4 := oneCall (cs.take k)
  refine acall_intro (n := 179) (rvs := [.tmp 10]) Try.func18 rfl rfl rfl (Nat.le_of_ble_eq_true rfl) ?_
  refine awp_seq ?_
  refine awp_region ?_
  refine aqs rfl (q_as (by constructor)) rfl ?_
  refine alist_nil ?_
  show AWP _ _ _ _
  refine awp_seq ?_
  refine awp_region ?_
  first | refine aqs rfl (e_callN cb78 (QCall.any _ awake78_c) rfl rfl) rfl ?_ | refine aqs rfl (e_callN cb78 (ACall.arg (QCall.any _ awake78_c) (by repeat (first | exact ArgL.nil | (apply ArgL.cons; (· first | exact .same | exact .cro | exact .nil))))) rfl rfl) rfl ?_
  refine aqs rfl (q_as (by constructor)) rfl ?_
  refine alist_nil ?_
  show AWP _ _ _ _
  refine awp_seq ?_
  refine awp_region ?_
  refine aqs rfl (q_mv (by constructor)) rfl ?_
  first | refine aqs rfl (e_callN cb79 (hl ▸ events79_c raw wraw.1 _) rfl rfl) rfl ?_ | refine aqs rfl (e_callN cb79 (ACall.arg (hl ▸ events79_c raw wraw.1 _) (by repeat (first | exact ArgL.nil | (apply ArgL.cons; (· first | exact .same | exact .cro | exact .nil))))) rfl rfl) rfl ?_
  refine aqs rfl (q_as (by constructor)) rfl ?_
  refine alist_nil ?_
  show AWP _ _ _ _
  refine awp_seq ?_
  refine awp_seq ?_
  refine awp_draw 17 [(0, false), (1, false), (2, false), (3, false), (4, false), (5, false), (6, false), (8, false), (9, false), (10, false), (11, false), (12, false), (16, false), (7, true), (13, true), (14, false), (15, false)] _ ([]) mixed (by kernel_rfl) (perm0 _) ?_
  refine glq rfl (.inl ⟨rfl, q_mv (by constructor)⟩) rfl ?_
  refine glq rfl (.inl ⟨rfl, q_mv (by constructor)⟩) rfl ?_
  first | refine glq rfl (.inl ⟨rfl, q_len Try.underlying88 .ro⟩) rfl ?_ | refine glq rfl (.inl ⟨rfl, q_lenO Try.underlying88 rfl (by repeat (first | exact .here | assumption | (apply HAt.left; assumption) | apply HAt.there | apply HAt.right)) (by first | omega | (simp; done) | (simp; omega) | fail) (by first | exact Nat.sub_zero _ | rfl)⟩) rfl ?_ | refine glq rfl (.inl ⟨rfl, q_len Try.underlying88 .nil⟩) rfl ?_ | refine glq rfl (.inl ⟨rfl, q_len Try.underlying88 .cro⟩) rfl ?_
  refine glq rfl (.inl ⟨rfl, castQ (r2 := .lit (.int .i64 (m : Nat))) (q_min rfl rfl) (by exact congrArg (fun z : Int => AV.lit (.int .i64 z)) (by rw [hevl]; omega))⟩) rfl ?_
  first | refine glq rfl (.inl ⟨rfl, castQ (r2 := .ro ((ev.take m).map Event.cells)) (q_slR Try.underlying88 sz108 (.inl rfl) rfl (by first | (refine ⟨_, _, rfl, ?_⟩; with_reducible rfl) | exact bnd_int rfl (by omega)) (by first | omega | (simp; done) | (simp; omega) | fail) (by first | omega | (simp; done) | (simp; omega) | fail) (by first | rfl | assumption | (simp [*]; done) | fail)) (by rw [List.map_take]; rfl)⟩) rfl ?_ | refine glq rfl (.inl ⟨rfl, castQ (r2 := .ro ((ev.take m).map Event.cells)) (q_slO Try.underlying88 sz108 rfl (by repeat (first | exact .here | assumption | (apply HAt.left; assumption) | apply HAt.there | apply HAt.right)) rfl (by first | (refine ⟨_, _, rfl, ?_⟩; with_reducible rfl) | exact bnd_int rfl (by omega)) (by first | omega | (simp; done) | (simp; omega) | fail) (by first | omega | (simp; done) | (simp; omega) | fail) (by first | exact Nat.zero_add _ | rfl) (by first | exact Nat.zero_add _ | rfl)) (by rw [List.map_take]; rfl)⟩) rfl ?_
  refine glq rfl (.inl ⟨rfl, q_mv (by constructor)⟩) rfl ?_
  refine glq rfl (.inl ⟨rfl, q_mv (by constructor)⟩) rfl ?_
  refine glq rfl (.inl ⟨rfl, q_mv (by constructor)⟩) rfl ?_
  refine glq rfl (.inl ⟨rfl, q_mv (by constructor)⟩) rfl ?_
  first | refine glq rfl (.inl ⟨rfl, q_len Try.underlying88 .ro⟩) rfl ?_ | refine glq rfl (.inl ⟨rfl, q_lenO Try.underlying88 rfl (by repeat (first | exact .here | assumption | (apply HAt.left; assumption) | apply HAt.there | apply HAt.right)) (by first | omega | (simp; done) | (simp; omega) | fail) (by first | exact Nat.sub_zero _ | rfl)⟩) rfl ?_ | refine glq rfl (.inl ⟨rfl, q_len Try.underlying88 .nil⟩) rfl ?_ | refine glq rfl (.inl ⟨rfl, q_len Try.underlying88 .cro⟩) rfl ?_
  refine glq rfl (.inl ⟨rfl, castQ (r2 := .lit (.int .i64 (m : Nat))) (q_min rfl rfl) (by exact congrArg (fun z : Int => AV.lit (.int .i64 z)) (by rw [hevl]; omega))⟩) rfl ?_
  first | refine glq rfl (.inl ⟨rfl, castQ (r2 := .ro ((ev.take m).map Event.cells)) (q_slR Try.underlying88 sz108 (.inl rfl) rfl (by first | (refine ⟨_, _, rfl, ?_⟩; with_reducible rfl) | exact bnd_int rfl (by omega)) (by first | omega | (simp; done) | (simp; omega) | fail) (by first | omega | (simp; done) | (simp; omega) | fail) (by first | rfl | assumption | (simp [*]; done) | fail)) (by rw [List.map_take]; rfl)⟩) rfl ?_ | refine glq rfl (.inl ⟨rfl, castQ (r2 := .ro ((ev.take m).map Event.cells)) (q_slO Try.underlying88 sz108 rfl (by repeat (first | exact .here | assumption | (apply HAt.left; assumption) | apply HAt.there | apply HAt.right)) rfl (by first | (refine ⟨_, _, rfl, ?_⟩; with_reducible rfl) | exact bnd_int rfl (by omega)) (by first | omega | (simp; done) | (simp; omega) | fail) (by first | omega | (simp; done) | (simp; omega) | fail) (by first | exact Nat.zero_add _ | rfl) (by first | exact Nat.zero_add _ | rfl)) (by rw [List.map_take]; rfl)⟩) rfl ?_
  refine glq rfl (.inl ⟨rfl, q_mv (by constructor)⟩) rfl ?_
  (refine gla rfl rfl (EOp.frame (e_apN Try.underlying88 sz108 by108 zr108 rfl (by first | exact .ro | exact .cro | exact .nil | exact SV.slA (by repeat (first | exact .here | assumption | (apply HAt.left; assumption) | apply HAt.there | apply HAt.right)) (by first | rfl | (simp; done) | (simp; omega) | (simp [*]; done) | fail)) (by first | assumption | (intro c hc; simp at hc; subst hc; rfl) | (simp; done) | fail) (by first | assumption | (intro c hc; simp at hc; subst hc; rfl) | (simp; done) | fail) (by first | omega | decide | (simp; omega) | fail) (by decide) (by decide) rfl rfl)) rfl ?_; rintro _ _ ⟨u40, rfl, rfl⟩)
  first | (refine gla rfl rfl (EOp.frame (e_apP Try.underlying88 sz108 by108 zr108 rfl rfl (lenEvent _) (oneEvent _) (oneEvent _) (by simp; omega) (by decide) (by decide) rfl hes1)) rfl ?_; rintro _ _ ⟨rfl, rfl⟩) | (refine gla rfl rfl (EOp.frame (e_apO Try.underlying88 sz108 by108 zr108 rfl (by repeat (first | exact .here | assumption | (apply HAt.left; assumption) | apply HAt.there | apply HAt.right)) (by first | omega | (simp; done) | (simp; omega) | fail) (by first | exact .ro | exact .cro | exact .nil | exact SV.slA (by repeat (first | exact .here | assumption | (apply HAt.left; assumption) | apply HAt.there | apply HAt.right)) (by first | rfl | (simp; done) | (simp; omega) | (simp [*]; done) | fail)) (by first | assumption | (intro c hc; simp at hc; subst hc; rfl) | (simp; done) | fail) (by first | assumption | (intro c hc; simp at hc; subst hc; rfl) | (simp; done) | fail) (by first | assumption | (intro c hc; simp at hc; subst hc; rfl) | (simp; done) | fail) (by first | omega | decide | (simp; omega) | fail) (by decide) (by decide) rfl (by first | rfl | (simp; done) | (simp; omega) | fail) (by first | rfl | (simp; done) | fail) (fun v => (by repeat (first | exact .here | apply HSet.there))))) rfl ?_; rintro _ _ ⟨u46, rfl, rfl⟩) | (refine gla rfl rfl (EOp.frame (e_apN Try.underlying88 sz108 by108 zr108 rfl (by first | exact .ro | exact .cro | exact .nil | exact SV.slA (by repeat (first | exact .here | assumption | (apply HAt.left; assumption) | apply HAt.there | apply HAt.right)) (by first | rfl | (simp; done) | (simp; omega) | (simp [*]; done) | fail)) (by first | assumption | (intro c hc; simp at hc; subst hc; rfl) | (simp; done) | fail) (by first | assumption | (intro c hc; simp at hc; subst hc; rfl) | (simp; done) | fail) (by first | omega | decide | (simp; omega) | fail) (by decide) (by decide) rfl rfl)) rfl ?_; rintro _ _ ⟨u46, rfl, rfl⟩)
  refine glq rfl (.inl ⟨rfl, castQ (r2 := .cro (Es.map evRow)) (q_bs Try.underlying92 sz88 zr88 rfl (by first | ((repeat constructor); done) | exact .same _) rfl (by decide) (by repeat (first | exact BS.nil | (apply BS.cons; (· constructor); (· rfl); (· rfl); (· rfl); (· exact (by first | ((repeat constructor); done) | exact .same _)))))) (by exact congrArg AV.cro hE)⟩) rfl ?_
  first | refine glq rfl (.inl ⟨rfl, castQ (r2 := .lit (.int .i64 3)) (q_len Try.underlying92 .ro) (by rw [List.length_map, hEl]; rfl)⟩) rfl ?_ | refine glq rfl (.inl ⟨rfl, castQ (r2 := .lit (.int .i64 3)) (q_lenO Try.underlying92 rfl (by repeat (first | exact .here | assumption | (apply HAt.left; assumption) | apply HAt.there | apply HAt.right)) (by first | omega | (simp; done) | (simp; omega) | fail) (by first | exact Nat.sub_zero _ | rfl)) (by rw [List.length_map, hEl]; rfl)⟩) rfl ?_ | refine glq rfl (.inl ⟨rfl, castQ (r2 := .lit (.int .i64 3)) (q_len Try.underlying92 .nil) (by rw [List.length_map, hEl]; rfl)⟩) rfl ?_ | refine glq rfl (.inl ⟨rfl, castQ (r2 := .lit (.int .i64 3)) (q_len Try.underlying92 .cro) (by rw [List.length_map, hEl]; rfl)⟩) rfl ?_
  refine gldA ?_
  show AList _ _ _ _ ⟨_, _, []⟩
  refine alist_nil ?_
  show AWP _ _ _ _
  refine awp_block ?_
  refine awp_loop_inv (fun i : Nat => ⟨[(49, .lit (.int .i64 i)), (48, .lit (.int .i64 3)), (47, .cro (Es.map evRow)), (2, .ro (cs.map Call.cells)), (3, .ro (raw2.map Quad.cells)), (4, .lit (.int .i64 room)), (11, .lit (.bool true))], 179, []⟩) (fun i => i ≤ 3) (fun i => 3 - i) 0 ?_ ?_ ?_
  · exact Nat.zero_le _
  · exact .mk' (by repeat (first | exact trivial | refine ⟨rfl, ?_⟩)) (by repeat (first | exact .refl _ | apply List.Sublist.cons_cons | apply List.Sublist.cons))
  · intro i hi
    refine awp_seq ?_
    refine awp_region ?_
    refine aqs rfl (q_lss rfl rfl) rfl ?_
    refine alist_nil ?_
    show AWP _ _ _ _
    refine awp_seq ?_
    refine awp_cond rfl (fun hc0 => ?_) (fun hc0 => ?_)
    · simp only [decide_eq_true_eq] at hc0
      obtain ⟨x, hx, hxm⟩ := get_lt (l := Es) (i := i) (by omega)
      have hxb := hEb x hxm
      have hx2 : (Es.map evRow)[i]? = some [.ro (x.map Event.cells)] := get_map (f := evRow) hx
      have hcl := callsS_len x
      refine awp_skip ?_
      show AWP _ _ _ _
      refine awp_seq ?_
      refine awp_block ?_
      refine awp_seq ?_
      refine awp_region ?_
      first | refine aqs rfl (q_iaN Try.underlying92 sz88 (.inl rfl) rfl (by omega) (by first | rfl | assumption | (simp [*]; done) | fail) (by first | rfl | assumption | (simp [*]; done) | fail) (by decide) (by first | ((repeat constructor); done) | exact .same _)) rfl ?_ | refine aqs rfl (q_iaS Try.underlying92 sz88 rfl (by repeat (first | exact .here | assumption | (apply HAt.left; assumption) | apply HAt.there | apply HAt.right)) rfl (by omega) (by omega) (by first | exact Nat.zero_add _ | rfl)) rfl ?_ | refine aqs rfl (q_iaN Try.underlying92 sz88 (.inr rfl) rfl (by omega) (by first | rfl | assumption | (simp [*]; done) | fail) (by first | rfl | assumption | (simp [*]; done) | fail) (by decide) (by first | ((repeat constructor); done) | exact .same _)) rfl ?_
      first | refine aqs rfl (q_ldpN ag88 rfl (by repeat (first | exact .here | assumption | (apply HAt.left; assumption) | apply HAt.there | apply HAt.right)) (by first | rfl | assumption | (simp [*]; done) | fail) (by first | rfl | assumption | (simp [*]; done) | fail) (by constructor)) rfl ?_ | refine aqs rfl (q_ld1N ag88 rfl (by constructor)) rfl ?_
      refine aqs rfl (q_as (by constructor)) rfl ?_
      refine alist_nil ?_
      show AWP _ _ _ _
      refine awp_seq ?_
      refine awp_region ?_
      refine aqs rfl (q_mv (by constructor)) rfl ?_
      first | refine aqs rfl (e_callN cb80 (calls80_c x (by omega) _) rfl rfl) rfl ?_ | refine aqs rfl (e_callN cb80 (ACall.arg (calls80_c x (by omega) _) (by repeat (first | exact ArgL.nil | (apply ArgL.cons; (· first | exact .same | exact .cro | exact .nil))))) rfl rfl) rfl ?_
      refine aqs rfl (q_mv (by constructor)) rfl ?_
      refine aqs rfl (q_ex rfl rfl (by constructor)) rfl ?_
      refine aqs rfl (q_ex rfl rfl (by constructor)) rfl ?_
      refine aqs rfl (q_as (by constructor)) rfl ?_
      refine aqs rfl (q_as (by constructor)) rfl ?_
      refine alist_nil ?_
      show AWP _ _ _ _
      refine awp_seq ?_
      refine awp_region ?_
      refine aqs rfl (q_mv (by constructor)) rfl ?_
      first | refine aqs rfl (e_callN cb81 (calls81_c x (by omega) _) rfl rfl) rfl ?_ | refine aqs rfl (e_callN cb81 (ACall.arg (calls81_c x (by omega) _) (by repeat (first | exact ArgL.nil | (apply ArgL.cons; (· first | exact .same | exact .cro | exact .nil))))) rfl rfl) rfl ?_
      refine aqs rfl (q_mv (by constructor)) rfl ?_
      refine aqs rfl (q_ex rfl rfl (by constructor)) rfl ?_
      refine aqs rfl (q_ex rfl rfl (by constructor)) rfl ?_
      refine aqs rfl (q_as (by constructor)) rfl ?_
      refine aqs rfl (q_as (by constructor)) rfl ?_
      refine alist_nil ?_
      show AWP _ _ _ _
      refine awp_seq ?_
      refine awp_region ?_
      refine aqs rfl (q_mv (by constructor)) rfl ?_
      refine aqs rfl (q_mv (by constructor)) rfl ?_
      refine aqs rfl (castF (q_neq rfl rfl) (by simp)) rfl ?_
      refine aqs rfl (q_mv (by constructor)) rfl ?_
      first | refine ans rfl rfl ?_ | refine aqs rfl (q_mv (by constructor)) rfl ?_
      first | refine ans rfl rfl ?_ | refine aqs rfl (q_mv (by constructor)) rfl ?_
      first | refine aqs rfl (castT (e_callN cb82 (same82_c (callsS x).1 (callsS x).1 (by omega) (by omega) _) rfl rfl) (by simp)) rfl ?_ | refine aqs rfl (castT (e_callN cb82 (ACall.arg (same82_c (callsS x).1 (callsS x).1 (by omega) (by omega) _) (by repeat (first | exact ArgL.nil | (apply ArgL.cons; (· first | exact .same | exact .cro | exact .nil))))) rfl rfl) (by simp)) rfl ?_
      first | refine ans rfl rfl ?_ | refine aqs rfl (q_not rfl) rfl ?_
      first | refine aqs rfl (q_pickT rfl (by constructor)) rfl ?_ | refine aqs rfl (q_pickF rfl (by constructor)) rfl ?_
      refine alist_nil ?_
      show AWP _ _ _ _
      refine awp_cond rfl (fun hc1 => ?_) (fun hc1 => ?_)
      · exfalso; first | (simp at hc1; done) | (simp at hc1; omega) | contradiction
      · try simp only [decide_eq_true_eq, decide_eq_false_iff_not, Bool.not_eq_true', Bool.not_eq_false', Bool.not_eq_eq_eq_not, Bool.not_true, Bool.not_false, beq_iff_eq, beq_eq_false_iff_ne, Int.not_lt, Int.not_le] at hc1
        refine awp_skip ?_
        show AWP _ _ _ _
        refine awp_region ?_
        first | refine aqs rfl (q_add64 rfl rfl (by omega) (by omega)) rfl ?_ | refine aqs rfl (q_add rfl rfl) rfl ?_
        refine aqs rfl (q_mv (by constructor)) rfl ?_
        refine alist_nil ?_
        show ∃ y, _ ∧ _ ∧ _
        exact ⟨i + 1, by omega, by omega, .mk' ⟨by rfl, rfl, rfl, rfl, rfl, rfl, rfl, trivial⟩ (by repeat (first | exact List.Sublist.refl _ | exact List.nil_sublist _ | exact List.sublist_append_left _ _ | (apply List.Sublist.cons_cons) | (apply List.Sublist.cons)))⟩
    · skip
      refine awp_exit ?_
      show AWP _ _ _ _
      refine awp_seq ?_
      refine awp_region ?_
      refine aqs rfl (q_mv (by constructor)) rfl ?_
      refine aqs rfl (q_mv (by constructor)) rfl ?_
      first | refine aqs rfl (q_len Try.underlying90 .ro) rfl ?_ | refine aqs rfl (q_lenO Try.underlying90 rfl (by repeat (first | exact .here | assumption | (apply HAt.left; assumption) | apply HAt.there | apply HAt.right)) (by first | omega | (simp; done) | (simp; omega) | fail) (by first | exact Nat.sub_zero _ | rfl)) rfl ?_ | refine aqs rfl (q_len Try.underlying90 .nil) rfl ?_ | refine aqs rfl (q_len Try.underlying90 .cro) rfl ?_
      refine aqs rfl (castQ (r2 := .lit (.int .i64 (k : Nat))) (q_min rfl rfl) (by exact congrArg (fun z : Int => AV.lit (.int .i64 z)) (by rw [hcsl]; omega))) rfl ?_
      first | refine aqs rfl (castQ (r2 := .ro ((cs.take k).map Call.cells)) (q_slR Try.underlying90 sz103 (.inl rfl) rfl (by first | (refine ⟨_, _, rfl, ?_⟩; with_reducible rfl) | exact bnd_int rfl (by omega)) (by first | omega | (simp; done) | (simp; omega) | fail) (by first | omega | (simp; done) | (simp; omega) | fail) (by first | rfl | assumption | (simp [*]; done) | fail)) (by rw [List.map_take]; rfl)) rfl ?_ | refine aqs rfl (castQ (r2 := .ro ((cs.take k).map Call.cells)) (q_slO Try.underlying90 sz103 rfl (by repeat (first | exact .here | assumption | (apply HAt.left; assumption) | apply HAt.there | apply HAt.right)) rfl (by first | (refine ⟨_, _, rfl, ?_⟩; with_reducible rfl) | exact bnd_int rfl (by omega)) (by first | omega | (simp; done) | (simp; omega) | fail) (by first | omega | (simp; done) | (simp; omega) | fail) (by first | exact Nat.zero_add _ | rfl) (by first | exact Nat.zero_add _ | rfl)) (by rw [List.map_take]; rfl)) rfl ?_
      refine aqs rfl (q_as (by constructor)) rfl ?_
      refine alist_nil ?_
      show AWP _ _ _ _
      refine awp_seq ?_
      refine awp_region ?_
      refine aqs rfl (q_mv (by constructor)) rfl ?_
      first | refine aqs rfl (e_callN cb83 (hq ▸ list83_c raw2 wraw2.1 6 (by omega) _) rfl rfl) rfl ?_ | refine aqs rfl (e_callN cb83 (ACall.arg (hq ▸ list83_c raw2 wraw2.1 6 (by omega) _) (by repeat (first | exact ArgL.nil | (apply ArgL.cons; (· first | exact .same | exact .cro | exact .nil))))) rfl rfl) rfl ?_
      refine aqs rfl (q_as (by constructor)) rfl ?_
      refine alist_nil ?_
      show AWP _ _ _ _
      refine awp_seq ?_
      refine awp_seq ?_
      refine awp_draw 13 [(0, false), (1, false), (2, false), (4, false), (5, false), (6, false), (7, false), (8, false), (12, false), (3, true), (9, true), (10, false), (11, false)] _ ([]) mixed (by kernel_rfl) (perm0 _) ?_
      refine glq rfl (.inl ⟨rfl, q_mv (by constructor)⟩) rfl ?_
      refine glq rfl (.inl ⟨rfl, q_mv (by constructor)⟩) rfl ?_
      refine glq rfl (.inl ⟨rfl, q_mv (by constructor)⟩) rfl ?_
      refine glq rfl (.inl ⟨rfl, q_mv (by constructor)⟩) rfl ?_
      refine glq rfl (.inl ⟨rfl, q_mv (by constructor)⟩) rfl ?_
      first | refine glq rfl (.inl ⟨rfl, q_len Try.underlying90 .ro⟩) rfl ?_ | refine glq rfl (.inl ⟨rfl, q_lenO Try.underlying90 rfl (by repeat (first | exact .here | assumption | (apply HAt.left; assumption) | apply HAt.there | apply HAt.right)) (by first | omega | (simp; done) | (simp; omega) | fail) (by first | exact Nat.sub_zero _ | rfl)⟩) rfl ?_ | refine glq rfl (.inl ⟨rfl, q_len Try.underlying90 .nil⟩) rfl ?_ | refine glq rfl (.inl ⟨rfl, q_len Try.underlying90 .cro⟩) rfl ?_
      refine glq rfl (.inl ⟨rfl, castQ (r2 := .lit (.int .i64 (j : Nat))) (q_min rfl rfl) (by exact congrArg (fun z : Int => AV.lit (.int .i64 z)) (by rw [hqcl]; omega))⟩) rfl ?_
      first | refine glq rfl (.inl ⟨rfl, castQ (r2 := .ro ((q.take j).map Call.cells)) (q_slR Try.underlying90 sz103 (.inl rfl) rfl (by first | (refine ⟨_, _, rfl, ?_⟩; with_reducible rfl) | exact bnd_int rfl (by omega)) (by first | omega | (simp; done) | (simp; omega) | fail) (by first | omega | (simp; done) | (simp; omega) | fail) (by first | rfl | assumption | (simp [*]; done) | fail)) (by rw [List.map_take]; rfl)⟩) rfl ?_ | refine glq rfl (.inl ⟨rfl, castQ (r2 := .ro ((q.take j).map Call.cells)) (q_slO Try.underlying90 sz103 rfl (by repeat (first | exact .here | assumption | (apply HAt.left; assumption) | apply HAt.there | apply HAt.right)) rfl (by first | (refine ⟨_, _, rfl, ?_⟩; with_reducible rfl) | exact bnd_int rfl (by omega)) (by first | omega | (simp; done) | (simp; omega) | fail) (by first | omega | (simp; done) | (simp; omega) | fail) (by first | exact Nat.zero_add _ | rfl) (by first | exact Nat.zero_add _ | rfl)) (by rw [List.map_take]; rfl)⟩) rfl ?_
      refine glq rfl (.inl ⟨rfl, q_mv (by constructor)⟩) rfl ?_
      (refine gla rfl rfl (EOp.frame (e_apN Try.underlying90 sz103 by103 zr103 rfl (by first | exact .ro | exact .cro | exact .nil | exact SV.slA (by repeat (first | exact .here | assumption | (apply HAt.left; assumption) | apply HAt.there | apply HAt.right)) (by first | rfl | (simp; done) | (simp; omega) | (simp [*]; done) | fail)) (by first | assumption | (intro c hc; simp at hc; subst hc; rfl) | (simp; done) | fail) (by first | assumption | (intro c hc; simp at hc; subst hc; rfl) | (simp; done) | fail) (by first | omega | decide | (simp; omega) | fail) (by decide) (by decide) rfl rfl)) rfl ?_; rintro _ _ ⟨u83, rfl, rfl⟩)
      first | (refine gla rfl rfl (EOp.frame (e_apP Try.underlying90 sz103 by103 zr103 rfl rfl (lenCall _) (oneCall _) (oneCall _) (by simp; omega) (by decide) (by decide) rfl hes2)) rfl ?_; rintro _ _ ⟨rfl, rfl⟩) | (refine gla rfl rfl (EOp.frame (e_apO Try.underlying90 sz103 by103 zr103 rfl (by repeat (first | exact .here | assumption | (apply HAt.left; assumption) | apply HAt.there | apply HAt.right)) (by first | omega | (simp; done) | (simp; omega) | fail) (by first | exact .ro | exact .cro | exact .nil | exact SV.slA (by repeat (first | exact .here | assumption | (apply HAt.left; assumption) | apply HAt.there | apply HAt.right)) (by first | rfl | (simp; done) | (simp; omega) | (simp [*]; done) | fail)) (by first | assumption | (intro c hc; simp at hc; subst hc; rfl) | (simp; done) | fail) (by first | assumption | (intro c hc; simp at hc; subst hc; rfl) | (simp; done) | fail) (by first | assumption | (intro c hc; simp at hc; subst hc; rfl) | (simp; done) | fail) (by first | omega | decide | (simp; omega) | fail) (by decide) (by decide) rfl (by first | rfl | (simp; done) | (simp; omega) | fail) (by first | rfl | (simp; done) | fail) (fun v => (by repeat (first | exact .here | apply HSet.there))))) rfl ?_; rintro _ _ ⟨u89, rfl, rfl⟩) | (refine gla rfl rfl (EOp.frame (e_apN Try.underlying90 sz103 by103 zr103 rfl (by first | exact .ro | exact .cro | exact .nil | exact SV.slA (by repeat (first | exact .here | assumption | (apply HAt.left; assumption) | apply HAt.there | apply HAt.right)) (by first | rfl | (simp; done) | (simp; omega) | (simp [*]; done) | fail)) (by first | assumption | (intro c hc; simp at hc; subst hc; rfl) | (simp; done) | fail) (by first | assumption | (intro c hc; simp at hc; subst hc; rfl) | (simp; done) | fail) (by first | omega | decide | (simp; omega) | fail) (by decide) (by decide) rfl rfl)) rfl ?_; rintro _ _ ⟨u89, rfl, rfl⟩)
      refine glq rfl (.inl ⟨rfl, castQ (r2 := .cro (Cs.map csRow)) (q_bs Try.underlying97 sz90 zr90 rfl (by first | ((repeat constructor); done) | exact .same _) rfl (by decide) (by repeat (first | exact BS.nil | (apply BS.cons; (· constructor); (· rfl); (· rfl); (· rfl); (· exact (by first | ((repeat constructor); done) | exact .same _)))))) (by exact congrArg AV.cro hC)⟩) rfl ?_
      first | refine glq rfl (.inl ⟨rfl, castQ (r2 := .lit (.int .i64 3)) (q_len Try.underlying97 .ro) (by rw [List.length_map, hCl]; rfl)⟩) rfl ?_ | refine glq rfl (.inl ⟨rfl, castQ (r2 := .lit (.int .i64 3)) (q_lenO Try.underlying97 rfl (by repeat (first | exact .here | assumption | (apply HAt.left; assumption) | apply HAt.there | apply HAt.right)) (by first | omega | (simp; done) | (simp; omega) | fail) (by first | exact Nat.sub_zero _ | rfl)) (by rw [List.length_map, hCl]; rfl)⟩) rfl ?_ | refine glq rfl (.inl ⟨rfl, castQ (r2 := .lit (.int .i64 3)) (q_len Try.underlying97 .nil) (by rw [List.length_map, hCl]; rfl)⟩) rfl ?_ | refine glq rfl (.inl ⟨rfl, castQ (r2 := .lit (.int .i64 3)) (q_len Try.underlying97 .cro) (by rw [List.length_map, hCl]; rfl)⟩) rfl ?_
      refine gldA ?_
      show AList _ _ _ _ ⟨_, _, []⟩
      refine alist_nil ?_
      show AWP _ _ _ _
      refine awp_block ?_
      refine awp_loop_inv (fun i : Nat => ⟨[(92, .lit (.int .i64 i)), (91, .lit (.int .i64 3)), (90, .cro (Cs.map csRow)), (4, .lit (.int .i64 room)), (11, .lit (.bool true))], 179, []⟩) (fun i => i ≤ 3) (fun i => 3 - i) 0 ?_ ?_ ?_
      · exact Nat.zero_le _
      · exact .mk' (by repeat (first | exact trivial | refine ⟨rfl, ?_⟩)) (by repeat (first | exact .refl _ | apply List.Sublist.cons_cons | apply List.Sublist.cons))
      · intro i hi
        refine awp_seq ?_
        refine awp_region ?_
        refine aqs rfl (q_lss rfl rfl) rfl ?_
        refine alist_nil ?_
        show AWP _ _ _ _
        refine awp_seq ?_
        refine awp_cond rfl (fun hc2 => ?_) (fun hc2 => ?_)
        · simp only [decide_eq_true_eq] at hc2
          obtain ⟨x, hx, hxm⟩ := get_lt (l := Cs) (i := i) (by omega)
          have hxb := hCb x hxm
          have hx2 : (Cs.map csRow)[i]? = some [.ro (x.map Call.cells)] := get_map (f := csRow) hx
          obtain ⟨p, hp⟩ : ∃ p, p = pick room 4 := ⟨_, rfl⟩
          have hR : ([[.lit (.int .i64 room)], [.lit (.int .i64 p)]] : List (List AV)) = [room, p].map cI := rfl
          refine awp_skip ?_
          show AWP _ _ _ _
          refine awp_seq ?_
          refine awp_block ?_
          refine awp_seq ?_
          refine awp_region ?_
          first | refine aqs rfl (q_iaN Try.underlying97 sz90 (.inl rfl) rfl (by omega) (by first | rfl | assumption | (simp [*]; done) | fail) (by first | rfl | assumption | (simp [*]; done) | fail) (by decide) (by first | ((repeat constructor); done) | exact .same _)) rfl ?_ | refine aqs rfl (q_iaS Try.underlying97 sz90 rfl (by repeat (first | exact .here | assumption | (apply HAt.left; assumption) | apply HAt.there | apply HAt.right)) rfl (by omega) (by omega) (by first | exact Nat.zero_add _ | rfl)) rfl ?_ | refine aqs rfl (q_iaN Try.underlying97 sz90 (.inr rfl) rfl (by omega) (by first | rfl | assumption | (simp [*]; done) | fail) (by first | rfl | assumption | (simp [*]; done) | fail) (by decide) (by first | ((repeat constructor); done) | exact .same _)) rfl ?_
          first | refine aqs rfl (q_ldpN ag90 rfl (by repeat (first | exact .here | assumption | (apply HAt.left; assumption) | apply HAt.there | apply HAt.right)) (by first | rfl | assumption | (simp [*]; done) | fail) (by first | rfl | assumption | (simp [*]; done) | fail) (by constructor)) rfl ?_ | refine aqs rfl (q_ld1N ag90 rfl (by constructor)) rfl ?_
          refine aqs rfl (q_as (by constructor)) rfl ?_
          refine alist_nil ?_
          show AWP _ _ _ _
          refine awp_seq ?_
          refine awp_seq ?_
          refine awp_region ?_
          refine aqs rfl (q_mv (by constructor)) rfl ?_
          refine aqs rfl (q_mv (by constructor)) rfl ?_
          first | refine aqs rfl (e_callN cb84 (hp ▸ pick84_c _ _ wroom.1 wroom.2 (by omega) _) rfl rfl) rfl ?_ | refine aqs rfl (e_callN cb84 (ACall.arg (hp ▸ pick84_c _ _ wroom.1 wroom.2 (by omega) _) (by repeat (first | exact ArgL.nil | (apply ArgL.cons; (· first | exact .same | exact .cro | exact .nil))))) rfl rfl) rfl ?_
          first | refine aqs rfl (q_bs Try.underlying25 sz3 zr3 rfl (by first | ((repeat constructor); done) | exact .same _) rfl (by decide) (by repeat (first | exact BS.nil | (apply BS.cons; (· constructor); (· rfl); (· rfl); (· rfl); (· exact (by first | ((repeat constructor); done) | exact .same _)))))) rfl ?_ | (refine aes rfl (e_bs Try.underlying25 sz3 zr3 rfl (by first | ((repeat constructor); done) | exact .same _) rfl (by decide) (by repeat (first | exact BS.nil | (apply BS.cons; (· constructor); (· rfl); (· rfl); (· rfl); (· exact (by first | ((repeat constructor); done) | exact .same _)))))) rfl ?_; rintro _ _ ⟨u99, rfl, rfl⟩)
          first | refine aqs rfl (castQ (r2 := .lit (.int .i64 2)) (q_len Try.underlying25 .ro) (by rfl)) rfl ?_ | refine aqs rfl (castQ (r2 := .lit (.int .i64 2)) (q_lenO Try.underlying25 rfl (by repeat (first | exact .here | assumption | (apply HAt.left; assumption) | apply HAt.there | apply HAt.right)) (by first | omega | (simp; done) | (simp; omega) | fail) (by first | exact Nat.sub_zero _ | rfl)) (by rfl)) rfl ?_ | refine aqs rfl (castQ (r2 := .lit (.int .i64 2)) (q_len Try.underlying25 .nil) (by rfl)) rfl ?_ | refine aqs rfl (castQ (r2 := .lit (.int .i64 2)) (q_len Try.underlying25 .cro) (by rfl)) rfl ?_
          refine aqs rfl (q_mv (by constructor)) rfl ?_
          refine alist_nil ?_
          show AWP _ _ _ _
          refine awp_block ?_
          refine awp_loop_inv (fun a : Nat => ⟨[(101, .lit (.int .i64 a)), (100, .lit (.int .i64 2)), (99, .cro ([room, p].map cI)), (92, .lit (.int .i64 i)), (91, .lit (.int .i64 3)), (90, .cro (Cs.map csRow)), (22, .ro (x.map Call.cells)), (4, .lit (.int .i64 room)), (11, .lit (.bool true))], 179, []⟩) (fun a => a ≤ 2) (fun a => 2 - a) 0 ?_ ?_ ?_
          · exact Nat.zero_le _
          · exact .mk' (by repeat (first | exact trivial | refine ⟨rfl, ?_⟩)) (by repeat (first | exact .refl _ | apply List.Sublist.cons_cons | apply List.Sublist.cons))
          · intro a ha
            refine awp_seq ?_
            refine awp_region ?_
            refine aqs rfl (q_lss rfl rfl) rfl ?_
            refine alist_nil ?_
            show AWP _ _ _ _
            refine awp_seq ?_
            refine awp_cond rfl (fun hc3 => ?_) (fun hc3 => ?_)
            · simp only [decide_eq_true_eq] at hc3
              have ha2 := cI_at (ks := [room, p]) (i := a) (by show a < 2; omega)
              obtain ⟨r, hr⟩ : ∃ r, r = [room, p].getD a 0 := ⟨_, rfl⟩
              rw [← hr] at ha2
              refine awp_skip ?_
              show AWP _ _ _ _
              refine awp_seq ?_
              refine awp_block ?_
              refine awp_seq ?_
              refine awp_region ?_
              first | refine aqs rfl (q_iaN Try.underlying25 sz3 (.inl rfl) rfl (by omega) (by first | rfl | assumption | (simp [*]; done) | fail) (by first | rfl | assumption | (simp [*]; done) | fail) (by decide) (by first | ((repeat constructor); done) | exact .same _)) rfl ?_ | refine aqs rfl (q_iaS Try.underlying25 sz3 rfl (by repeat (first | exact .here | assumption | (apply HAt.left; assumption) | apply HAt.there | apply HAt.right)) rfl (by omega) (by omega) (by first | exact Nat.zero_add _ | rfl)) rfl ?_ | refine aqs rfl (q_iaN Try.underlying25 sz3 (.inr rfl) rfl (by omega) (by first | rfl | assumption | (simp [*]; done) | fail) (by first | rfl | assumption | (simp [*]; done) | fail) (by decide) (by first | ((repeat constructor); done) | exact .same _)) rfl ?_
              first | refine aqs rfl (q_ldpN ag3 rfl (by repeat (first | exact .here | assumption | (apply HAt.left; assumption) | apply HAt.there | apply HAt.right)) (by first | rfl | assumption | (simp [*]; done) | fail) (by first | rfl | assumption | (simp [*]; done) | fail) (by constructor)) rfl ?_ | refine aqs rfl (q_ld1N ag3 rfl (by constructor)) rfl ?_
              refine aqs rfl (q_as (by constructor)) rfl ?_
              refine alist_nil ?_
              show AWP _ _ _ _
              refine awp_seq ?_
              refine awp_region ?_
              refine aqs rfl (q_mv (by constructor)) rfl ?_
              refine aqs rfl (q_mv (by constructor)) rfl ?_
              first | refine aqs rfl (e_callN cb85 (linear85_c x r (by omega) _) rfl rfl) rfl ?_ | refine aqs rfl (e_callN cb85 (ACall.arg (linear85_c x r (by omega) _) (by repeat (first | exact ArgL.nil | (apply ArgL.cons; (· first | exact .same | exact .cro | exact .nil))))) rfl rfl) rfl ?_
              refine aqs rfl (q_mv (by constructor)) rfl ?_
              refine aqs rfl (q_ex rfl rfl (by constructor)) rfl ?_
              refine aqs rfl (q_ex rfl rfl (by constructor)) rfl ?_
              refine aqs rfl (q_as (by constructor)) rfl ?_
              refine aqs rfl (q_as (by constructor)) rfl ?_
              refine alist_nil ?_
              show AWP _ _ _ _
              refine awp_seq ?_
              refine awp_region ?_
              refine aqs rfl (q_mv (by constructor)) rfl ?_
              refine aqs rfl (q_mv (by constructor)) rfl ?_
              first | refine aqs rfl (e_callN cb86 (linear86_c x r (by omega) _) rfl rfl) rfl ?_ | refine aqs rfl (e_callN cb86 (ACall.arg (linear86_c x r (by omega) _) (by repeat (first | exact ArgL.nil | (apply ArgL.cons; (· first | exact .same | exact .cro | exact .nil))))) rfl rfl) rfl ?_
              refine aqs rfl (q_mv (by constructor)) rfl ?_
              refine aqs rfl (q_ex rfl rfl (by constructor)) rfl ?_
              refine aqs rfl (q_ex rfl rfl (by constructor)) rfl ?_
              refine aqs rfl (q_as (by constructor)) rfl ?_
              refine aqs rfl (q_as (by constructor)) rfl ?_
              refine alist_nil ?_
              show AWP _ _ _ _
              refine awp_seq ?_
              refine awp_region ?_
              refine aqs rfl (q_mv (by constructor)) rfl ?_
              refine aqs rfl (q_mv (by constructor)) rfl ?_
              refine aqs rfl (castF (q_bneq rfl rfl Try.underlying4) (by simp)) rfl ?_
              refine aqs rfl (q_mv (by constructor)) rfl ?_
              first | refine ans rfl rfl ?_ | refine aqs rfl (q_mv (by constructor)) rfl ?_
              first | refine ans rfl rfl ?_ | refine aqs rfl (q_mv (by constructor)) rfl ?_
              refine aqs rfl (castF (q_neq rfl rfl) (by simp)) rfl ?_
              first | refine aqs rfl (q_pickT rfl (by constructor)) rfl ?_ | refine aqs rfl (q_pickF rfl (by constructor)) rfl ?_
              refine aqs rfl (q_mv (by constructor)) rfl ?_
              first | refine ans rfl rfl ?_ | refine aqs rfl (q_mv (by constructor)) rfl ?_
              first | refine ans rfl rfl ?_ | refine aqs rfl (q_mv (by constructor)) rfl ?_
              first | refine ans rfl rfl ?_ | refine aqs rfl (e_callN cb87 (legal87_c x r (by omega) _) rfl rfl) rfl ?_ | refine aqs rfl (e_callN cb87 (ACall.arg (legal87_c x r (by omega) _) (by repeat (first | exact ArgL.nil | (apply ArgL.cons; (· first | exact .same | exact .cro | exact .nil))))) rfl rfl) rfl ?_
              first | refine ans rfl rfl ?_ | refine aqs rfl (q_mv (by constructor)) rfl ?_
              first | refine ans rfl rfl ?_ | refine aqs rfl (q_mv (by constructor)) rfl ?_
              first | refine ans rfl rfl ?_ | refine aqs rfl (e_callN cb88 (legal88_c x r (by omega) _) rfl rfl) rfl ?_ | refine aqs rfl (e_callN cb88 (ACall.arg (legal88_c x r (by omega) _) (by repeat (first | exact ArgL.nil | (apply ArgL.cons; (· first | exact .same | exact .cro | exact .nil))))) rfl rfl) rfl ?_
              refine aqs rfl (castF (q_bneq rfl rfl Try.underlying4) (by simp)) rfl ?_
              first | refine aqs rfl (q_pickT rfl (by constructor)) rfl ?_ | refine aqs rfl (q_pickF rfl (by constructor)) rfl ?_
              refine alist_nil ?_
              show AWP _ _ _ _
              refine awp_cond rfl (fun hc4 => ?_) (fun hc4 => ?_)
              · exfalso; first | (simp at hc4; done) | (simp at hc4; omega) | contradiction
              · try simp only [decide_eq_true_eq, decide_eq_false_iff_not, Bool.not_eq_true', Bool.not_eq_false', Bool.not_eq_eq_eq_not, Bool.not_true, Bool.not_false, beq_iff_eq, beq_eq_false_iff_ne, Int.not_lt, Int.not_le] at hc4
                refine awp_skip ?_
                show AWP _ _ _ _
                refine awp_region ?_
                first | refine aqs rfl (q_add64 rfl rfl (by omega) (by omega)) rfl ?_ | refine aqs rfl (q_add rfl rfl) rfl ?_
                refine aqs rfl (q_mv (by constructor)) rfl ?_
                refine alist_nil ?_
                show ∃ y, _ ∧ _ ∧ _
                exact ⟨a + 1, by omega, by omega, .mk' ⟨by rfl, rfl, rfl, rfl, rfl, rfl, rfl, rfl, rfl, trivial⟩ (by repeat (first | exact List.Sublist.refl _ | exact List.nil_sublist _ | exact List.sublist_append_left _ _ | (apply List.Sublist.cons_cons) | (apply List.Sublist.cons)))⟩
            · skip
              refine awp_exit ?_
              show AWP _ _ _ _
              refine awp_seq ?_
              refine awp_region ?_
              refine aqs rfl (q_as (by constructor)) rfl ?_
              refine alist_nil ?_
              show AWP _ _ _ _
              refine awp_block ?_
              refine awp_loop_inv (fun b : Nat => ⟨[(29, .lit (.int .i64 b)), (92, .lit (.int .i64 i)), (91, .lit (.int .i64 3)), (90, .cro (Cs.map csRow)), (22, .ro (x.map Call.cells)), (4, .lit (.int .i64 room)), (11, .lit (.bool true))], 179, []⟩) (fun b => b ≤ x.length) (fun b => x.length - b) 0 ?_ ?_ ?_
              · exact Nat.zero_le _
              · exact .mk' (by repeat (first | exact trivial | refine ⟨rfl, ?_⟩)) (by repeat (first | exact .refl _ | apply List.Sublist.cons_cons | apply List.Sublist.cons))
              · intro b hb
                have hxl : (x.map Call.cells).length = x.length := List.length_map ..
                refine awp_seq ?_
                refine awp_seq ?_
                refine awp_region ?_
                refine aqs rfl (q_mv (by constructor)) rfl ?_
                refine aqs rfl (q_mv (by constructor)) rfl ?_
                first | refine aqs rfl (q_len Try.underlying90 .ro) rfl ?_ | refine aqs rfl (q_lenO Try.underlying90 rfl (by repeat (first | exact .here | assumption | (apply HAt.left; assumption) | apply HAt.there | apply HAt.right)) (by first | omega | (simp; done) | (simp; omega) | fail) (by first | exact Nat.sub_zero _ | rfl)) rfl ?_ | refine aqs rfl (q_len Try.underlying90 .nil) rfl ?_ | refine aqs rfl (q_len Try.underlying90 .cro) rfl ?_
                refine aqs rfl (q_lss rfl rfl) rfl ?_
                refine alist_nil ?_
                show AWP _ _ _ _
                refine awp_cond rfl (fun hc5 => ?_) (fun hc5 => ?_)
                · simp only [decide_eq_true_eq] at hc5
                  have hbl : b < x.length := by omega
                  have hs0 := get_map (f := Call.cells) (nth_get (c := x) (i := 0) (by omega))
                  have hs2 := get_map (f := Call.cells) (nth_get hbl)
                  refine awp_skip ?_
                  show AWP _ _ _ _
                  refine awp_seq ?_
                  refine awp_block ?_
                  refine awp_seq ?_
                  refine awp_draw 36 [(0, false), (1, false), (2, false), (3, false), (4, false), (5, false), (6, false), (7, false), (8, false), (9, false), (10, false), (11, false), (12, false), (13, false), (14, false), (15, false), (16, false), (17, false), (18, false), (19, false), (20, false), (21, false), (22, false), (23, false), (24, false), (25, false), (26, false), (27, false), (28, false), (29, false), (30, false), (31, false), (32, false), (33, false), (34, false), (35, false)] _ ([]) mixed (by kernel_rfl) (perm0 _) ?_
                  refine glq rfl (.inl ⟨rfl, q_mv (by constructor)⟩) rfl ?_
                  first | refine glq rfl (.inl ⟨rfl, q_iaN Try.underlying90 sz103 (.inl rfl) rfl (by omega) (by first | rfl | assumption | (simp [*]; done) | fail) (by first | rfl | assumption | (simp [*]; done) | fail) (by decide) (by first | ((repeat constructor); done) | exact .same _)⟩) rfl ?_ | refine glq rfl (.inl ⟨rfl, q_iaS Try.underlying90 sz103 rfl (by repeat (first | exact .here | assumption | (apply HAt.left; assumption) | apply HAt.there | apply HAt.right)) rfl (by omega) (by omega) (by first | exact Nat.zero_add _ | rfl)⟩) rfl ?_ | refine glq rfl (.inl ⟨rfl, q_iaN Try.underlying90 sz103 (.inr rfl) rfl (by omega) (by first | rfl | assumption | (simp [*]; done) | fail) (by first | rfl | assumption | (simp [*]; done) | fail) (by decide) (by first | ((repeat constructor); done) | exact .same _)⟩) rfl ?_
                  first | refine glq rfl (.inl ⟨rfl, q_ldpW ag103 sz103 rfl (by repeat (first | exact .here | assumption | (apply HAt.left; assumption) | apply HAt.there | apply HAt.right)) (by first | rfl | assumption | (simp [*]; done) | fail) (by first | rfl | assumption | (simp [*]; done) | fail) (by decide)⟩) rfl ?_ | refine glq rfl (.inl ⟨rfl, q_ldW ag103 sz103 rfl (by first | rfl | assumption | (simp [*]; done) | fail)⟩) rfl ?_ | refine glq rfl (.inl ⟨rfl, q_ldpP ag103 sz103 rfl (by repeat (first | exact .here | assumption | (apply HAt.left; assumption) | apply HAt.there | apply HAt.right)) (by first | rfl | assumption | (simp [*]; done) | fail) (by first | decide | (simp; done) | omega | fail) (by decide) (by first | ((repeat constructor); done) | exact .same _)⟩) rfl ?_ | refine glq rfl (.inl ⟨rfl, q_ldP ag103 sz103 rfl (by first | decide | (simp; done) | omega | fail) (by first | ((repeat constructor); done) | exact .same _)⟩) rfl ?_
                  refine glq rfl (.inl ⟨rfl, q_mv (by constructor)⟩) rfl ?_
                  refine glq rfl (.inl ⟨rfl, q_mv (by constructor)⟩) rfl ?_
                  first | refine glq rfl (.inl ⟨rfl, q_iaN Try.underlying90 sz103 (.inl rfl) rfl (by omega) (by first | rfl | assumption | (simp [*]; done) | fail) (by first | rfl | assumption | (simp [*]; done) | fail) (by decide) (by first | ((repeat constructor); done) | exact .same _)⟩) rfl ?_ | refine glq rfl (.inl ⟨rfl, q_iaS Try.underlying90 sz103 rfl (by repeat (first | exact .here | assumption | (apply HAt.left; assumption) | apply HAt.there | apply HAt.right)) rfl (by omega) (by omega) (by first | exact Nat.zero_add _ | rfl)⟩) rfl ?_ | refine glq rfl (.inl ⟨rfl, q_iaN Try.underlying90 sz103 (.inr rfl) rfl (by omega) (by first | rfl | assumption | (simp [*]; done) | fail) (by first | rfl | assumption | (simp [*]; done) | fail) (by decide) (by first | ((repeat constructor); done) | exact .same _)⟩) rfl ?_
                  first | refine glq rfl (.inl ⟨rfl, q_ldpW ag103 sz103 rfl (by repeat (first | exact .here | assumption | (apply HAt.left; assumption) | apply HAt.there | apply HAt.right)) (by first | rfl | assumption | (simp [*]; done) | fail) (by first | rfl | assumption | (simp [*]; done) | fail) (by decide)⟩) rfl ?_ | refine glq rfl (.inl ⟨rfl, q_ldW ag103 sz103 rfl (by first | rfl | assumption | (simp [*]; done) | fail)⟩) rfl ?_ | refine glq rfl (.inl ⟨rfl, q_ldpP ag103 sz103 rfl (by repeat (first | exact .here | assumption | (apply HAt.left; assumption) | apply HAt.there | apply HAt.right)) (by first | rfl | assumption | (simp [*]; done) | fail) (by first | decide | (simp; done) | omega | fail) (by decide) (by first | ((repeat constructor); done) | exact .same _)⟩) rfl ?_ | refine glq rfl (.inl ⟨rfl, q_ldP ag103 sz103 rfl (by first | decide | (simp; done) | omega | fail) (by first | ((repeat constructor); done) | exact .same _)⟩) rfl ?_
                  first | refine glq rfl (.inl ⟨rfl, e_callN cb89 (before89_c (nth x 0) (nth x b) _) rfl rfl⟩) rfl ?_ | refine glq rfl (.inl ⟨rfl, e_callN cb89 (ACall.arg (before89_c (nth x 0) (nth x b) _) (by repeat (first | exact ArgL.nil | (apply ArgL.cons; (· first | exact .same | exact .cro | exact .nil))))) rfl rfl⟩) rfl ?_
                  refine glq rfl (.inl ⟨rfl, q_mv (by constructor)⟩) rfl ?_
                  first | refine glq rfl (.inl ⟨rfl, q_iaN Try.underlying90 sz103 (.inl rfl) rfl (by omega) (by first | rfl | assumption | (simp [*]; done) | fail) (by first | rfl | assumption | (simp [*]; done) | fail) (by decide) (by first | ((repeat constructor); done) | exact .same _)⟩) rfl ?_ | refine glq rfl (.inl ⟨rfl, q_iaS Try.underlying90 sz103 rfl (by repeat (first | exact .here | assumption | (apply HAt.left; assumption) | apply HAt.there | apply HAt.right)) rfl (by omega) (by omega) (by first | exact Nat.zero_add _ | rfl)⟩) rfl ?_ | refine glq rfl (.inl ⟨rfl, q_iaN Try.underlying90 sz103 (.inr rfl) rfl (by omega) (by first | rfl | assumption | (simp [*]; done) | fail) (by first | rfl | assumption | (simp [*]; done) | fail) (by decide) (by first | ((repeat constructor); done) | exact .same _)⟩) rfl ?_
                  first | refine glq rfl (.inl ⟨rfl, q_ldpW ag103 sz103 rfl (by repeat (first | exact .here | assumption | (apply HAt.left; assumption) | apply HAt.there | apply HAt.right)) (by first | rfl | assumption | (simp [*]; done) | fail) (by first | rfl | assumption | (simp [*]; done) | fail) (by decide)⟩) rfl ?_ | refine glq rfl (.inl ⟨rfl, q_ldW ag103 sz103 rfl (by first | rfl | assumption | (simp [*]; done) | fail)⟩) rfl ?_ | refine glq rfl (.inl ⟨rfl, q_ldpP ag103 sz103 rfl (by repeat (first | exact .here | assumption | (apply HAt.left; assumption) | apply HAt.there | apply HAt.right)) (by first | rfl | assumption | (simp [*]; done) | fail) (by first | decide | (simp; done) | omega | fail) (by decide) (by first | ((repeat constructor); done) | exact .same _)⟩) rfl ?_ | refine glq rfl (.inl ⟨rfl, q_ldP ag103 sz103 rfl (by first | decide | (simp; done) | omega | fail) (by first | ((repeat constructor); done) | exact .same _)⟩) rfl ?_
                  refine glq rfl (.inl ⟨rfl, q_mv (by constructor)⟩) rfl ?_
                  refine glq rfl (.inl ⟨rfl, q_mv (by constructor)⟩) rfl ?_
                  first | refine glq rfl (.inl ⟨rfl, q_iaN Try.underlying90 sz103 (.inl rfl) rfl (by omega) (by first | rfl | assumption | (simp [*]; done) | fail) (by first | rfl | assumption | (simp [*]; done) | fail) (by decide) (by first | ((repeat constructor); done) | exact .same _)⟩) rfl ?_ | refine glq rfl (.inl ⟨rfl, q_iaS Try.underlying90 sz103 rfl (by repeat (first | exact .here | assumption | (apply HAt.left; assumption) | apply HAt.there | apply HAt.right)) rfl (by omega) (by omega) (by first | exact Nat.zero_add _ | rfl)⟩) rfl ?_ | refine glq rfl (.inl ⟨rfl, q_iaN Try.underlying90 sz103 (.inr rfl) rfl (by omega) (by first | rfl | assumption | (simp [*]; done) | fail) (by first | rfl | assumption | (simp [*]; done) | fail) (by decide) (by first | ((repeat constructor); done) | exact .same _)⟩) rfl ?_
                  first | refine glq rfl (.inl ⟨rfl, q_ldpW ag103 sz103 rfl (by repeat (first | exact .here | assumption | (apply HAt.left; assumption) | apply HAt.there | apply HAt.right)) (by first | rfl | assumption | (simp [*]; done) | fail) (by first | rfl | assumption | (simp [*]; done) | fail) (by decide)⟩) rfl ?_ | refine glq rfl (.inl ⟨rfl, q_ldW ag103 sz103 rfl (by first | rfl | assumption | (simp [*]; done) | fail)⟩) rfl ?_ | refine glq rfl (.inl ⟨rfl, q_ldpP ag103 sz103 rfl (by repeat (first | exact .here | assumption | (apply HAt.left; assumption) | apply HAt.there | apply HAt.right)) (by first | rfl | assumption | (simp [*]; done) | fail) (by first | decide | (simp; done) | omega | fail) (by decide) (by first | ((repeat constructor); done) | exact .same _)⟩) rfl ?_ | refine glq rfl (.inl ⟨rfl, q_ldP ag103 sz103 rfl (by first | decide | (simp; done) | omega | fail) (by first | ((repeat constructor); done) | exact .same _)⟩) rfl ?_
                  first | refine glq rfl (.inl ⟨rfl, e_callN cb90 (before90_c (nth x 0) (nth x b) _) rfl rfl⟩) rfl ?_ | refine glq rfl (.inl ⟨rfl, e_callN cb90 (ACall.arg (before90_c (nth x 0) (nth x b) _) (by repeat (first | exact ArgL.nil | (apply ArgL.cons; (· first | exact .same | exact .cro | exact .nil))))) rfl rfl⟩) rfl ?_
                  refine glq rfl (.inl ⟨rfl, castF (q_bneq rfl rfl Try.underlying4) (by simp)⟩) rfl ?_
                  refine glq rfl (.inl ⟨rfl, q_mv (by constructor)⟩) rfl ?_
                  first | refine glq rfl (.inl ⟨rfl, q_mv (by constructor)⟩) rfl ?_ | refine glq rfl (.inr ⟨rfl, rfl⟩) rfl ?_
                  first | refine glq rfl (.inl ⟨rfl, q_mv (by constructor)⟩) rfl ?_ | refine glq rfl (.inr ⟨rfl, rfl⟩) rfl ?_
                  first | refine glq rfl (.inl ⟨rfl, q_iaN Try.underlying90 sz103 (.inl rfl) rfl (by omega) (by first | rfl | assumption | (simp [*]; done) | fail) (by first | rfl | assumption | (simp [*]; done) | fail) (by decide) (by first | ((repeat constructor); done) | exact .same _)⟩) rfl ?_ | refine glq rfl (.inl ⟨rfl, q_iaS Try.underlying90 sz103 rfl (by repeat (first | exact .here | assumption | (apply HAt.left; assumption) | apply HAt.there | apply HAt.right)) rfl (by omega) (by omega) (by first | exact Nat.zero_add _ | rfl)⟩) rfl ?_ | refine glq rfl (.inl ⟨rfl, q_iaN Try.underlying90 sz103 (.inr rfl) rfl (by omega) (by first | rfl | assumption | (simp [*]; done) | fail) (by first | rfl | assumption | (simp [*]; done) | fail) (by decide) (by first | ((repeat constructor); done) | exact .same _)⟩) rfl ?_ | refine glq rfl (.inr ⟨rfl, rfl⟩) rfl ?_
                  first | refine glq rfl (.inl ⟨rfl, q_ldpW ag103 sz103 rfl (by repeat (first | exact .here | assumption | (apply HAt.left; assumption) | apply HAt.there | apply HAt.right)) (by first | rfl | assumption | (simp [*]; done) | fail) (by first | rfl | assumption | (simp [*]; done) | fail) (by decide)⟩) rfl ?_ | refine glq rfl (.inl ⟨rfl, q_ldW ag103 sz103 rfl (by first | rfl | assumption | (simp [*]; done) | fail)⟩) rfl ?_ | refine glq rfl (.inl ⟨rfl, q_ldpP ag103 sz103 rfl (by repeat (first | exact .here | assumption | (apply HAt.left; assumption) | apply HAt.there | apply HAt.right)) (by first | rfl | assumption | (simp [*]; done) | fail) (by first | decide | (simp; done) | omega | fail) (by decide) (by first | ((repeat constructor); done) | exact .same _)⟩) rfl ?_ | refine glq rfl (.inl ⟨rfl, q_ldP ag103 sz103 rfl (by first | decide | (simp; done) | omega | fail) (by first | ((repeat constructor); done) | exact .same _)⟩) rfl ?_ | refine glq rfl (.inr ⟨rfl, rfl⟩) rfl ?_
                  first | refine glq rfl (.inl ⟨rfl, q_mv (by constructor)⟩) rfl ?_ | refine glq rfl (.inr ⟨rfl, rfl⟩) rfl ?_
                  first | refine glq rfl (.inl ⟨rfl, q_iaN Try.underlying90 sz103 (.inl rfl) rfl (by omega) (by first | rfl | assumption | (simp [*]; done) | fail) (by first | rfl | assumption | (simp [*]; done) | fail) (by decide) (by first | ((repeat constructor); done) | exact .same _)⟩) rfl ?_ | refine glq rfl (.inl ⟨rfl, q_iaS Try.underlying90 sz103 rfl (by repeat (first | exact .here | assumption | (apply HAt.left; assumption) | apply HAt.there | apply HAt.right)) rfl (by omega) (by omega) (by first | exact Nat.zero_add _ | rfl)⟩) rfl ?_ | refine glq rfl (.inl ⟨rfl, q_iaN Try.underlying90 sz103 (.inr rfl) rfl (by omega) (by first | rfl | assumption | (simp [*]; done) | fail) (by first | rfl | assumption | (simp [*]; done) | fail) (by decide) (by first | ((repeat constructor); done) | exact .same _)⟩) rfl ?_ | refine glq rfl (.inr ⟨rfl, rfl⟩) rfl ?_
                  first | refine glq rfl (.inl ⟨rfl, q_ldpW ag103 sz103 rfl (by repeat (first | exact .here | assumption | (apply HAt.left; assumption) | apply HAt.there | apply HAt.right)) (by first | rfl | assumption | (simp [*]; done) | fail) (by first | rfl | assumption | (simp [*]; done) | fail) (by decide)⟩) rfl ?_ | refine glq rfl (.inl ⟨rfl, q_ldW ag103 sz103 rfl (by first | rfl | assumption | (simp [*]; done) | fail)⟩) rfl ?_ | refine glq rfl (.inl ⟨rfl, q_ldpP ag103 sz103 rfl (by repeat (first | exact .here | assumption | (apply HAt.left; assumption) | apply HAt.there | apply HAt.right)) (by first | rfl | assumption | (simp [*]; done) | fail) (by first | decide | (simp; done) | omega | fail) (by decide) (by first | ((repeat constructor); done) | exact .same _)⟩) rfl ?_ | refine glq rfl (.inl ⟨rfl, q_ldP ag103 sz103 rfl (by first | decide | (simp; done) | omega | fail) (by first | ((repeat constructor); done) | exact .same _)⟩) rfl ?_ | refine glq rfl (.inr ⟨rfl, rfl⟩) rfl ?_
                  first | refine glq rfl (.inl ⟨rfl, e_callN cb89 (before89_c (nth x b) (nth x 0) _) rfl rfl⟩) rfl ?_ | refine glq rfl (.inl ⟨rfl, e_callN cb89 (ACall.arg (before89_c (nth x b) (nth x 0) _) (by repeat (first | exact ArgL.nil | (apply ArgL.cons; (· first | exact .same | exact .cro | exact .nil))))) rfl rfl⟩) rfl ?_ | refine glq rfl (.inr ⟨rfl, rfl⟩) rfl ?_
                  first | refine glq rfl (.inl ⟨rfl, q_mv (by constructor)⟩) rfl ?_ | refine glq rfl (.inr ⟨rfl, rfl⟩) rfl ?_
                  first | refine glq rfl (.inl ⟨rfl, q_mv (by constructor)⟩) rfl ?_ | refine glq rfl (.inr ⟨rfl, rfl⟩) rfl ?_
                  first | refine glq rfl (.inl ⟨rfl, q_iaN Try.underlying90 sz103 (.inl rfl) rfl (by omega) (by first | rfl | assumption | (simp [*]; done) | fail) (by first | rfl | assumption | (simp [*]; done) | fail) (by decide) (by first | ((repeat constructor); done) | exact .same _)⟩) rfl ?_ | refine glq rfl (.inl ⟨rfl, q_iaS Try.underlying90 sz103 rfl (by repeat (first | exact .here | assumption | (apply HAt.left; assumption) | apply HAt.there | apply HAt.right)) rfl (by omega) (by omega) (by first | exact Nat.zero_add _ | rfl)⟩) rfl ?_ | refine glq rfl (.inl ⟨rfl, q_iaN Try.underlying90 sz103 (.inr rfl) rfl (by omega) (by first | rfl | assumption | (simp [*]; done) | fail) (by first | rfl | assumption | (simp [*]; done) | fail) (by decide) (by first | ((repeat constructor); done) | exact .same _)⟩) rfl ?_ | refine glq rfl (.inr ⟨rfl, rfl⟩) rfl ?_
                  first | refine glq rfl (.inl ⟨rfl, q_ldpW ag103 sz103 rfl (by repeat (first | exact .here | assumption | (apply HAt.left; assumption) | apply HAt.there | apply HAt.right)) (by first | rfl | assumption | (simp [*]; done) | fail) (by first | rfl | assumption | (simp [*]; done) | fail) (by decide)⟩) rfl ?_ | refine glq rfl (.inl ⟨rfl, q_ldW ag103 sz103 rfl (by first | rfl | assumption | (simp [*]; done) | fail)⟩) rfl ?_ | refine glq rfl (.inl ⟨rfl, q_ldpP ag103 sz103 rfl (by repeat (first | exact .here | assumption | (apply HAt.left; assumption) | apply HAt.there | apply HAt.right)) (by first | rfl | assumption | (simp [*]; done) | fail) (by first | decide | (simp; done) | omega | fail) (by decide) (by first | ((repeat constructor); done) | exact .same _)⟩) rfl ?_ | refine glq rfl (.inl ⟨rfl, q_ldP ag103 sz103 rfl (by first | decide | (simp; done) | omega | fail) (by first | ((repeat constructor); done) | exact .same _)⟩) rfl ?_ | refine glq rfl (.inr ⟨rfl, rfl⟩) rfl ?_
                  first | refine glq rfl (.inl ⟨rfl, q_mv (by constructor)⟩) rfl ?_ | refine glq rfl (.inr ⟨rfl, rfl⟩) rfl ?_
                  first | refine glq rfl (.inl ⟨rfl, q_iaN Try.underlying90 sz103 (.inl rfl) rfl (by omega) (by first | rfl | assumption | (simp [*]; done) | fail) (by first | rfl | assumption | (simp [*]; done) | fail) (by decide) (by first | ((repeat constructor); done) | exact .same _)⟩) rfl ?_ | refine glq rfl (.inl ⟨rfl, q_iaS Try.underlying90 sz103 rfl (by repeat (first | exact .here | assumption | (apply HAt.left; assumption) | apply HAt.there | apply HAt.right)) rfl (by omega) (by omega) (by first | exact Nat.zero_add _ | rfl)⟩) rfl ?_ | refine glq rfl (.inl ⟨rfl, q_iaN Try.underlying90 sz103 (.inr rfl) rfl (by omega) (by first | rfl | assumption | (simp [*]; done) | fail) (by first | rfl | assumption | (simp [*]; done) | fail) (by decide) (by first | ((repeat constructor); done) | exact .same _)⟩) rfl ?_ | refine glq rfl (.inr ⟨rfl, rfl⟩) rfl ?_
                  first | refine glq rfl (.inl ⟨rfl, q_ldpW ag103 sz103 rfl (by repeat (first | exact .here | assumption | (apply HAt.left; assumption) | apply HAt.there | apply HAt.right)) (by first | rfl | assumption | (simp [*]; done) | fail) (by first | rfl | assumption | (simp [*]; done) | fail) (by decide)⟩) rfl ?_ | refine glq rfl (.inl ⟨rfl, q_ldW ag103 sz103 rfl (by first | rfl | assumption | (simp [*]; done) | fail)⟩) rfl ?_ | refine glq rfl (.inl ⟨rfl, q_ldpP ag103 sz103 rfl (by repeat (first | exact .here | assumption | (apply HAt.left; assumption) | apply HAt.there | apply HAt.right)) (by first | rfl | assumption | (simp [*]; done) | fail) (by first | decide | (simp; done) | omega | fail) (by decide) (by first | ((repeat constructor); done) | exact .same _)⟩) rfl ?_ | refine glq rfl (.inl ⟨rfl, q_ldP ag103 sz103 rfl (by first | decide | (simp; done) | omega | fail) (by first | ((repeat constructor); done) | exact .same _)⟩) rfl ?_ | refine glq rfl (.inr ⟨rfl, rfl⟩) rfl ?_
                  first | refine glq rfl (.inl ⟨rfl, e_callN cb90 (before90_c (nth x b) (nth x 0) _) rfl rfl⟩) rfl ?_ | refine glq rfl (.inl ⟨rfl, e_callN cb90 (ACall.arg (before90_c (nth x b) (nth x 0) _) (by repeat (first | exact ArgL.nil | (apply ArgL.cons; (· first | exact .same | exact .cro | exact .nil))))) rfl rfl⟩) rfl ?_ | refine glq rfl (.inr ⟨rfl, rfl⟩) rfl ?_
                  refine glq rfl (.inl ⟨rfl, castF (q_bneq rfl rfl Try.underlying4) (by simp)⟩) rfl ?_
                  first | refine glq rfl (.inl ⟨rfl, q_pickT rfl (by constructor)⟩) rfl ?_ | refine glq rfl (.inl ⟨rfl, q_pickF rfl (by constructor)⟩) rfl ?_
                  (first | refine gld0 ?_ | refine gldA ?_)
                  refine alist_nil ?_
                  show AWP _ _ _ _
                  refine awp_cond rfl (fun hc6 => ?_) (fun hc6 => ?_)
                  · exfalso; first | (simp at hc6; done) | (simp at hc6; omega) | contradiction
                  · try simp only [decide_eq_true_eq, decide_eq_false_iff_not, Bool.not_eq_true', Bool.not_eq_false', Bool.not_eq_eq_eq_not, Bool.not_true, Bool.not_false, beq_iff_eq, beq_eq_false_iff_ne, Int.not_lt, Int.not_le] at hc6
                    refine awp_skip ?_
                    show AWP _ _ _ _
                    refine awp_region ?_
                    refine aqs rfl (q_mv (by constructor)) rfl ?_
                    first | refine aqs rfl (q_add64 rfl rfl (by omega) (by omega)) rfl ?_ | refine aqs rfl (q_add rfl rfl) rfl ?_
                    refine aqs rfl (q_as (by constructor)) rfl ?_
                    refine alist_nil ?_
                    show ∃ y, _ ∧ _ ∧ _
                    exact ⟨b + 1, by omega, by omega, .mk' ⟨by rfl, rfl, rfl, rfl, rfl, rfl, rfl, trivial⟩ (by repeat (first | exact List.Sublist.refl _ | exact List.nil_sublist _ | exact List.sublist_append_left _ _ | (apply List.Sublist.cons_cons) | (apply List.Sublist.cons)))⟩
                · skip
                  refine awp_exit ?_
                  show AWP _ _ _ _
                  refine awp_region ?_
                  first | refine aqs rfl (q_add64 rfl rfl (by omega) (by omega)) rfl ?_ | refine aqs rfl (q_add rfl rfl) rfl ?_
                  refine aqs rfl (q_mv (by constructor)) rfl ?_
                  refine alist_nil ?_
                  show ∃ y, _ ∧ _ ∧ _
                  exact ⟨i + 1, by omega, by omega, .mk' ⟨by rfl, rfl, rfl, rfl, rfl, trivial⟩ (by repeat (first | exact List.Sublist.refl _ | exact List.nil_sublist _ | exact List.sublist_append_left _ _ | (apply List.Sublist.cons_cons) | (apply List.Sublist.cons)))⟩
        · skip
          refine awp_exit ?_
          show AWP _ _ _ _
          refine awp_seq ?_
          refine awp_region ?_
          refine aqs rfl (q_mv (by constructor)) rfl ?_
          refine aqs rfl (q_as (by constructor)) rfl ?_
          refine alist_nil ?_
          show AWP _ _ _ _
          refine awp_ret ?_
          repeat first | with_reducible refine then_ret ?_ | with_reducible refine blk_ret ?_
          apply retq (.inr rfl) (.cons (rok_t rfl) .nil)
          rotate_left
          · exact ⟨rfl, rfl⟩
          repeat (first | exact List.Sublist.refl _ | exact List.nil_sublist _ | exact List.sublist_append_left _ _ | apply List.Sublist.cons)
end Go.Proofs.YtdlinfekifnmkaaAm
