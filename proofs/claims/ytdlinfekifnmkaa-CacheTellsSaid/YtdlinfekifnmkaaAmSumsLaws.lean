/- The plain laws of layer 9. Conditions: none. -/
import Derived.Test.YtdlinfekifnmkaaAmSumsAwake
import Derived.Test.YtdlinfekifnmkaaAmBase
set_option linter.unusedVariables false
set_option linter.unusedSimpArgs false
namespace Go.Proofs.YtdlinfekifnmkaaAm
open Go.Proofs

theorem cut_ge (h w : Int) (hw : 64 ≤ w) : cut h w = h := by simp [cut, hw]
theorem cut_le0 (h w : Int) (hw : w ≤ 0) : cut h w = 0 := by
  have h1 : ¬ 64 ≤ w := by omega
  have h2 : w.toNat = 0 := by omega
  simp [cut, h1, h2, Int.emod_one]
theorem pow_dvd64 {v w : Nat} (h : v ≤ w) : (2 : Int) ^ v ∣ 2 ^ w := by
  obtain ⟨k, rfl⟩ := Nat.exists_eq_add_of_le h
  exact ⟨2 ^ k, by rw [Int.pow_add]⟩
theorem cut_cut (h v w : Int) (h0 : 0 ≤ v) (h1 : v < 64) (h2 : v ≤ w) : cut h v = cut h w % 2 ^ v.toNat := by
  have hv : ¬ 64 ≤ v := by omega
  rw [cut, if_neg hv]
  by_cases hw : 64 ≤ w
  · rw [cut_ge h w hw]
  · rw [cut, if_neg hw]
    exact (Int.emod_emod_of_dvd h (pow_dvd64 (by omega))).symm

theorem dvd_mod_iff {M : Int} (hM : M ∣ 18446744073709551616) (X Y : Int) : M ∣ X % 18446744073709551616 - Y % 18446744073709551616 ↔ M ∣ X - Y := by
  have e1 := Int.mul_ediv_add_emod X 18446744073709551616
  have e2 := Int.mul_ediv_add_emod Y 18446744073709551616
  obtain ⟨k, hk⟩ := hM
  have e : X - Y = (X % 18446744073709551616 - Y % 18446744073709551616) + M * (k * (X / 18446744073709551616 - Y / 18446744073709551616)) := by
    rw [← Int.mul_assoc, ← hk]; omega
  constructor
  · intro h
    rw [e]
    exact Int.dvd_add h (Int.dvd_mul_right M _)
  · intro h
    rw [e] at h
    have := Int.dvd_sub h (Int.dvd_mul_right M (k * (X / 18446744073709551616 - Y / 18446744073709551616)))
    rwa [Int.add_sub_cancel] at this
theorem dvd31 {M : Int} (hM : M ∣ 18446744073709551616) (z : Int) : M ∣ 31 * z ↔ M ∣ z := by
  refine ⟨fun h => ?_, fun h => Int.dvd_trans h (Int.dvd_mul_left _ _)⟩
  have h1 := Int.dvd_sub (Int.dvd_trans h (Int.dvd_mul_right (31 * z) 17256631552825064415)) (Int.dvd_trans hM (Int.dvd_mul_right 18446744073709551616 (29 * z)))
  have e : 31 * z * 17256631552825064415 - 18446744073709551616 * (29 * z) = z := by omega
  rwa [e] at h1
theorem dvd37 {M : Int} (hM : M ∣ 18446744073709551616) (z : Int) : M ∣ 37 * z ↔ M ∣ z := by
  refine ⟨fun h => ?_, fun h => Int.dvd_trans h (Int.dvd_mul_left _ _)⟩
  have h1 := Int.dvd_sub (Int.dvd_trans h (Int.dvd_mul_right (37 * z) 1495681951922396077)) (Int.dvd_trans hM (Int.dvd_mul_right 18446744073709551616 (3 * z)))
  have e : 37 * z * 1495681951922396077 - 18446744073709551616 * (3 * z) = z := by omega
  rwa [e] at h1

theorem mod64 {w : Int} (h1 : w ≤ 64) : (2 : Int) ^ w.toNat ∣ 18446744073709551616 := pow_dvd64 (v := w.toNat) (w := 64) (by omega)
/-- Two checksums cut to a width agree just where their difference is a multiple. -/
theorem cut_eq_iff (A B w : Int) (a0 : 0 ≤ A) (a1 : A ≤ 18446744073709551615) (b0 : 0 ≤ B) (b1 : B ≤ 18446744073709551615) (h1 : w ≤ 64) : cut A w = cut B w ↔ (2 : Int) ^ w.toNat ∣ A - B := by
  by_cases hw : 64 ≤ w
  · have : w = 64 := by omega
    subst this
    rw [cut_ge A 64 (by omega), cut_ge B 64 (by omega)]
    show A = B ↔ (18446744073709551616 : Int) ∣ A - B
    omega
  · rw [cut, if_neg hw, cut, if_neg hw, Int.emod_eq_emod_iff_emod_sub_eq_zero]
    exact ⟨Int.dvd_of_emod_eq_zero, Int.emod_eq_zero_of_dvd⟩

theorem fold_step (s t : ByteArray) (A B : Int) (i j : Nat) {M : Int} (hM : M ∣ 18446744073709551616) (hb : byteAt s i = byteAt t j) :
    M ∣ (31 * A + byteAt s i + 1) % 18446744073709551616 - (31 * B + byteAt t j + 1) % 18446744073709551616 ↔ M ∣ A - B := by
  rw [dvd_mod_iff hM, hb, show 31 * A + byteAt t j + 1 - (31 * B + byteAt t j + 1) = 31 * (A - B) by omega, dvd31 hM]
/-- From a place on where the bytes agree, the sums agree as they did. -/
theorem fold_iff (s t : ByteArray) (a b : Int) (k l : Nat) {M : Int} (hM : M ∣ 18446744073709551616) : ∀ n, (∀ i, i < n → byteAt s (k + i) = byteAt t (l + i)) → (M ∣ foldS s a (k + n) - foldS t b (l + n) ↔ M ∣ foldS s a k - foldS t b l)
  | 0, _ => Iff.rfl
  | n + 1, h => by
    have ih := fold_iff s t a b k l hM n fun i hi => h i (by omega)
    rw [← ih]
    exact fold_step s t _ _ _ _ hM (h n (by omega))
theorem fold_congr (s t : ByteArray) (a : Int) : ∀ n, (∀ i, i < n → byteAt s i = byteAt t i) → foldS s a n = foldS t a n
  | 0, _ => rfl
  | n + 1, h => by
    rw [foldS, foldS, fold_congr s t a n fun i hi => h i (by omega), h n (by omega)]
theorem byteAt_app_left (s t : ByteArray) (i : Nat) (h : i < s.size) : byteAt (s ++ t) i = byteAt s i := by
  unfold byteAt
  rw [ByteArray.data_append, Array.toList_append, List.getD_eq_getElem?_getD, List.getElem?_append_left (by simpa using h), ← List.getD_eq_getElem?_getD]
theorem byteAt_app_right (s t : ByteArray) (i : Nat) : byteAt (s ++ t) (s.size + i) = byteAt t i := by
  unfold byteAt
  have e : s.data.toList.length = s.size := by simp
  rw [ByteArray.data_append, Array.toList_append, List.getD_eq_getElem?_getD, List.getElem?_append_right (by rw [e]; omega), e, Nat.add_sub_cancel_left, ← List.getD_eq_getElem?_getD]
theorem fold_app (s t : ByteArray) (a : Int) : ∀ n, foldS (s ++ t) a (s.size + n) = foldS t (foldS s a s.size) n
  | 0 => by
    rw [Nat.add_zero, foldS]
    exact fold_congr _ _ a _ fun i hi => byteAt_app_left s t i hi
  | n + 1 => by rw [← Nat.add_assoc, foldS, foldS, fold_app s t a n, byteAt_app_right]
theorem size_app (s t : ByteArray) : (s ++ t).size = s.size + t.size := by simp

theorem more_app (h : Int) (x y : ByteArray) (w : Int) (h0 : 0 ≤ h) (h1 : h ≤ 18446744073709551615) (w1 : w ≤ 64) : more (more h x w) y w = more h (x ++ y) w := by
  unfold more
  rw [size_app, fold_app]
  have r1 := foldS_range x h h0 h1 x.size
  have r2 := cut_range _ w r1.1 r1.2
  have r3 := foldS_range y _ r2.1 r2.2 y.size
  have r4 := foldS_range y _ r1.1 r1.2 y.size
  rw [cut_eq_iff _ _ w r3.1 r3.2 r4.1 r4.2 w1]
  have := (fold_iff y y (cut (foldS x h x.size) w) (foldS x h x.size) 0 0 (mod64 w1) y.size fun i _ => rfl)
  simp only [Nat.zero_add] at this
  rw [this]
  show (2 : Int) ^ w.toNat ∣ cut (foldS x h x.size) w - foldS x h x.size
  by_cases hw : 64 ≤ w
  · rw [cut_ge _ _ hw, Int.sub_self]; exact Int.dvd_zero _
  · rw [cut, if_neg hw]
    refine ⟨-(foldS x h x.size / 2 ^ w.toNat), ?_⟩
    have := Int.mul_ediv_add_emod (foldS x h x.size) (2 ^ w.toNat)
    rw [Int.mul_neg]; omega
theorem sum_app (x y : ByteArray) (w : Int) (w1 : w ≤ 64) : sum (x ++ y) w = more (sum x 64) y w := by
  unfold sum more
  rw [size_app, fold_app, cut_ge _ 64 (by omega)]
theorem more64_inj (x : ByteArray) (g h : Int) (g0 : 0 ≤ g) (g1 : g ≤ 18446744073709551615) (h0 : 0 ≤ h) (h1 : h ≤ 18446744073709551615) : more g x 64 = more h x 64 ↔ g = h := by
  unfold more
  have r1 := foldS_range x g g0 g1 x.size
  have r2 := foldS_range x h h0 h1 x.size
  rw [cut_eq_iff _ _ 64 r1.1 r1.2 r2.1 r2.2 (by omega)]
  have := (fold_iff x x g h 0 0 (mod64 (w := 64) (by omega)) x.size fun i _ => rfl)
  simp only [Nat.zero_add] at this
  rw [this]
  show (18446744073709551616 : Int) ∣ g - h ↔ g = h
  omega

theorem str_ext {a b : ByteArray} (hs : a.size = b.size) (h : ∀ i, i < a.size → byteAt a i = byteAt b i) : a = b := by
  apply bytes_ext
  have ea : a.data.toList.length = a.size := by simp
  have eb : b.data.toList.length = b.size := by simp
  apply List.ext_getElem (by omega)
  intro i h1 h2
  have := h i (by omega)
  unfold byteAt at this
  rw [List.getD_eq_getElem?_getD, List.getD_eq_getElem?_getD, List.getElem?_eq_getElem h1, List.getElem?_eq_getElem h2] at this
  simp only [Option.getD_some, Int.ofNat_inj] at this
  exact UInt8.toNat_inj.1 this

/-- Byte i of x turned into c. -/
theorem byteAt_extract (s : ByteArray) (l h i : Nat) (hi : i < h - l) (hh : h ≤ s.size) : byteAt (s.extract l h) i = byteAt s (l + i) := by
  unfold byteAt
  have e : (s.extract l h).data.toList = (s.data.toList.drop l).take (h - l) := by
    rw [ByteArray.data_extract, Array.toList_extract, List.extract_eq_take_drop]
  rw [e, List.getD_eq_getElem?_getD, List.getElem?_take, if_pos hi, List.getElem?_drop, ← List.getD_eq_getElem?_getD]
theorem size_extract (s : ByteArray) (l h : Nat) (hh : h ≤ s.size) : (s.extract l h).size = h - l := by
  simp; omega
theorem byteAt_one (c : Int) (h0 : 0 ≤ c) (h1 : c ≤ 255) : byteAt (strOfNums [c]) 0 = c := by
  show ((UInt8.ofNat c.toNat).toNat : Int) = c
  simp; omega

def setAt (x : ByteArray) (i : Nat) (c : Int) : ByteArray := x.extract 0 i ++ strOfNums [c] ++ x.extract (i + 1) x.size
theorem setAt_size (x : ByteArray) (i : Nat) (c : Int) (hi : i < x.size) : (setAt x i c).size = x.size := by
  unfold setAt
  rw [size_app, size_app, size_extract _ _ _ (by omega), size_extract _ _ _ (by omega), strOfNums_size]
  simp; omega
theorem setAt_at (x : ByteArray) (i : Nat) (c : Int) (hi : i < x.size) (h0 : 0 ≤ c) (h1 : c ≤ 255) (j : Nat) (hj : j < x.size) : byteAt (setAt x i c) j = if j = i then c else byteAt x j := by
  unfold setAt
  have s1 : (x.extract 0 i).size = i := by rw [size_extract _ _ _ (by omega)]; omega
  have s2 : (x.extract 0 i ++ strOfNums [c]).size = i + 1 := by rw [size_app, s1, strOfNums_size]; rfl
  by_cases h : j < i
  · rw [byteAt_app_left _ _ _ (by omega), byteAt_app_left _ _ _ (by omega), byteAt_extract _ _ _ _ (by omega) (by omega), if_neg (by omega), Nat.zero_add]
  · by_cases h2 : j = i
    · subst h2
      rw [byteAt_app_left _ _ _ (by omega), if_pos rfl]
      have := byteAt_app_right (x.extract 0 j) (strOfNums [c]) 0
      rw [s1, Nat.add_zero] at this
      rw [this, byteAt_one c h0 h1]
    · rw [if_neg h2]
      have := byteAt_app_right (x.extract 0 i ++ strOfNums [c]) (x.extract (i + 1) x.size) (j - (i + 1))
      rw [s2, show i + 1 + (j - (i + 1)) = j by omega] at this
      rw [this, byteAt_extract _ _ _ _ (by omega) (by omega), show i + 1 + (j - (i + 1)) = j by omega]
theorem setAt_eq (x : ByteArray) (i : Nat) (c : Int) (hi : i < x.size) (h0 : 0 ≤ c) (h1 : c ≤ 255) : x = setAt x i c ↔ byteAt x i = c := by
  constructor
  · intro h
    have := setAt_at x i c hi h0 h1 i hi
    rw [← h, if_pos rfl] at this
    exact this
  · intro h
    refine str_ext (setAt_size x i c hi).symm fun j hj => ?_
    rw [setAt_at x i c hi h0 h1 j hj]
    split
    · rename_i e; rw [e]; exact h
    · rfl
theorem small_dvd {w a b : Int} (h8 : 8 ≤ w) (a0 : 0 ≤ a) (a1 : a ≤ 255) (b0 : 0 ≤ b) (b1 : b ≤ 255) : (2 : Int) ^ w.toNat ∣ a - b ↔ a = b := by
  constructor
  · intro h
    have : (256 : Int) ∣ a - b := Int.dvd_trans (pow_dvd64 (v := 8) (w := w.toNat) (by omega)) h
    omega
  · rintro rfl; rw [Int.sub_self]; exact Int.dvd_zero _
/-- The two sums differ by a multiple just where the bytes are the same. -/
theorem fold_setAt (x : ByteArray) (i : Nat) (c w : Int) (hi : i < x.size) (h0 : 0 ≤ c) (h1 : c ≤ 255) (w8 : 8 ≤ w) (w64 : w ≤ 64) :
    (2 : Int) ^ w.toNat ∣ foldS x 0 x.size - foldS (setAt x i c) 0 x.size ↔ x = setAt x i c := by
  rw [setAt_eq x i c hi h0 h1]
  have hM := mod64 w64
  have e1 := fold_iff x (setAt x i c) 0 0 (i + 1) (i + 1) hM (x.size - (i + 1)) (fun j hj => by
    rw [setAt_at x i c hi h0 h1 _ (by omega), if_neg (by omega)])
  rw [show i + 1 + (x.size - (i + 1)) = x.size by omega] at e1
  rw [e1]
  have e2 : foldS (setAt x i c) 0 i = foldS x 0 i := fold_congr _ _ 0 i fun j hj => by
    rw [setAt_at x i c hi h0 h1 _ (by omega), if_neg (by omega)]
  rw [foldS, foldS, e2, setAt_at x i c hi h0 h1 i hi, if_pos rfl, dvd_mod_iff hM]
  rw [show 31 * foldS x 0 i + byteAt x i + 1 - (31 * foldS x 0 i + c + 1) = byteAt x i - c by omega]
  have := byteAt_range x i
  exact small_dvd w8 this.1 this.2 h0 h1
theorem sum_setAt (x : ByteArray) (i : Nat) (c w : Int) (hi : i < x.size) (h0 : 0 ≤ c) (h1 : c ≤ 255) (w8 : 8 ≤ w) (w64 : w ≤ 64) : sum x w = sum (setAt x i c) w ↔ x = setAt x i c := by
  unfold sum more
  rw [setAt_size x i c hi]
  have r1 := foldS_range x 0 (by omega) (by omega) x.size
  have r2 := foldS_range (setAt x i c) 0 (by omega) (by omega) x.size
  rw [cut_eq_iff _ _ w r1.1 r1.2 r2.1 r2.2 w64]
  exact fold_setAt x i c w hi h0 h1 w8 w64
theorem both_setAt (x q : ByteArray) (i : Nat) (c w : Int) (hi : i < x.size) (h0 : 0 ≤ c) (h1 : c ≤ 255) (w8 : 8 ≤ w) (w64 : w ≤ 64) : (bothS x q w).sum = (bothS (setAt x i c) q w).sum ↔ x = setAt x i c := by
  show cut _ w = cut _ w ↔ _
  rw [cut_eq_iff _ _ w (by omega) (by omega) (by omega) (by omega) w64, dvd_mod_iff (mod64 w64)]
  rw [show 37 * sum x 64 + sum q 64 - (37 * sum (setAt x i c) 64 + sum q 64) = 37 * (sum x 64 - sum (setAt x i c) 64) by omega, dvd37 (mod64 w64)]
  unfold sum more
  rw [cut_ge _ 64 (by omega), cut_ge _ 64 (by omega), setAt_size x i c hi]
  exact fold_setAt x i c w hi h0 h1 w8 w64
theorem shl_one {v : Int} (h0 : 0 ≤ v) (h1 : v < 64) : AV.lit (.int .u64 (IntKind.u64.wrap (1 * 2 ^ (min v.toNat IntKind.u64.bits)))) = .lit (.int .u64 (2 ^ v.toNat)) := by
  have hm : min v.toNat IntKind.u64.bits = v.toNat := by simp [IntKind.bits]; omega
  have hp : (0 : Int) < 2 ^ v.toNat := Int.pow_pos (by omega)
  have hp2 := pow_lt64 (n := v.toNat) (by omega)
  rw [hm, wrapU, Int.one_mul, Int.emod_eq_of_lt (by omega) (by omega)]
theorem sum_snoc (x : ByteArray) (c : Int) (h0 : 0 ≤ c) (h1 : c ≤ 255) : sum (x ++ strOfNums [c]) 64 = (31 * sum x 64 + c + 1) % 18446744073709551616 := by
  rw [sum_app x _ 64 (by omega)]
  unfold more
  rw [cut_ge _ 64 (by omega), strOfNums_size]
  show (31 * sum x 64 + byteAt (strOfNums [c]) 0 + 1) % 18446744073709551616 = _
  rw [byteAt_one c h0 h1]
theorem beq_dec {a b : Int} {p : Prop} [Decidable p] (h : a = b ↔ p) : (a == b) = decide p := by
  by_cases hp : p
  · rw [h.2 hp]; simp [hp]
  · have : ¬ a = b := fun e => hp (h.1 e)
    simp [hp, this]
theorem sum_ge (x : ByteArray) (w : Int) (h : 64 ≤ w) : sum x w = sum x 64 := by unfold sum more; rw [cut_ge _ w h, cut_ge _ 64 (by omega)]
theorem sum_le0 (x : ByteArray) (w : Int) (h : w ≤ 0) : sum x w = 0 := cut_le0 _ w h
end Go.Proofs.YtdlinfekifnmkaaAm
