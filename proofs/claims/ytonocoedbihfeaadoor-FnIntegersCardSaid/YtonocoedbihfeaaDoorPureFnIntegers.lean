/- Whole numbers in range are read back from their decimal form, and CeilDiv and Mod keep their inequalities: the law returns true for every slice of bytes that it draws from. -/
import Derived.Test.YtonocoedbihfeaaDoorQFnIntegersx3
import Derived.Test.YtonocoedbihfeaaDoorBase
import Derived.Test.YtonocoedbihfeaaDoorLst
import Derived.Test.YtonocoedbihfeaaDoorVr
import Derived.Test.YtonocoedbihfeaaDoorPn
import Derived.Test.YtonocoedbihfeaaDoorIt
namespace Go.Proofs.YtonocoedbihfeaaDoor.Pure
open Go Go.RowKit Go.Proofs.YtonocoedbihfeaaDoor.PFnIntegers Go.Proofs.YtonocoedbihfeaaDoorW.PrintWords Go.Proofs.YtonocoedbihfeaaDoorW.PrintLast Go.Proofs.YtonocoedbihfeaaDoorW.PrintMore Go.Proofs.YtonocoedbihfeaaDoor.Base Go.Proofs.YtonocoedbihfeaaDoor.Lst Go.Proofs.YtonocoedbihfeaaDoor.Vr Go.Proofs.YtonocoedbihfeaaDoor.Pn Go.Proofs.YtonocoedbihfeaaDoor.It
set_option linter.unusedVariables false
set_option linter.unusedSimpArgs false
theorem impl_FormatInt.eq (n : Int) (h0 : -9223372036854775808 ≤ n) (h1 : n ≤ 9223372036854775807) : impl_FormatInt.f n = some ⟨(Lib.itoa n).toArray⟩ := by
  unfold impl_FormatInt.f
  rw [if_pos ⟨h0, h1⟩]
theorem laws_big.eq (l : List Int) : laws_big.f l = some (decide ((l.length : Int) > 1048576)) := rfl
theorem spec_FormatInt.l0_nonneg (x0 : Int) (h0 : 0 ≤ x0) : ∀ (d k : Nat) (x : Int) (a : List Int), 0 ≤ x → x < 10 ^ d → d ≤ 20 → a.length + d ≤ 1000 → d < k → x ≤ 9223372036854775807 → spec_FormatInt.l0 k x0 (strOfNums a) x = some (strOfNums (fmtF d x a)) := by
  intro d
  induction d with
  | zero =>
    intro k x a hx0 hx1 _ _ hk _
    obtain ⟨k, rfl⟩ : ∃ m, k = m + 1 := ⟨k - 1, by omega⟩
    have : x = 0 := by simp at hx1; omega
    simp only [spec_FormatInt.l0]
    rw [if_pos this, if_neg (by omega)]
    rfl
  | succ d ih =>
    intro k x a hx0 hx1 hd ha hk hx2
    obtain ⟨k, rfl⟩ : ∃ m, k = m + 1 := ⟨k - 1, by omega⟩
    simp only [spec_FormatInt.l0, fmtF]
    by_cases hx : x = 0
    · rw [if_pos hx, if_neg (by omega), if_pos hx]
    · rw [if_neg hx, if_neg hx, Int.tmod_eq_emod_of_nonneg hx0, if_neg (by omega)]
      simp only [Option.bind_some]
      rw [if_pos (by rw [strOfNums_size, strOfNums_size]; simp only [List.length_cons, List.length_nil]; omega), w64 (n := 48 + x % 10) (by omega) (by omega), show (48 + x % 10) % 256 = 48 + x % 10 by omega, str_cons, Int.tdiv_eq_ediv_of_nonneg hx0, w64 (n := x / 10) (by omega) (by omega)]
      exact ih k (x / 10) _ (by omega) (by rw [Int.pow_succ] at hx1; omega) (by omega) (by simp only [List.length_cons]; omega) (by omega) (by omega)
theorem spec_FormatInt.nonneg (n : Int) (h0 : 0 ≤ n) (h1 : n ≤ 9223372036854775807) (k : Nat) (hk : 30 ≤ k) : spec_FormatInt.f k n = some (strOfNums (fmt n)) := by
  unfold spec_FormatInt.f fmt
  by_cases h : n = 0
  · rw [if_pos h, if_pos h]; rfl
  · rw [if_neg h, if_neg h]
    exact spec_FormatInt.l0_nonneg n h0 20 k n [] h0 (by omega) (by omega) (by simp) (by omega) h1
theorem spec_l1New.l0_ok (l : List Int) (hn : l.length ≤ 140737488355328) : ∀ (d k i : Nat) (h : Int), i + d = l.length → d < k → ∃ h', spec_l1New.l0 k l h (i : Int) = some (l, 0, h') := by
  intro d
  induction d with
  | zero =>
    intro k i h hi hk
    obtain ⟨k, rfl⟩ : ∃ m, k = m + 1 := ⟨k - 1, by omega⟩
    simp only [spec_l1New.l0]
    rw [if_neg (by omega)]
    exact ⟨_, rfl⟩
  | succ d ih =>
    intro k i h hi hk
    obtain ⟨k, rfl⟩ : ∃ m, k = m + 1 := ⟨k - 1, by omega⟩
    simp only [spec_l1New.l0]
    rw [if_pos (by omega)]
    by_cases h4 : (i : Int) < 4000
    · rw [if_pos h4, if_pos (by omega), w64_succ (n := l.length) (by omega) (by omega)]
      exact ih k (i + 1) _ (by omega) (by omega)
    · rw [if_neg h4]
      exact ⟨_, rfl⟩
theorem spec_l1New.ok (l : List Int) (hn : l.length ≤ 140737488355328) (k : Nat) (hk : l.length < k) : ∃ h', spec_l1New.f k l = some (l, 0, h') := by
  unfold spec_l1New.f
  exact spec_l1New.l0_ok l hn l.length k 0 _ (by omega) hk
theorem spec_l1Byte.ok (b : List Int) (i h : Int) (hi : 0 ≤ i) : ∃ v i' h', spec_l1Byte.f b i h = some (v, i', h') ∧ 0 ≤ v ∧ v ≤ 255 ∧ (b.length ≤ 140737488355328 → 0 ≤ i') := by
  unfold spec_l1Byte.f
  by_cases hc : i < (b.length : Int)
  · rw [if_pos hc, if_pos hi]
    exact ⟨_, _, _, rfl, (mask255 _).1, (mask255 _).2, fun hb => by rw [w64 (by omega) (by omega)]; omega⟩
  · rw [if_neg hc]
    exact ⟨_, _, _, rfl, (mask255 _).1, (mask255 _).2, fun _ => hi⟩
theorem spec_l1Below.ok (b : List Int) (hb : b.length ≤ 140737488355328) (i h n : Int) (hi : 0 ≤ i) : ∃ v i' h', spec_l1Below.f b i h n = some (v, i', h') ∧ 0 ≤ i' ∧ 0 ≤ v ∧ (0 < n → v < n) ∧ (n ≤ 0 → v = 0) := by
  unfold spec_l1Below.f
  by_cases h0 : n ≤ 0
  · rw [if_pos h0]
    exact ⟨_, _, _, rfl, hi, by omega, by omega, fun _ => rfl⟩
  · rw [if_neg h0]
    obtain ⟨v, i1, h1, e1, g0, g1, g2⟩ := spec_l1Byte.ok b i h hi
    rw [e1]
    simp only [Option.bind_some]
    by_cases hc : n ≤ 256
    · rw [if_pos hc, if_neg (by omega), Int.tmod_eq_emod_of_nonneg g0]
      exact ⟨_, _, _, rfl, g2 hb, Int.emod_nonneg _ (by omega), fun _ => Int.emod_lt_of_pos _ (by omega), by omega⟩
    · rw [if_neg hc]
      obtain ⟨v2, i2, h2, e2, k0, k1, k2⟩ := spec_l1Byte.ok b i1 h1 (g2 hb)
      rw [e2]
      simp only [Option.bind_some]
      obtain ⟨v3, i3, h3, e3, m0, m1, m2⟩ := spec_l1Byte.ok b i2 h2 (k2 hb)
      rw [e3]
      simp only [Option.bind_some]
      rw [if_neg (by omega), w64 (n := v * 65536) (by omega) (by omega), w64 (n := v2 * 256) (by omega) (by omega), w64 (n := v * 65536 + v2 * 256) (by omega) (by omega), w64 (by omega) (by omega), Int.tmod_eq_emod_of_nonneg (by omega)]
      exact ⟨_, _, _, rfl, m2 hb, Int.emod_nonneg _ (by omega), fun _ => Int.emod_lt_of_pos _ (by omega), by omega⟩
theorem spec_l1Once.ok (b : List Int) (hb : b.length ≤ 140737488355328) (i h n : Int) (hi : 0 ≤ i) : ∃ (v : Bool) (i' h' : Int), spec_l1Once.f b i h n = some (v, i', h') ∧ 0 ≤ i' := by
  unfold spec_l1Once.f
  obtain ⟨v, i1, h1, e1, g0, _⟩ := spec_l1Below.ok b hb i h n hi
  rw [e1]
  exact ⟨_, _, _, rfl, g0⟩
theorem spec_l1Str.ok (b : List Int) (hb : b.length ≤ 140737488355328) (i h : Int) (hi : 0 ≤ i) (l : List ByteArray) (hl : 0 < l.length) : ∃ v i' h', spec_l1Str.f b i h l = some (v, i', h') ∧ 0 ≤ i' ∧ v ∈ l := by
  unfold spec_l1Str.f
  obtain ⟨v, i1, h1, e1, g0, g1, g2, _⟩ := spec_l1Below.ok b hb i h (l.length : Int) hi
  have g2 := g2 (by omega)
  rw [e1]
  simp only [Option.bind_some]
  rw [if_pos g1, if_pos g2]
  refine ⟨_, _, _, rfl, g0, ?_⟩
  have hv : v.toNat < l.length := by omega
  unfold rdOf
  rw [List.getD_eq_getElem?_getD, List.getElem?_eq_getElem hv]
  exact List.getElem_mem _
theorem spec_l1Int.ok (b : List Int) (hb : b.length ≤ 140737488355328) (i h : Int) (hi : 0 ≤ i) (l : List Int) (hl : 0 < l.length) : ∃ v i' h', spec_l1Int.f b i h l = some (v, i', h') ∧ 0 ≤ i' ∧ v ∈ l := by
  unfold spec_l1Int.f
  obtain ⟨v, i1, h1, e1, g0, g1, g2, _⟩ := spec_l1Below.ok b hb i h (l.length : Int) hi
  have g2 := g2 (by omega)
  rw [e1]
  simp only [Option.bind_some]
  rw [if_pos g1, if_pos g2]
  refine ⟨_, _, _, rfl, g0, ?_⟩
  have e : v = ((v.toNat : Nat) : Int) := by omega
  rw [e, rd_get (show v.toNat < l.length by omega)]
  exact List.getElem_mem _
theorem spec_l1Num.ok (b : List Int) (hb : b.length ≤ 140737488355328) (i h : Int) (hi : 0 ≤ i) : ∃ v i' h', spec_l1Num.f b i h = some (v, i', h') ∧ 0 ≤ i' ∧ 0 ≤ v ∧ v ≤ 1000000000000 := by
  unfold spec_l1Num.f
  obtain ⟨v, i1, h1, e1, g0, _⟩ := spec_l1Below.ok b hb i h 4 hi
  rw [e1]
  simp only [Option.bind_some]
  by_cases c0 : v = 0
  · rw [if_pos c0]
    obtain ⟨v2, i2, h2, e2, k0, k1, k2, _⟩ := spec_l1Below.ok b hb i1 h1 2000 g0
    rw [e2]
    exact ⟨_, _, _, rfl, k0, k1, by have := k2 (by omega); omega⟩
  · rw [if_neg c0]
    by_cases c1 : v = 1
    · rw [if_pos c1]
      obtain ⟨v2, i2, h2, e2, k0, k1⟩ := spec_l1Int.ok b hb i1 h1 g0 ([0, 1, 127, 128, 2147483646, 2147483647, 1000000000000] : List Int) (by simp)
      rw [e2]
      simp only [List.mem_cons, List.not_mem_nil, or_false] at k1
      exact ⟨_, _, _, rfl, k0, by omega, by omega⟩
    · rw [if_neg c1]
      by_cases c2 : v = 2
      · rw [if_pos c2]
        obtain ⟨v2, i2, h2, e2, k0, k1, k2, _⟩ := spec_l1Below.ok b hb i1 h1 1000000 g0
        rw [e2]
        simp only [Option.bind_some]
        obtain ⟨v3, i3, h3, e3, m0, m1, m2, _⟩ := spec_l1Below.ok b hb i2 h2 1000000 k0
        rw [e3]
        simp only [Option.bind_some]
        have k2 := k2 (by omega)
        have m2 := m2 (by omega)
        have q0 : 0 ≤ v2 * v3 := Int.mul_nonneg k1 m1
        have q1 : v2 * v3 ≤ 1000000 * 1000000 := Int.mul_le_mul (by omega) (by omega) m1 (by omega)
        rw [w64 (by omega) (by omega)]
        exact ⟨_, _, _, rfl, m0, q0, by omega⟩
      · rw [if_neg c2]
        obtain ⟨v2, i2, h2, e2, k0, k1, k2, _⟩ := spec_l1Below.ok b hb i1 h1 20 g0
        rw [e2]
        exact ⟨_, _, _, rfl, k0, k1, by have := k2 (by omega); omega⟩
noncomputable def impl_ParseInt.tells (n : Int) (l : List Int) : Int × Bool :=
  if ∀ d ∈ l, 48 ≤ d ∧ d ≤ 57 then (if valF n l > 1000000000000 then (0, false) else (valF n l, true)) else (0, false)
theorem impl_ParseInt.l0_ok (s : ByteArray) (hs : s.size ≤ 13) : ∀ (d k i : Nat) (n : Int), i + d = s.size → 0 ≤ n → n < 10 ^ i → d + 40 < k → impl_ParseInt.l0 k s n (s.size : Int) (i : Int) = some (impl_ParseInt.tells n ((bytesOf s).drop i)) := by
  intro d
  induction d with
  | zero =>
    intro k i n hi h0 h1 hk
    obtain ⟨k, rfl⟩ : ∃ m, k = m + 1 := ⟨k - 1, by omega⟩
    have hd : (bytesOf s).drop i = [] := List.drop_of_length_le (by rw [bytesOf_length]; omega)
    simp only [impl_ParseInt.l0]
    rw [if_neg (by omega), hd]
    unfold impl_ParseInt.tells
    rw [if_pos (show ∀ d ∈ ([] : List Int), 48 ≤ d ∧ d ≤ 57 by simp)]
    have hv : valF n [] = n := rfl
    rw [hv]
    by_cases h2 : n > 1000000000000
    · rw [if_pos h2, if_pos h2]
    · rw [if_neg h2, if_neg h2]
  | succ d ih =>
    intro k i n hi h0 h1 hk
    obtain ⟨k, rfl⟩ : ∃ m, k = m + 1 := ⟨k - 1, by omega⟩
    have h12 : n < 1000000000000 := Int.lt_of_lt_of_le h1 (by
      have : (10 : Int) ^ i ≤ 10 ^ 12 := by
        have : (10 : Nat) ^ i ≤ 10 ^ 12 := Nat.pow_le_pow_right (by decide) (by omega)
        exact_mod_cast this
      omega)
    have hb := bt_range s (i : Int)
    have hd : (bytesOf s).drop i = bt s (i : Int) :: (bytesOf s).drop (i + 1) := by
      rw [rd_drop (show i < (bytesOf s).length by rw [bytesOf_length]; omega), rd_bytesOf]
    simp only [impl_ParseInt.l0]
    rw [if_pos (by omega), if_pos (by omega), if_pos (by omega), hd]
    by_cases h2 : 48 ≤ bt s (i : Int) ∧ bt s (i : Int) ≤ 57
    · rw [if_neg (by omega), if_neg (by omega), show (bt s (i : Int) - 48) % 256 = bt s (i : Int) - 48 by omega, w64 (n := 10 * n) (by omega) (by omega), w64 (n := 10 * n + (bt s (i : Int) - 48)) (by omega) (by omega), w64_succ (n := s.size) (by omega) (by omega)]
      rw [ih k (i + 1) _ (by omega) (by omega) (by rw [Int.pow_succ]; omega) (by omega)]
      congr 1
      unfold impl_ParseInt.tells
      have hv : valF n (bt s (i : Int) :: (bytesOf s).drop (i + 1)) = valF (10 * n + (bt s (i : Int) - 48)) ((bytesOf s).drop (i + 1)) := rfl
      rw [hv]
      by_cases h3 : ∀ d ∈ (bytesOf s).drop (i + 1), 48 ≤ d ∧ d ≤ 57
      · have h4 : ∀ d ∈ bt s (i : Int) :: (bytesOf s).drop (i + 1), 48 ≤ d ∧ d ≤ 57 := by
          intro x hx
          rcases List.mem_cons.mp hx with e | e
          · rw [e]; exact h2
          · exact h3 x e
        rw [if_pos h3, if_pos h4]
      · have h4 : ¬ ∀ d ∈ bt s (i : Int) :: (bytesOf s).drop (i + 1), 48 ≤ d ∧ d ≤ 57 := fun x => h3 (fun y hy => x y (by simp [hy]))
        rw [if_neg h3, if_neg h4]
    · unfold impl_ParseInt.tells
      have h4 : ¬ ∀ d ∈ bt s (i : Int) :: (bytesOf s).drop (i + 1), 48 ≤ d ∧ d ≤ 57 := fun x => h2 (x _ (by simp))
      rw [if_neg h4]
      by_cases h4 : bt s (i : Int) < 48
      · rw [if_pos h4]
      · rw [if_neg h4, if_pos (by omega)]
theorem impl_ParseInt.ok (s : ByteArray) (k : Nat) (hk : 60 ≤ k) : impl_ParseInt.f k s = some (if (1 ≤ s.size ∧ s.size ≤ 13) ∧ ¬ (1 < s.size ∧ bt s 0 = 48) then impl_ParseInt.tells 0 (bytesOf s) else (0, false)) := by
  obtain ⟨k, rfl⟩ : ∃ m, k = m + 1 := ⟨k - 1, by omega⟩
  unfold impl_ParseInt.f
  have no : impl_ParseInt.j0 (k + 1) s true = some (0, false) := by simp [impl_ParseInt.j0]
  have yes : s.size ≤ 13 → impl_ParseInt.j0 (k + 1) s false = some (impl_ParseInt.tells 0 (bytesOf s)) := by
    intro h
    simp only [impl_ParseInt.j0]
    rw [if_neg (by simp)]
    exact impl_ParseInt.l0_ok s h s.size k 0 0 (by omega) (by omega) (by omega) (by omega)
  by_cases h0 : (s.size : Int) = 0
  · rw [if_pos h0, no, if_neg (fun x => by have := x.1; omega)]
  · rw [if_neg h0]
    by_cases h1 : (s.size : Int) > 13
    · rw [if_pos h1, no, if_neg (fun x => by have := x.1; omega)]
    · rw [if_neg h1]
      by_cases h2 : (s.size : Int) > 1
      · rw [if_pos h2, if_pos (by omega)]
        by_cases h3 : bt s 0 = 48
        · rw [show (bt s 0 == 48) = true by rw [beq_iff_eq]; exact h3, no, if_neg (fun x => x.2 ⟨by omega, h3⟩)]
        · rw [show (bt s 0 == 48) = false by rw [beq_eq_false_iff_ne]; exact h3, yes (by omega), if_pos ⟨by omega, fun x => h3 x.2⟩]
      · rw [if_neg h2, yes (by omega), if_pos ⟨by omega, fun x => by omega⟩]
theorem spec_l1Odd.ok (b : List Int) (hb : b.length ≤ 140737488355328) (i h : Int) (hi : 0 ≤ i) : ∃ v i' h', spec_l1Odd.f b i h = some (v, i', h') ∧ 0 ≤ i' ∧ -9223372036854775808 ≤ v ∧ v ≤ 9223372036854775807 := by
  unfold spec_l1Odd.f
  obtain ⟨v2, i2, h2, e2, k0, k1⟩ := spec_l1Int.ok b hb i h hi ([(-1), 0, 1, 2, 255, 256, 65535, 2147483647, 2147483648, 4294967295, 4294967296, (-2147483648), 9223372036854775807, (-9223372036854775808)] : List Int) (by simp)
  rw [e2]
  simp only [List.mem_cons, List.not_mem_nil, or_false] at k1
  exact ⟨_, _, _, rfl, k0, by omega, by omega⟩
theorem spec_l1Raw.ok (b : List Int) (hb : b.length ≤ 140737488355328) (i h : Int) (hi : 0 ≤ i) : ∃ v i' h', spec_l1Raw.f b i h = some (v, i', h') ∧ 0 ≤ i' ∧ -9223372036854775808 ≤ v ∧ v ≤ 9223372036854775807 := by
  unfold spec_l1Raw.f
  obtain ⟨t, i1, h1, e1, g0⟩ := spec_l1Once.ok b hb i h 2 hi
  rw [e1]
  simp only [Option.bind_some]
  by_cases ht : t = true
  · rw [if_pos ht]
    obtain ⟨v2, i2, h2, e2, k0, k1, k2⟩ := spec_l1Odd.ok b hb i1 h1 g0
    rw [e2]
    exact ⟨_, _, _, rfl, k0, k1, k2⟩
  · rw [if_neg ht]
    obtain ⟨v2, i2, h2, e2, k0, k1⟩ := spec_l1Int.ok b hb i1 h1 g0 ([(-1), 1000000000000, 1000000000001] : List Int) (by simp)
    rw [e2]
    simp only [List.mem_cons, List.not_mem_nil, or_false] at k1
    exact ⟨_, _, _, rfl, k0, by omega, by omega⟩
theorem spec_l1One.ok (b : List Int) (hb : b.length ≤ 140737488355328) (i h : Int) (hi : 0 ≤ i) : ∃ v i' h', spec_l1One.f b i h = some (v, i', h') ∧ 0 ≤ i' ∧ -9223372036854775808 ≤ v ∧ v ≤ 9223372036854775807 := by
  unfold spec_l1One.f
  obtain ⟨t, i1, h1, e1, g0⟩ := spec_l1Once.ok b hb i h 6 hi
  rw [e1]
  simp only [Option.bind_some]
  by_cases ht : t = true
  · rw [if_pos ht]
    obtain ⟨v2, i2, h2, e2, k0, k1, k2⟩ := spec_l1Raw.ok b hb i1 h1 g0
    rw [e2]
    exact ⟨_, _, _, rfl, k0, k1, k2⟩
  · rw [if_neg ht]
    obtain ⟨v2, i2, h2, e2, k0, k1, k2⟩ := spec_l1Num.ok b hb i1 h1 g0
    rw [e2]
    exact ⟨_, _, _, rfl, k0, by omega, by omega⟩
theorem impl_InRange.eq (a b c : Int) : impl_InRange.f a b c = some (decide (b ≤ a ∧ a ≤ c)) := by
  unfold impl_InRange.f
  by_cases h : b ≤ a
  · rw [if_pos h]; simp [h]
  · rw [if_neg h]; simp [h]
theorem impl_CeilDiv.eq (a b : Int) : impl_CeilDiv.f a b = some (ceilOf a b) := by
  unfold impl_CeilDiv.f
  rw [impl_InRange.eq, impl_InRange.eq]
  exact ceilOf_of a b
theorem impl_Mod.eq (p q : Int) : impl_Mod.f p q = some (modOf p q) := by
  unfold impl_Mod.f modOf
  rw [impl_InRange.eq]
  by_cases h : 1 ≤ q ∧ q ≤ 1000000000000
  · rw [if_pos h]
    have hq : ¬ q = 0 := by omega
    simp only [Option.bind_some, h, decide_true, and_self, if_true, if_neg hq]
    have h1 := Int.lt_tmod_of_pos p (show 0 < q by omega)
    have h2 := Int.tmod_lt_of_pos p (show 0 < q by omega)
    rw [← tmod_pos h.1]
    by_cases h3 : p.tmod q < 0
    · rw [if_pos h3, if_pos h3, w64 (by omega) (by omega)]
    · rw [if_neg h3, if_neg h3]
  · rw [if_neg h]; simp [h]
/-- What ParseInt tells of a string. -/
noncomputable def told (s : ByteArray) : Int × Bool := if (1 ≤ s.size ∧ s.size ≤ 13) ∧ ¬ (1 < s.size ∧ bt s 0 = 48) then impl_ParseInt.tells 0 (bytesOf s) else (0, false)
theorem told_true (s : ByteArray) (h : (told s).2 = true) : 0 ≤ (told s).1 ∧ (told s).1 ≤ 1000000000000 ∧ fmt (told s).1 = bytesOf s := by
  unfold told at *
  by_cases c : (1 ≤ s.size ∧ s.size ≤ 13) ∧ ¬ (1 < s.size ∧ bt s 0 = 48)
  · rw [if_pos c] at h ⊢
    unfold impl_ParseInt.tells at *
    by_cases d : ∀ d ∈ bytesOf s, 48 ≤ d ∧ d ≤ 57
    · rw [if_pos d] at h ⊢
      by_cases v : valF 0 (bytesOf s) > 1000000000000
      · rw [if_pos v] at h
        cases h
      · rw [if_neg v]
        have hl := bytesOf_length s
        refine ⟨valF_mono (bytesOf s) 0 (by omega) d, by omega, (fmt_iff d (by omega) (by omega) (by omega)).mpr ?_⟩
        rw [rd_bytesOf, hl]
        exact c.2
    · rw [if_neg d] at h
      cases h
  · rw [if_neg c] at h
    cases h
theorem told_itoa (m : Int) (h0 : -9223372036854775808 ≤ m) (h1 : m ≤ 9223372036854775807) : told ⟨(Lib.itoa m).toArray⟩ = if 0 ≤ m ∧ m ≤ 1000000000000 then (m, true) else (0, false) := by
  have hb := bytesOf_itoa m h0 h1
  generalize (⟨(Lib.itoa m).toArray⟩ : ByteArray) = s at hb ⊢
  have hl := bytesOf_length s
  have hr := rd_bytesOf s 0
  rw [hb] at hl hr
  unfold told
  rw [hb, ← hl, ← hr]
  unfold fmtZ
  by_cases hn : m < 0
  · rw [if_pos hn, if_neg (fun x : 0 ≤ m ∧ m ≤ 1000000000000 => by omega)]
    have no : impl_ParseInt.tells 0 (45 :: fmt (-m)) = (0, false) := by
      unfold impl_ParseInt.tells
      rw [if_neg (fun hd => by have := hd 45 (by simp); omega)]
    rw [no]
    split <;> rfl
  · rw [if_neg hn]
    obtain ⟨g1, g2⟩ := fmt_first m (by omega) h1
    have yes : impl_ParseInt.tells 0 (fmt m) = if m > 1000000000000 then (0, false) else (m, true) := by
      unfold impl_ParseInt.tells
      rw [if_pos (show ∀ d ∈ fmt m, 48 ≤ d ∧ d ≤ 57 from fmt_digs m), val_fmt m (by omega) h1]
    rw [yes]
    by_cases hm : m ≤ 1000000000000
    · have := fmt_len13 m (by omega) hm
      rw [if_pos ⟨⟨g1, this⟩, g2⟩, if_neg (by omega), if_pos ⟨by omega, hm⟩]
    · rw [if_pos (show m > 1000000000000 by omega), if_neg (fun x : 0 ≤ m ∧ m ≤ 1000000000000 => hm x.2)]
      split <;> rfl
theorem impl_ParseInt.told (s : ByteArray) (k : Nat) (hk : 60 ≤ k) : impl_ParseInt.f k s = some (told s) := impl_ParseInt.ok s k hk
theorem spec_DrawParseInt.ok (l : List Int) (hn : l.length ≤ 1048576) (k : Nat) (hk : l.length + 80 < k) : ∃ s, spec_DrawParseInt.f k l = some s := by
  unfold spec_DrawParseInt.f
  obtain ⟨h, e⟩ := spec_l1New.ok l (by omega) k (by omega)
  rw [e]
  simp only [Option.bind_some]
  obtain ⟨v, i1, h1, e1, g0⟩ := spec_l1Once.ok l (by omega) 0 h 2 (by omega)
  rw [e1]
  simp only [Option.bind_some]
  by_cases c : v = true
  · rw [if_pos c]
    obtain ⟨u, i2, h2, e2, m0, _⟩ := spec_l1Str.ok l (by omega) i1 h1 g0 ([(⟨#[]⟩ : ByteArray), (⟨#[48]⟩ : ByteArray), (⟨#[48, 48]⟩ : ByteArray), (⟨#[45, 49]⟩ : ByteArray), (⟨#[48, 49]⟩ : ByteArray), (⟨#[55]⟩ : ByteArray), (⟨#[49, 48, 48, 48, 48, 48, 48, 48, 48, 48, 48, 48, 48]⟩ : ByteArray), (⟨#[49, 48, 48, 48, 48, 48, 48, 48, 48, 48, 48, 48, 49]⟩ : ByteArray), (⟨#[57, 57, 57, 57, 57, 57, 57, 57, 57, 57, 57, 57, 57, 57]⟩ : ByteArray), (⟨#[49, 120]⟩ : ByteArray), (⟨#[32, 49]⟩ : ByteArray)] : List ByteArray) (by simp)
    rw [e2]
    exact ⟨_, rfl⟩
  · rw [if_neg c]
    obtain ⟨u, i2, h2, e2, m0, m1, m2⟩ := spec_l1Num.ok l (by omega) i1 h1 g0
    rw [e2]
    simp only [Option.bind_some]
    rw [spec_FormatInt.nonneg u m1 (by omega) k (by omega)]
    exact ⟨_, rfl⟩
theorem spec_DrawFormatInt.ok (l : List Int) (hn : l.length ≤ 1048576) (k : Nat) (hk : l.length + 80 < k) : ∃ m, spec_DrawFormatInt.f k l = some m ∧ -9223372036854775808 ≤ m ∧ m ≤ 9223372036854775807 := by
  unfold spec_DrawFormatInt.f
  obtain ⟨h, e⟩ := spec_l1New.ok l (by omega) k (by omega)
  rw [e]
  simp only [Option.bind_some]
  obtain ⟨v, i1, h1, e1, g0, g1, g2⟩ := spec_l1One.ok l (by omega) 0 h (by omega)
  rw [e1]
  exact ⟨_, rfl, g1, g2⟩
theorem spec_DrawCeilDiv.ok (l : List Int) (hn : l.length ≤ 1048576) (k : Nat) (hk : l.length + 80 < k) : ∃ a b, spec_DrawCeilDiv.f k l = some (a, b) ∧ -9223372036854775808 ≤ a ∧ a ≤ 9223372036854775807 := by
  unfold spec_DrawCeilDiv.f
  obtain ⟨h, e⟩ := spec_l1New.ok l (by omega) k (by omega)
  rw [e]
  simp only [Option.bind_some]
  obtain ⟨v, i1, h1, e1, g0, g1, g2⟩ := spec_l1One.ok l (by omega) 0 h (by omega)
  rw [e1]
  simp only [Option.bind_some]
  obtain ⟨u, i2, h2, e2, m0, m1, m2⟩ := spec_l1One.ok l (by omega) i1 h1 g0
  rw [e2]
  exact ⟨_, _, rfl, g1, g2⟩
theorem tmod_rest {a b : Int} (hb : 1 ≤ b) (hB : b ≤ 1000000000000) : (Int.tmod (wrap64 (Int.tmod a b - a % b)) b != 0) = false := by
  have e := tmod_pos (p := a) hb
  rw [bne_eq_false_iff_eq]
  by_cases c : Int.tmod a b < 0
  · rw [if_pos c] at e
    rw [show Int.tmod a b - a % b = -b by omega, w64 (by omega) (by omega), Int.neg_tmod, Int.tmod_self]
    rfl
  · rw [if_neg c] at e
    rw [show Int.tmod a b - a % b = 0 by omega, w64 (by omega) (by omega), Int.zero_tmod]
theorem ints_j0 (k : Nat) (hk : 5 ≤ k) (a b : Int) (h0 : -9223372036854775808 ≤ a) (h1 : a ≤ 9223372036854775807) : laws_FnIntegers.j0 k a b (ceilOf a b) (modOf a b) false = some true := by
  obtain ⟨k, rfl⟩ : ∃ m, k = m + 3 := ⟨k - 3, by omega⟩
  simp only [laws_FnIntegers.j0]
  rw [if_neg (by simp)]
  by_cases hb : 1 ≤ b ∧ b ≤ 1000000000000
  · rw [if_neg (by omega), decide_eq_false (show ¬ b > 1000000000000 by omega)]
    simp only [laws_FnIntegers.j1]
    have hm : modOf a b = a % b := by unfold modOf; rw [if_pos hb]
    have r0 := Int.emod_nonneg a (show b ≠ 0 by omega)
    have r1 := Int.emod_lt_of_pos a (show 0 < b by omega)
    rw [if_neg (by simp), hm, if_neg (by omega), if_neg (by omega), if_neg (by omega), tmod_rest hb.1 hb.2]
    simp only [laws_FnIntegers.j2]
    rw [if_neg (by simp)]
    by_cases ha0 : a < 0
    · have hc : ceilOf a b = 0 := by unfold ceilOf; rw [if_neg (fun x => by have := x.1.1; omega)]
      rw [if_pos ha0, hc]; rfl
    · by_cases ha1 : a > 1000000000000
      · have hc : ceilOf a b = 0 := by unfold ceilOf; rw [if_neg (fun x => by have := x.1.2; omega)]
        rw [if_neg ha0, if_pos ha1, hc]; rfl
      · have hc : ceilOf a b = (a + b - 1) / b := by unfold ceilOf; rw [if_pos ⟨⟨by omega, by omega⟩, hb⟩]
        rw [if_neg ha0, if_neg ha1, hc]
        have e := Int.mul_ediv_add_emod (a + b - 1) b
        have s0 := Int.emod_nonneg (a + b - 1) (show b ≠ 0 by omega)
        have s1 := Int.emod_lt_of_pos (a + b - 1) (show 0 < b by omega)
        rw [Int.mul_comm] at e
        generalize (a + b - 1) / b * b = p at e ⊢
        rw [w64 (n := p) (by omega) (by omega), if_pos (by omega), w64 (n := p - a) (by omega) (by omega), decide_eq_true (by omega)]
  · have hm : modOf a b = 0 := by unfold modOf; rw [if_neg hb]
    have hc : ceilOf a b = 0 := by unfold ceilOf; rw [if_neg (fun x => hb x.2)]
    have j : laws_FnIntegers.j1 (k + 2) a b (ceilOf a b) (modOf a b) true = some true := by
      simp only [laws_FnIntegers.j1]
      rw [if_pos trivial, hc, hm, if_pos rfl]
      rfl
    by_cases hb1 : b < 1
    · rw [if_pos hb1, j]
    · rw [if_neg hb1, decide_eq_true (show b > 1000000000000 by omega), j]
theorem FnIntegers : laws_FnIntegers.Pure := by
  intro l _ _ hb
  refine ⟨l.length + 200, ?_⟩
  obtain ⟨K, hK⟩ : ∃ K, K = l.length + 200 := ⟨_, rfl⟩
  rw [← hK]
  unfold laws_FnIntegers.f
  rw [laws_big.eq]
  simp only [Option.bind_some]
  by_cases h : (l.length : Int) > 1048576
  · rw [if_pos (by simpa using h)]
  · rw [if_neg (by simpa using h)]
    obtain ⟨s, e1⟩ := spec_DrawParseInt.ok l (by omega) K (by omega)
    obtain ⟨m, e2, m0, m1⟩ := spec_DrawFormatInt.ok l (by omega) K (by omega)
    obtain ⟨a, b, e3, a0, a1⟩ := spec_DrawCeilDiv.ok l (by omega) K (by omega)
    rw [e1]
    simp only [Option.bind_some]
    rw [impl_ParseInt.told s K (by omega)]
    simp only [Option.bind_some]
    rw [e2]
    simp only [Option.bind_some]
    rw [impl_FormatInt.eq m m0 m1]
    simp only [Option.bind_some]
    rw [impl_ParseInt.told _ K (by omega), told_itoa m m0 m1]
    simp only [Option.bind_some]
    rw [e3]
    simp only [Option.bind_some]
    rw [impl_CeilDiv.eq]
    simp only [Option.bind_some]
    rw [impl_Mod.eq]
    simp only [Option.bind_some]
    have fin := ints_j0 K (by omega) a b a0 a1
    have mid : (if m ≥ 0 then (if ((if 0 ≤ m ∧ m ≤ 1000000000000 then (m, true) else ((0 : Int), false)).2 != (decide (m ≤ 1000000000000))) = true then (laws_FnIntegers.j0 K a b (ceilOf a b) (modOf a b) true) else (if (if 0 ≤ m ∧ m ≤ 1000000000000 then (m, true) else ((0 : Int), false)).2 = true then (laws_FnIntegers.j0 K a b (ceilOf a b) (modOf a b) ((if 0 ≤ m ∧ m ≤ 1000000000000 then (m, true) else ((0 : Int), false)).1 != m)) else (laws_FnIntegers.j0 K a b (ceilOf a b) (modOf a b) false))) else (if ((if 0 ≤ m ∧ m ≤ 1000000000000 then (m, true) else ((0 : Int), false)).2 != false) = true then (laws_FnIntegers.j0 K a b (ceilOf a b) (modOf a b) true) else (if (if 0 ≤ m ∧ m ≤ 1000000000000 then (m, true) else ((0 : Int), false)).2 = true then (laws_FnIntegers.j0 K a b (ceilOf a b) (modOf a b) ((if 0 ≤ m ∧ m ≤ 1000000000000 then (m, true) else ((0 : Int), false)).1 != m)) else (laws_FnIntegers.j0 K a b (ceilOf a b) (modOf a b) false)))) = some true := by
      by_cases c : 0 ≤ m ∧ m ≤ 1000000000000
      · rw [if_pos c, if_pos (show m ≥ 0 from c.1), decide_eq_true c.2, if_neg (by simp), if_pos rfl, bne_self_eq_false, fin]
      · rw [if_neg c]
        by_cases c1 : m ≥ 0
        · rw [if_pos c1, decide_eq_false (show ¬ m ≤ 1000000000000 by omega), if_neg (by simp), if_neg (by simp), fin]
        · rw [if_neg c1, if_neg (by simp), if_neg (by simp), fin]
    by_cases c : (told s).2 = true
    · obtain ⟨t0, t1, t2⟩ := told_true s c
      rw [if_pos c, impl_FormatInt.eq _ (by omega) (by omega)]
      simp only [Option.bind_some]
      rw [if_pos ((toList_iff _ _).mpr (by rw [bytesOf_itoa _ (by omega) (by omega), ← t2]; unfold fmtZ; rw [if_neg (by omega)]))]
      exact mid
    · rw [if_neg c]
      exact mid

end Go.Proofs.YtonocoedbihfeaaDoor.Pure
