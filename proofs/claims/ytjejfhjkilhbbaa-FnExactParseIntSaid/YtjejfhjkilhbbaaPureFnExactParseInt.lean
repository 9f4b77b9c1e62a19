/- The program's ParseInt answers as the reference's, for every string. -/
import Derived.Test.YtjejfhjkilhbbaaPFnExactParseIntx1
import Derived.Test.YtjejfhjkilhbbaaBase
import Derived.Test.YtjejfhjkilhbbaaLst
import Derived.Test.YtjejfhjkilhbbaaPn
namespace Go.Proofs.Ytjejfhjkilhbbaa.Pure
open Go Go.RowKit Go.Proofs.Ytjejfhjkilhbbaa.PFnExactParseInt Go.Proofs.YtjejfhjkilhbbaaW.PrintWords Go.Proofs.YtjejfhjkilhbbaaW.PrintLast Go.Proofs.YtjejfhjkilhbbaaW.PrintMore Go.Proofs.Ytjejfhjkilhbbaa.Base Go.Proofs.Ytjejfhjkilhbbaa.Lst Go.Proofs.Ytjejfhjkilhbbaa.Pn
set_option linter.unusedVariables false
set_option linter.unusedSimpArgs false
theorem spec_l1In.eq (a b c : Int) : spec_l1In.f a b c = some (decide (b ≤ a ∧ a ≤ c)) := by
  unfold spec_l1In.f
  by_cases h : b ≤ a
  · rw [if_pos h]; simp [h]
  · rw [if_neg h]; simp [h]
theorem spec_FormatInt.l0_nonneg (x0 : Int) (h0 : 0 ≤ x0) : ∀ (d k : Nat) (x : Int) (a : List Int), 0 ≤ x → x < 10 ^ d → d ≤ 20 → a.length + d ≤ 1000 → d < k → x ≤ 9223372036854775807 → spec_FormatInt.l0 k x0 (strOfNums a) x = some (strOfNums (fmtF d x a)) := by
  intro d
  induction d with
  | zero =>
    intro k x a hx0 hx1 _ _ hk _
    obtain ⟨k, rfl⟩ : ∃ m, k = m + 1 := ⟨k - 1, by omega⟩
    have : x = 0 := by simp at hx1; omega
    simp only [spec_FormatInt.l0]
    rw [if_pos this, if_neg (by omega)]
    rfl
  | succ d ih =>
    intro k x a hx0 hx1 hd ha hk hx2
    obtain ⟨k, rfl⟩ : ∃ m, k = m + 1 := ⟨k - 1, by omega⟩
    simp only [spec_FormatInt.l0, fmtF]
    by_cases hx : x = 0
    · rw [if_pos hx, if_neg (by omega), if_pos hx]
    · rw [if_neg hx, if_neg hx, Int.tmod_eq_emod_of_nonneg hx0, if_neg (by omega)]
      simp only [Option.bind_some]
      rw [if_pos (by rw [strOfNums_size, strOfNums_size]; simp only [List.length_cons, List.length_nil]; omega), w64 (n := 48 + x % 10) (by omega) (by omega), show (48 + x % 10) % 256 = 48 + x % 10 by omega, str_cons, Int.tdiv_eq_ediv_of_nonneg hx0, w64 (n := x / 10) (by omega) (by omega)]
      exact ih k (x / 10) _ (by omega) (by rw [Int.pow_succ] at hx1; omega) (by omega) (by simp only [List.length_cons]; omega) (by omega) (by omega)
theorem spec_FormatInt.nonneg (n : Int) (h0 : 0 ≤ n) (h1 : n ≤ 9223372036854775807) (k : Nat) (hk : 30 ≤ k) : spec_FormatInt.f k n = some (strOfNums (fmt n)) := by
  unfold spec_FormatInt.f fmt
  by_cases h : n = 0
  · rw [if_pos h, if_pos h]; rfl
  · rw [if_neg h, if_neg h]
    exact spec_FormatInt.l0_nonneg n h0 20 k n [] h0 (by omega) (by omega) (by simp) (by omega) h1
/-- What the digits tell, as both texts go through them. -/
noncomputable def spec_ParseInt.tells (s : ByteArray) (n : Int) (l : List Int) : Int × Bool :=
  if ∀ d ∈ l, 48 ≤ d ∧ d ≤ 57 then (if valF n l > 1000000000000 then (0, false) else if fmt (valF n l) = bytesOf s then (valF n l, true) else (0, false)) else (0, false)
theorem spec_ParseInt.l0_ok (s : ByteArray) (hs : s.size ≤ 13) : ∀ (d k i : Nat) (n : Int), i + d = s.size → 0 ≤ n → n < 10 ^ i → d + 40 < k → spec_ParseInt.l0 k s n (i : Int) = some (spec_ParseInt.tells s n ((bytesOf s).drop i)) := by
  intro d
  induction d with
  | zero =>
    intro k i n hi h0 h1 hk
    obtain ⟨k, rfl⟩ : ∃ m, k = m + 1 := ⟨k - 1, by omega⟩
    have h13 : n < 10000000000000 := Int.lt_of_lt_of_le h1 (by
      have : (10 : Int) ^ i ≤ 10 ^ 13 := by
        have : (10 : Nat) ^ i ≤ 10 ^ 13 := Nat.pow_le_pow_right (by decide) (by omega)
        exact_mod_cast this
      omega)
    have hd : (bytesOf s).drop i = [] := List.drop_of_length_le (by rw [bytesOf_length]; omega)
    simp only [spec_ParseInt.l0]
    rw [if_neg (by omega), hd]
    unfold spec_ParseInt.tells
    rw [if_pos (show ∀ d ∈ ([] : List Int), 48 ≤ d ∧ d ≤ 57 by simp)]
    have hv : valF n [] = n := rfl
    rw [hv]
    by_cases h2 : n > 1000000000000
    · rw [if_pos h2, if_pos h2]
    · rw [if_neg h2, if_neg h2, spec_FormatInt.nonneg n h0 (by omega) k (by omega)]
      simp only [Option.bind_some]
      by_cases h3 : fmt n = bytesOf s
      · rw [if_pos ((toList_iff _ _).mpr (by rw [bytesOf_str (fmt_bytes n)]; exact h3)), if_pos h3]
      · rw [if_neg (fun x => h3 (by rw [toList_iff, bytesOf_str (fmt_bytes n)] at x; exact x)), if_neg h3]
  | succ d ih =>
    intro k i n hi h0 h1 hk
    obtain ⟨k, rfl⟩ : ∃ m, k = m + 1 := ⟨k - 1, by omega⟩
    have h12 : n < 1000000000000 := Int.lt_of_lt_of_le h1 (by
      have : (10 : Int) ^ i ≤ 10 ^ 12 := by
        have : (10 : Nat) ^ i ≤ 10 ^ 12 := Nat.pow_le_pow_right (by decide) (by omega)
        exact_mod_cast this
      omega)
    have hb := bt_range s (i : Int)
    have hd : (bytesOf s).drop i = bt s (i : Int) :: (bytesOf s).drop (i + 1) := by
      rw [rd_drop (show i < (bytesOf s).length by rw [bytesOf_length]; omega), rd_bytesOf]
    simp only [spec_ParseInt.l0]
    rw [if_pos (by omega), if_pos (by omega), spec_l1In.eq, w64 (n := bt s (i : Int)) (by omega) (by omega), hd]
    simp only [Option.bind_some]
    by_cases h2 : 48 ≤ bt s (i : Int) ∧ bt s (i : Int) ≤ 57
    · rw [if_pos (decide_eq_true h2), show (bt s (i : Int) - 48) % 256 = bt s (i : Int) - 48 by omega, w64 (n := 10 * n) (by omega) (by omega), w64 (n := 10 * n + (bt s (i : Int) - 48)) (by omega) (by omega), w64_succ (n := s.size) (by omega) (by omega)]
      rw [ih k (i + 1) _ (by omega) (by omega) (by rw [Int.pow_succ]; omega) (by omega)]
      congr 1
      unfold spec_ParseInt.tells
      have hv : valF n (bt s (i : Int) :: (bytesOf s).drop (i + 1)) = valF (10 * n + (bt s (i : Int) - 48)) ((bytesOf s).drop (i + 1)) := rfl
      rw [hv]
      by_cases h3 : ∀ d ∈ (bytesOf s).drop (i + 1), 48 ≤ d ∧ d ≤ 57
      · have h4 : ∀ d ∈ bt s (i : Int) :: (bytesOf s).drop (i + 1), 48 ≤ d ∧ d ≤ 57 := by
          intro x hx
          rcases List.mem_cons.mp hx with e | e
          · rw [e]; exact h2
          · exact h3 x e
        rw [if_pos h3, if_pos h4]
      · have h4 : ¬ ∀ d ∈ bt s (i : Int) :: (bytesOf s).drop (i + 1), 48 ≤ d ∧ d ≤ 57 := fun x => h3 (fun y hy => x y (by simp [hy]))
        rw [if_neg h3, if_neg h4]
    · rw [if_neg (by rw [decide_eq_true_eq]; exact h2)]
      unfold spec_ParseInt.tells
      have h4 : ¬ ∀ d ∈ bt s (i : Int) :: (bytesOf s).drop (i + 1), 48 ≤ d ∧ d ≤ 57 := fun x => h2 (x _ (by simp))
      rw [if_neg h4]
theorem spec_ParseInt.ok (s : ByteArray) (k : Nat) (hk : 60 ≤ k) : spec_ParseInt.f k s = some (if 1 ≤ s.size ∧ s.size ≤ 13 then spec_ParseInt.tells s 0 (bytesOf s) else (0, false)) := by
  unfold spec_ParseInt.f
  rw [spec_l1In.eq]
  simp only [Option.bind_some]
  by_cases h : 1 ≤ s.size ∧ s.size ≤ 13
  · rw [if_pos (decide_eq_true (by omega)), if_pos h]
    exact spec_ParseInt.l0_ok s h.2 s.size k 0 0 (by omega) (by omega) (by omega) (by omega)
  · rw [if_neg (by rw [decide_eq_true_eq]; omega), if_neg h]
noncomputable def impl_ParseInt.tells (n : Int) (l : List Int) : Int × Bool :=
  if ∀ d ∈ l, 48 ≤ d ∧ d ≤ 57 then (if valF n l > 1000000000000 then (0, false) else (valF n l, true)) else (0, false)
theorem impl_ParseInt.l0_ok (s : ByteArray) (hs : s.size ≤ 13) : ∀ (d k i : Nat) (n : Int), i + d = s.size → 0 ≤ n → n < 10 ^ i → d + 40 < k → impl_ParseInt.l0 k s n (s.size : Int) (i : Int) = some (impl_ParseInt.tells n ((bytesOf s).drop i)) := by
  intro d
  induction d with
  | zero =>
    intro k i n hi h0 h1 hk
    obtain ⟨k, rfl⟩ : ∃ m, k = m + 1 := ⟨k - 1, by omega⟩
    have hd : (bytesOf s).drop i = [] := List.drop_of_length_le (by rw [bytesOf_length]; omega)
    simp only [impl_ParseInt.l0]
    rw [if_neg (by omega), hd]
    unfold impl_ParseInt.tells
    rw [if_pos (show ∀ d ∈ ([] : List Int), 48 ≤ d ∧ d ≤ 57 by simp)]
    have hv : valF n [] = n := rfl
    rw [hv]
    by_cases h2 : n > 1000000000000
    · rw [if_pos h2, if_pos h2]
    · rw [if_neg h2, if_neg h2]
  | succ d ih =>
    intro k i n hi h0 h1 hk
    obtain ⟨k, rfl⟩ : ∃ m, k = m + 1 := ⟨k - 1, by omega⟩
    have h12 : n < 1000000000000 := Int.lt_of_lt_of_le h1 (by
      have : (10 : Int) ^ i ≤ 10 ^ 12 := by
        have : (10 : Nat) ^ i ≤ 10 ^ 12 := Nat.pow_le_pow_right (by decide) (by omega)
        exact_mod_cast this
      omega)
    have hb := bt_range s (i : Int)
    have hd : (bytesOf s).drop i = bt s (i : Int) :: (bytesOf s).drop (i + 1) := by
      rw [rd_drop (show i < (bytesOf s).length by rw [bytesOf_length]; omega), rd_bytesOf]
    simp only [impl_ParseInt.l0]
    rw [if_pos (by omega), if_pos (by omega), if_pos (by omega), hd]
    by_cases h2 : 48 ≤ bt s (i : Int) ∧ bt s (i : Int) ≤ 57
    · rw [if_neg (by omega), if_neg (by omega), show (bt s (i : Int) - 48) % 256 = bt s (i : Int) - 48 by omega, w64 (n := 10 * n) (by omega) (by omega), w64 (n := 10 * n + (bt s (i : Int) - 48)) (by omega) (by omega), w64_succ (n := s.size) (by omega) (by omega)]
      rw [ih k (i + 1) _ (by omega) (by omega) (by rw [Int.pow_succ]; omega) (by omega)]
      congr 1
      unfold impl_ParseInt.tells
      have hv : valF n (bt s (i : Int) :: (bytesOf s).drop (i + 1)) = valF (10 * n + (bt s (i : Int) - 48)) ((bytesOf s).drop (i + 1)) := rfl
      rw [hv]
      by_cases h3 : ∀ d ∈ (bytesOf s).drop (i + 1), 48 ≤ d ∧ d ≤ 57
      · have h4 : ∀ d ∈ bt s (i : Int) :: (bytesOf s).drop (i + 1), 48 ≤ d ∧ d ≤ 57 := by
          intro x hx
          rcases List.mem_cons.mp hx with e | e
          · rw [e]; exact h2
          · exact h3 x e
        rw [if_pos h3, if_pos h4]
      · have h4 : ¬ ∀ d ∈ bt s (i : Int) :: (bytesOf s).drop (i + 1), 48 ≤ d ∧ d ≤ 57 := fun x => h3 (fun y hy => x y (by simp [hy]))
        rw [if_neg h3, if_neg h4]
    · unfold impl_ParseInt.tells
      have h4 : ¬ ∀ d ∈ bt s (i : Int) :: (bytesOf s).drop (i + 1), 48 ≤ d ∧ d ≤ 57 := fun x => h2 (x _ (by simp))
      rw [if_neg h4]
      by_cases h4 : bt s (i : Int) < 48
      · rw [if_pos h4]
      · rw [if_neg h4, if_pos (by omega)]
theorem impl_ParseInt.ok (s : ByteArray) (k : Nat) (hk : 60 ≤ k) : impl_ParseInt.f k s = some (if (1 ≤ s.size ∧ s.size ≤ 13) ∧ ¬ (1 < s.size ∧ bt s 0 = 48) then impl_ParseInt.tells 0 (bytesOf s) else (0, false)) := by
  obtain ⟨k, rfl⟩ : ∃ m, k = m + 1 := ⟨k - 1, by omega⟩
  unfold impl_ParseInt.f
  have no : impl_ParseInt.j0 (k + 1) s true = some (0, false) := by simp [impl_ParseInt.j0]
  have yes : s.size ≤ 13 → impl_ParseInt.j0 (k + 1) s false = some (impl_ParseInt.tells 0 (bytesOf s)) := by
    intro h
    simp only [impl_ParseInt.j0]
    rw [if_neg (by simp)]
    exact impl_ParseInt.l0_ok s h s.size k 0 0 (by omega) (by omega) (by omega) (by omega)
  by_cases h0 : (s.size : Int) = 0
  · rw [if_pos h0, no, if_neg (fun x => by have := x.1; omega)]
  · rw [if_neg h0]
    by_cases h1 : (s.size : Int) > 13
    · rw [if_pos h1, no, if_neg (fun x => by have := x.1; omega)]
    · rw [if_neg h1]
      by_cases h2 : (s.size : Int) > 1
      · rw [if_pos h2, if_pos (by omega)]
        by_cases h3 : bt s 0 = 48
        · rw [show (bt s 0 == 48) = true by rw [beq_iff_eq]; exact h3, no, if_neg (fun x => x.2 ⟨by omega, h3⟩)]
        · rw [show (bt s 0 == 48) = false by rw [beq_eq_false_iff_ne]; exact h3, yes (by omega), if_pos ⟨by omega, fun x => h3 x.2⟩]
      · rw [if_neg h2, yes (by omega), if_pos ⟨by omega, fun x => by omega⟩]
/-- Both tell the same. -/
theorem parse_same (s : ByteArray) : (if 1 ≤ s.size ∧ s.size ≤ 13 then spec_ParseInt.tells s 0 (bytesOf s) else (0, false)) = (if (1 ≤ s.size ∧ s.size ≤ 13) ∧ ¬ (1 < s.size ∧ bt s 0 = 48) then impl_ParseInt.tells 0 (bytesOf s) else (0, false)) := by
  by_cases h : 1 ≤ s.size ∧ s.size ≤ 13
  · rw [if_pos h]
    unfold spec_ParseInt.tells impl_ParseInt.tells
    by_cases hd : ∀ d ∈ bytesOf s, 48 ≤ d ∧ d ≤ 57
    · rw [if_pos hd, if_pos hd]
      have hl := bytesOf_length s
      by_cases hv : valF 0 (bytesOf s) > 1000000000000
      · rw [if_pos hv, if_pos hv]; simp
      · rw [if_neg hv, if_neg hv]
        have key := fmt_iff (l := bytesOf s) hd (by omega) (by omega) (by omega)
        rw [rd_bytesOf, hl] at key
        by_cases hz : 1 < s.size ∧ bt s 0 = 48
        · rw [if_neg (fun x => (key.mp x) hz), if_neg (fun x => x.2 hz)]
        · rw [if_pos (key.mpr hz), if_pos ⟨h, hz⟩]
    · rw [if_neg hd, if_neg hd]; simp
  · rw [if_neg h, if_neg (fun x => h x.1)]
theorem FnExactParseInt : laws_FnExactParseInt.Pure := by
  intro s _
  refine ⟨100, ?_⟩
  unfold laws_FnExactParseInt.f
  by_cases h : (s.size : Int) > 1048576
  · rw [if_pos h]
  · rw [if_neg h, spec_ParseInt.ok s 100 (by omega), impl_ParseInt.ok s 100 (by omega), parse_same]
    simp

end Go.Proofs.Ytjejfhjkilhbbaa.Pure
