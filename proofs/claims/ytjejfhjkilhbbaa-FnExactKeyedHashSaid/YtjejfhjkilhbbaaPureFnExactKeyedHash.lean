/- The program's KeyedHash answers as the reference's and leaves the slice as it was, for every key and every slice of numbers of 64 bits. -/
import Derived.Test.YtjejfhjkilhbbaaPFnExactKeyedHashx1
import Derived.Test.YtjejfhjkilhbbaaBase
import Derived.Test.YtjejfhjkilhbbaaLst
namespace Go.Proofs.Ytjejfhjkilhbbaa.Pure
open Go Go.RowKit Go.Proofs.Ytjejfhjkilhbbaa.PFnExactKeyedHash Go.Proofs.YtjejfhjkilhbbaaW.PrintWords Go.Proofs.YtjejfhjkilhbbaaW.PrintLast Go.Proofs.YtjejfhjkilhbbaaW.PrintMore Go.Proofs.Ytjejfhjkilhbbaa.Base Go.Proofs.Ytjejfhjkilhbbaa.Lst
set_option linter.unusedVariables false
set_option linter.unusedSimpArgs false
theorem laws_toIntS.l0_ok (x0 : List Int) (hn : x0.length ≤ 35184372088832) : ∀ (d k i : Nat) (out : List Int), i + d = x0.length → out.length = x0.length → out.take i = x0.take i → d < k → laws_toIntS.l0 k x0 out (i : Int) = some x0 := by
  intro d
  induction d with
  | zero =>
    intro k i out hi hl ht hk
    obtain ⟨k, rfl⟩ : ∃ m, k = m + 1 := ⟨k - 1, by omega⟩
    simp only [laws_toIntS.l0]
    rw [if_neg (by omega), take_all ht (by omega) (by omega)]
  | succ d ih =>
    intro k i out hi hl ht hk
    obtain ⟨k, rfl⟩ : ∃ m, k = m + 1 := ⟨k - 1, by omega⟩
    simp only [laws_toIntS.l0]
    rw [if_pos (by omega), if_pos (by omega), if_pos (by omega), w64_succ (n := x0.length) (by omega) (by omega)]
    refine ih k (i + 1) _ (by omega) (by simpa using hl) ?_ (by omega)
    have hi' : i < x0.length := by omega
    refine take_set_succ hi' hl ht ?_
    rw [rd_get hi']
    exact List.getElem?_eq_getElem hi'
theorem laws_toIntS.ok (l : List Int) (hn : l.length ≤ 1048576) (k : Nat) (hk : l.length < k) : laws_toIntS.f k l = some l := by
  unfold laws_toIntS.f
  rw [if_pos (by omega), if_pos (by omega)]
  exact laws_toIntS.l0_ok l (by omega) l.length k 0 _ (by omega) (by simp) (by simp) hk
theorem laws_eqIntS.l0_ok (x0 x1 : List Int) (hn : x0.length ≤ 140737488355328) (hl : x0.length = x1.length) : ∀ (d k i : Nat), i + d = x0.length → d < k → laws_eqIntS.l0 k x0 x1 (i : Int) = some (decide (x0.drop i = x1.drop i)) := by
  intro d
  induction d with
  | zero =>
    intro k i hi hk
    obtain ⟨k, rfl⟩ : ∃ m, k = m + 1 := ⟨k - 1, by omega⟩
    simp only [laws_eqIntS.l0]
    rw [if_neg (by omega), List.drop_of_length_le (by omega), List.drop_of_length_le (by omega)]
    simp
  | succ d ih =>
    intro k i hi hk
    obtain ⟨k, rfl⟩ : ∃ m, k = m + 1 := ⟨k - 1, by omega⟩
    simp only [laws_eqIntS.l0]
    rw [if_pos (by omega), if_pos (by omega), if_pos (by omega), rd_drop (xs := x0) (i := i) (by omega), rd_drop (xs := x1) (i := i) (by omega)]
    by_cases h : rd x0 (i : Int) = rd x1 (i : Int)
    · rw [if_pos h, w64_succ (n := x0.length) (by omega) (by omega), ih k (i + 1) (by omega) (by omega)]
      simp [h]
    · rw [if_neg h]
      simp [h]
theorem laws_eqIntS.ok (a b : List Int) (hn : a.length ≤ 140737488355328) (k : Nat) (hk : a.length < k) : laws_eqIntS.f k a b = some (decide (a = b)) := by
  unfold laws_eqIntS.f
  by_cases h : (a.length : Int) = (b.length : Int)
  · rw [if_pos h]
    exact laws_eqIntS.l0_ok a b hn (by omega) a.length k 0 (by omega) hk
  · rw [if_neg h]
    have : a ≠ b := fun e => h (by rw [e])
    simp [this]
theorem laws_eqIntS.same (a : List Int) (hn : a.length ≤ 140737488355328) (k : Nat) (hk : a.length < k) : laws_eqIntS.f k a a = some true := by
  rw [laws_eqIntS.ok a a hn k hk]; simp
theorem spec_l1In.eq (a b c : Int) : spec_l1In.f a b c = some (decide (b ≤ a ∧ a ≤ c)) := by
  unfold spec_l1In.f
  by_cases h : b ≤ a
  · rw [if_pos h]; simp [h]
  · rw [if_neg h]; simp [h]
theorem spec_Mod.eq (p q : Int) : spec_Mod.f p q = some (modOf p q) := by
  unfold spec_Mod.f modOf
  rw [spec_l1In.eq]
  by_cases h : 1 ≤ q ∧ q ≤ 1000000000000
  · rw [if_pos h]
    have hq : ¬ q = 0 := by omega
    simp only [Option.bind_some, h, decide_true, and_self, if_true, if_neg hq]
    congr 1
    have h1 := Int.lt_tmod_of_pos p (show 0 < q by omega)
    have h2 := Int.tmod_lt_of_pos p (show 0 < q by omega)
    rw [w64 (by omega) (by omega), ← tmod_pos h.1]
    by_cases h3 : p.tmod q < 0
    · rw [if_pos h3, Int.tmod_eq_of_lt (by omega) (by omega)]
    · rw [if_neg h3, Int.tmod_eq_emod_of_nonneg (by omega), Int.add_emod_right, Int.emod_eq_of_lt (by omega) (by omega)]
  · rw [if_neg h]; simp [h]
theorem spec_Hash.l0_ok (l : List Int) (hn : l.length ≤ 140737488355328) : ∀ (d k i : Nat) (acc : Int), i + d = l.length → d < k → spec_Hash.l0 k l acc (i : Int) = some (hashFrom acc (l.drop i)) := by
  intro d
  induction d with
  | zero =>
    intro k i acc hi hk
    obtain ⟨k, rfl⟩ : ∃ m, k = m + 1 := ⟨k - 1, by omega⟩
    simp only [spec_Hash.l0]
    rw [if_neg (by omega), List.drop_of_length_le (by omega)]
    rfl
  | succ d ih =>
    intro k i acc hi hk
    obtain ⟨k, rfl⟩ : ∃ m, k = m + 1 := ⟨k - 1, by omega⟩
    simp only [spec_Hash.l0]
    rw [if_pos (by omega), if_pos (by omega), spec_Mod.eq, hashFrom_drop acc (show i < l.length by omega), w64_succ (n := l.length) (by omega) (by omega)]
    unfold modOf
    rw [if_pos (by omega)]
    simp only [Option.bind_some]
    exact ih k (i + 1) _ (by omega) (by omega)
theorem spec_Hash.ok (l : List Int) (hn : l.length ≤ 140737488355328) (k : Nat) (hk : l.length < k) : spec_Hash.f k l = some (hashFrom 11 l) := by
  unfold spec_Hash.f
  exact spec_Hash.l0_ok l hn l.length k 0 11 (by omega) hk
theorem spec_KeyedHash.ok (key : Int) (l : List Int) (hn : l.length ≤ 10000000000000) (k : Nat) (hk : l.length + 2 < k) : spec_KeyedHash.f k key l = some (keyed key l) := by
  unfold spec_KeyedHash.f
  simp only [Option.bind_some, List.length_append, List.length_cons, List.length_nil]
  rw [if_pos (by omega), if_pos (by omega), spec_Hash.ok _ (by simp only [List.length_append, List.length_cons, List.length_nil]; omega) k (by simp only [List.length_append, List.length_cons, List.length_nil]; omega)]
  rfl
theorem impl_InRange.eq (a b c : Int) : impl_InRange.f a b c = some (decide (b ≤ a ∧ a ≤ c)) := by
  unfold impl_InRange.f
  by_cases h : b ≤ a
  · rw [if_pos h]; simp [h]
  · rw [if_neg h]; simp [h]
theorem impl_Mod.eq (p q : Int) : impl_Mod.f p q = some (modOf p q) := by
  unfold impl_Mod.f modOf
  rw [impl_InRange.eq]
  by_cases h : 1 ≤ q ∧ q ≤ 1000000000000
  · rw [if_pos h]
    have hq : ¬ q = 0 := by omega
    simp only [Option.bind_some, h, decide_true, and_self, if_true, if_neg hq]
    have h1 := Int.lt_tmod_of_pos p (show 0 < q by omega)
    have h2 := Int.tmod_lt_of_pos p (show 0 < q by omega)
    rw [← tmod_pos h.1]
    by_cases h3 : p.tmod q < 0
    · rw [if_pos h3, if_pos h3, w64 (by omega) (by omega)]
    · rw [if_neg h3, if_neg h3]
  · rw [if_neg h]; simp [h]
theorem impl_fold.eq (acc v : Int) : impl_fold.f acc v = some (fold acc v) := by
  unfold impl_fold.f fold
  rw [impl_Mod.eq]
  unfold modOf
  rw [if_pos (by omega)]
  rfl
theorem impl_KeyedHash.l0_ok (key : Int) (l : List Int) (hn : l.length ≤ 140737488355328) : ∀ (d k i : Nat) (acc : Int), i + d = l.length → d < k → impl_KeyedHash.l0 k key acc l (l.length : Int) (i : Int) = some (fold (hashFrom acc (l.drop i)) key) := by
  intro d
  induction d with
  | zero =>
    intro k i acc hi hk
    obtain ⟨k, rfl⟩ : ∃ m, k = m + 1 := ⟨k - 1, by omega⟩
    simp only [impl_KeyedHash.l0]
    rw [if_neg (by omega), List.drop_of_length_le (by omega), impl_fold.eq]
    rfl
  | succ d ih =>
    intro k i acc hi hk
    obtain ⟨k, rfl⟩ : ∃ m, k = m + 1 := ⟨k - 1, by omega⟩
    simp only [impl_KeyedHash.l0]
    rw [if_pos (by omega), if_pos (by omega), if_pos (by omega), impl_fold.eq, hashFrom_drop acc (show i < l.length by omega), w64_succ (n := l.length) (by omega) (by omega)]
    simp only [Option.bind_some]
    exact ih k (i + 1) _ (by omega) (by omega)
theorem impl_KeyedHash.ok (key : Int) (l : List Int) (hn : l.length ≤ 140737488355328) (k : Nat) (hk : l.length < k) : impl_KeyedHash.f k key l = some (keyed key l) := by
  unfold impl_KeyedHash.f
  rw [impl_fold.eq]
  simp only [Option.bind_some]
  rw [keyed_eq]
  exact impl_KeyedHash.l0_ok key l hn l.length k 0 _ (by omega) hk
theorem FnExactKeyedHash : laws_FnExactKeyedHash.Pure := by
  intro key l _ _ _ _
  refine ⟨l.length + 4, ?_⟩
  unfold laws_FnExactKeyedHash.f
  by_cases h : (l.length : Int) > 1048576
  · rw [if_pos h]
  · have hl : l.length ≤ 140737488355328 := by omega
    have k1 : l.length < l.length + 4 := by omega
    rw [if_neg h, laws_toIntS.ok l (by omega) _ k1]
    simp only [Option.bind_some, spec_KeyedHash.ok key l (show l.length ≤ 10000000000000 by omega) _ (show l.length + 2 < l.length + 4 by omega), impl_KeyedHash.ok key l hl _ k1, laws_eqIntS.same l hl _ k1, if_true]

end Go.Proofs.Ytjejfhjkilhbbaa.Pure
