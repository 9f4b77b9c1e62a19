/- The keyed hash is the hash of key, numbers, key; it changes with one number; a derived key is a key: the law returns true for every slice of bytes that it draws from. -/
import Derived.Test.YtelngjhdpbfifaaQFnKeyedHashx3
import Derived.Test.YtelngjhdpbfifaaBase
import Derived.Test.YtelngjhdpbfifaaLst
import Derived.Test.YtelngjhdpbfifaaVr
import Derived.Test.YtelngjhdpbfifaaSc
namespace Go.Proofs.Ytelngjhdpbfifaa.Pure
open Go Go.RowKit Go.Proofs.Ytelngjhdpbfifaa.PFnKeyedHash Go.Proofs.YtelngjhdpbfifaaW.PrintWords Go.Proofs.YtelngjhdpbfifaaW.PrintLast Go.Proofs.YtelngjhdpbfifaaW.PrintMore Go.Proofs.Ytelngjhdpbfifaa.Base Go.Proofs.Ytelngjhdpbfifaa.Lst Go.Proofs.Ytelngjhdpbfifaa.Vr Go.Proofs.Ytelngjhdpbfifaa.Sc
set_option linter.unusedVariables false
set_option linter.unusedSimpArgs false
theorem laws_big.eq (l : List Int) : laws_big.f l = some (decide ((l.length : Int) > 1048576)) := rfl
theorem spec_l1New.l0_ok (l : List Int) (hn : l.length ≤ 140737488355328) : ∀ (d k i : Nat) (h : Int), i + d = l.length → d < k → ∃ h', spec_l1New.l0 k l h (i : Int) = some (l, 0, h') := by
  intro d
  induction d with
  | zero =>
    intro k i h hi hk
    obtain ⟨k, rfl⟩ : ∃ m, k = m + 1 := ⟨k - 1, by omega⟩
    simp only [spec_l1New.l0]
    rw [if_neg (by omega)]
    exact ⟨_, rfl⟩
  | succ d ih =>
    intro k i h hi hk
    obtain ⟨k, rfl⟩ : ∃ m, k = m + 1 := ⟨k - 1, by omega⟩
    simp only [spec_l1New.l0]
    rw [if_pos (by omega)]
    by_cases h4 : (i : Int) < 4000
    · rw [if_pos h4, if_pos (by omega), w64_succ (n := l.length) (by omega) (by omega)]
      exact ih k (i + 1) _ (by omega) (by omega)
    · rw [if_neg h4]
      exact ⟨_, rfl⟩
theorem spec_l1New.ok (l : List Int) (hn : l.length ≤ 140737488355328) (k : Nat) (hk : l.length < k) : ∃ h', spec_l1New.f k l = some (l, 0, h') := by
  unfold spec_l1New.f
  exact spec_l1New.l0_ok l hn l.length k 0 _ (by omega) hk
theorem spec_l1Byte.ok (b : List Int) (i h : Int) (hi : 0 ≤ i) : ∃ v i' h', spec_l1Byte.f b i h = some (v, i', h') ∧ 0 ≤ v ∧ v ≤ 255 ∧ (b.length ≤ 140737488355328 → 0 ≤ i') := by
  unfold spec_l1Byte.f
  by_cases hc : i < (b.length : Int)
  · rw [if_pos hc, if_pos hi]
    exact ⟨_, _, _, rfl, (mask255 _).1, (mask255 _).2, fun hb => by rw [w64 (by omega) (by omega)]; omega⟩
  · rw [if_neg hc]
    exact ⟨_, _, _, rfl, (mask255 _).1, (mask255 _).2, fun _ => hi⟩
theorem spec_l1Below.ok (b : List Int) (hb : b.length ≤ 140737488355328) (i h n : Int) (hi : 0 ≤ i) : ∃ v i' h', spec_l1Below.f b i h n = some (v, i', h') ∧ 0 ≤ i' ∧ 0 ≤ v ∧ (0 < n → v < n) ∧ (n ≤ 0 → v = 0) := by
  unfold spec_l1Below.f
  by_cases h0 : n ≤ 0
  · rw [if_pos h0]
    exact ⟨_, _, _, rfl, hi, by omega, by omega, fun _ => rfl⟩
  · rw [if_neg h0]
    obtain ⟨v, i1, h1, e1, g0, g1, g2⟩ := spec_l1Byte.ok b i h hi
    rw [e1]
    simp only [Option.bind_some]
    by_cases hc : n ≤ 256
    · rw [if_pos hc, if_neg (by omega), Int.tmod_eq_emod_of_nonneg g0]
      exact ⟨_, _, _, rfl, g2 hb, Int.emod_nonneg _ (by omega), fun _ => Int.emod_lt_of_pos _ (by omega), by omega⟩
    · rw [if_neg hc]
      obtain ⟨v2, i2, h2, e2, k0, k1, k2⟩ := spec_l1Byte.ok b i1 h1 (g2 hb)
      rw [e2]
      simp only [Option.bind_some]
      obtain ⟨v3, i3, h3, e3, m0, m1, m2⟩ := spec_l1Byte.ok b i2 h2 (k2 hb)
      rw [e3]
      simp only [Option.bind_some]
      rw [if_neg (by omega), w64 (n := v * 65536) (by omega) (by omega), w64 (n := v2 * 256) (by omega) (by omega), w64 (n := v * 65536 + v2 * 256) (by omega) (by omega), w64 (by omega) (by omega), Int.tmod_eq_emod_of_nonneg (by omega)]
      exact ⟨_, _, _, rfl, m2 hb, Int.emod_nonneg _ (by omega), fun _ => Int.emod_lt_of_pos _ (by omega), by omega⟩
theorem spec_l1Int.ok (b : List Int) (hb : b.length ≤ 140737488355328) (i h : Int) (hi : 0 ≤ i) (l : List Int) (hl : 0 < l.length) : ∃ v i' h', spec_l1Int.f b i h l = some (v, i', h') ∧ 0 ≤ i' ∧ v ∈ l := by
  unfold spec_l1Int.f
  obtain ⟨v, i1, h1, e1, g0, g1, g2, _⟩ := spec_l1Below.ok b hb i h (l.length : Int) hi
  have g2 := g2 (by omega)
  rw [e1]
  simp only [Option.bind_some]
  rw [if_pos g1, if_pos g2]
  refine ⟨_, _, _, rfl, g0, ?_⟩
  have e : v = ((v.toNat : Nat) : Int) := by omega
  rw [e, rd_get (show v.toNat < l.length by omega)]
  exact List.getElem_mem _
theorem spec_l1Once.ok (b : List Int) (hb : b.length ≤ 140737488355328) (i h n : Int) (hi : 0 ≤ i) : ∃ (v : Bool) (i' h' : Int), spec_l1Once.f b i h n = some (v, i', h') ∧ 0 ≤ i' := by
  unfold spec_l1Once.f
  obtain ⟨v, i1, h1, e1, g0, _⟩ := spec_l1Below.ok b hb i h n hi
  rw [e1]
  exact ⟨_, _, _, rfl, g0⟩
theorem spec_l3Word.ok (b : List Int) (hb : b.length ≤ 140737488355328) (i h : Int) (hi : 0 ≤ i) : ∃ v i' h', spec_l3Word.f b i h = some (v, i', h') ∧ 0 ≤ i' ∧ -1 ≤ v ∧ v ≤ 2147483648 := by
  unfold spec_l3Word.f
  obtain ⟨t, i1, h1, e1, g0⟩ := spec_l1Once.ok b hb i h 10 hi
  rw [e1]
  simp only [Option.bind_some]
  by_cases ht : t = true
  · rw [if_pos ht]
    obtain ⟨v2, i2, h2, e2, k0, k1⟩ := spec_l1Int.ok b hb i1 h1 g0 ([(-1), 2147483647, 2147483648] : List Int) (by simp)
    rw [e2]
    simp only [List.mem_cons, List.not_mem_nil, or_false] at k1
    exact ⟨_, _, _, rfl, k0, by omega, by omega⟩
  · rw [if_neg ht]
    obtain ⟨t2, i2, h2, e2, k0⟩ := spec_l1Once.ok b hb i1 h1 4 g0
    rw [e2]
    simp only [Option.bind_some]
    by_cases ht2 : t2 = true
    · rw [if_pos ht2]
      obtain ⟨v3, i3, h3, e3, m0, m1⟩ := spec_l1Int.ok b hb i2 h2 k0 ([0, 1, 2147483646] : List Int) (by simp)
      rw [e3]
      simp only [List.mem_cons, List.not_mem_nil, or_false] at m1
      exact ⟨_, _, _, rfl, m0, by omega, by omega⟩
    · rw [if_neg ht2]
      obtain ⟨v3, i3, h3, e3, m0, m1, m2, _⟩ := spec_l1Below.ok b hb i2 h2 1000000 k0
      rw [e3]
      simp only [Option.bind_some]
      obtain ⟨v4, i4, h4, e4, n0, n1, n2, _⟩ := spec_l1Below.ok b hb i3 h3 2000 m0
      rw [e4]
      simp only [Option.bind_some]
      have m2 := m2 (by omega)
      have n2 := n2 (by omega)
      have q0 : 0 ≤ v3 * v4 := Int.mul_nonneg m1 n1
      have q1 : v3 * v4 ≤ 1000000 * 2000 := Int.mul_le_mul (by omega) (by omega) n1 (by omega)
      rw [w64 (by omega) (by omega)]
      exact ⟨_, _, _, rfl, n0, by omega, by omega⟩
theorem spec_l3Words.l0_ok (b : List Int) (hb : b.length ≤ 140737488355328) : ∀ (d k : Nat) (x3 : List Int) (i h : Int), 0 ≤ i → x3.length + d ≤ 100 → (∀ x ∈ x3, -1 ≤ x ∧ x ≤ 2147483648) → d < k →
    ∃ l i' h', spec_l3Words.l0 k x3 (d : Int) b i h = some (l, i', h') ∧ 0 ≤ i' ∧ l.length ≤ x3.length + d ∧ ∀ x ∈ l, -1 ≤ x ∧ x ≤ 2147483648 := by
  intro d
  induction d with
  | zero =>
    intro k x3 i h hi hx hr hk
    obtain ⟨k, rfl⟩ : ∃ m, k = m + 1 := ⟨k - 1, by omega⟩
    simp only [spec_l3Words.l0]
    rw [if_neg (by omega)]
    exact ⟨_, _, _, rfl, hi, by omega, hr⟩
  | succ d ih =>
    intro k x3 i h hi hx hr hk
    obtain ⟨k, rfl⟩ : ∃ m, k = m + 1 := ⟨k - 1, by omega⟩
    simp only [spec_l3Words.l0]
    obtain ⟨v, i1, h1, e1, g0, g1, g2⟩ := spec_l3Word.ok b hb i h hi
    rw [if_pos (by omega), e1]
    simp only [Option.bind_some]
    rw [if_pos (by omega), w64 (by omega) (by omega), show ((d + 1 : Nat) : Int) - 1 = (d : Int) by omega]
    obtain ⟨l, i2, h2, e2, m0, m1, m2⟩ := ih k (x3 ++ [v]) i1 h1 g0 (by simp; omega) (by
      intro x hx
      rcases List.mem_append.mp hx with hx | hx
      · exact hr x hx
      · simp only [List.mem_singleton] at hx; subst hx; exact ⟨g1, g2⟩) (by omega)
    exact ⟨l, i2, h2, e2, m0, by simp at m1; omega, m2⟩
theorem spec_l3Words.ok (b : List Int) (hb : b.length ≤ 140737488355328) (i h : Int) (hi : 0 ≤ i) (k : Nat) (hk : 10 < k) : ∃ l i' h', spec_l3Words.f k b i h = some (l, i', h') ∧ 0 ≤ i' ∧ l.length ≤ 4 ∧ ∀ x ∈ l, -1 ≤ x ∧ x ≤ 2147483648 := by
  unfold spec_l3Words.f
  obtain ⟨n, i1, h1, e1, m0, m1, m2, _⟩ := spec_l1Below.ok b hb i h 5 hi
  have m2 := m2 (by omega)
  rw [e1]
  simp only [Option.bind_some]
  obtain ⟨d, rfl⟩ : ∃ d : Nat, n = (d : Int) := ⟨n.toNat, by omega⟩
  obtain ⟨l, i2, h2, e2, g0, g1, g2⟩ := spec_l3Words.l0_ok b hb d k [] i1 h1 m0 (by simp; omega) (by simp) (by omega)
  exact ⟨l, i2, h2, e2, g0, by simp at g1; omega, g2⟩
theorem spec_DrawKeyedHash.ok (l : List Int) (hn : l.length ≤ 1048576) (k : Nat) (hk : l.length + 20 < k) : ∃ key m, spec_DrawKeyedHash.f k l = some (key, m) ∧ m.length ≤ 4 ∧ ∀ x ∈ m, -1 ≤ x ∧ x ≤ 2147483648 := by
  unfold spec_DrawKeyedHash.f
  obtain ⟨h, e⟩ := spec_l1New.ok l (by omega) k (by omega)
  rw [e]
  simp only [Option.bind_some]
  obtain ⟨key, i1, h1, e1, g0, _⟩ := spec_l3Word.ok l (by omega) 0 h (by omega)
  rw [e1]
  simp only [Option.bind_some]
  obtain ⟨m, i2, h2, e2, m0, m1, m2⟩ := spec_l3Words.ok l (by omega) i1 h1 g0 k (by omega)
  rw [e2]
  simp only [Option.bind_some]
  exact ⟨_, _, rfl, m1, m2⟩
theorem impl_InRange.eq (a b c : Int) : impl_InRange.f a b c = some (decide (b ≤ a ∧ a ≤ c)) := by
  unfold impl_InRange.f
  by_cases h : b ≤ a
  · rw [if_pos h]; simp [h]
  · rw [if_neg h]; simp [h]
theorem impl_Mod.eq (p q : Int) : impl_Mod.f p q = some (modOf p q) := by
  unfold impl_Mod.f modOf
  rw [impl_InRange.eq]
  by_cases h : 1 ≤ q ∧ q ≤ 1000000000000
  · rw [if_pos h]
    have hq : ¬ q = 0 := by omega
    simp only [Option.bind_some, h, decide_true, and_self, if_true, if_neg hq]
    have h1 := Int.lt_tmod_of_pos p (show 0 < q by omega)
    have h2 := Int.tmod_lt_of_pos p (show 0 < q by omega)
    rw [← tmod_pos h.1]
    by_cases h3 : p.tmod q < 0
    · rw [if_pos h3, if_pos h3, w64 (by omega) (by omega)]
    · rw [if_neg h3, if_neg h3]
  · rw [if_neg h]; simp [h]
theorem impl_fold.eq (acc v : Int) : impl_fold.f acc v = some (fold acc v) := by
  unfold impl_fold.f fold
  rw [impl_Mod.eq]
  unfold modOf
  rw [if_pos (by omega)]
  rfl
theorem impl_KeyedHash.l0_ok (key : Int) (l : List Int) (hn : l.length ≤ 140737488355328) : ∀ (d k i : Nat) (acc : Int), i + d = l.length → d < k → impl_KeyedHash.l0 k key acc l (l.length : Int) (i : Int) = some (fold (hashFrom acc (l.drop i)) key) := by
  intro d
  induction d with
  | zero =>
    intro k i acc hi hk
    obtain ⟨k, rfl⟩ : ∃ m, k = m + 1 := ⟨k - 1, by omega⟩
    simp only [impl_KeyedHash.l0]
    rw [if_neg (by omega), List.drop_of_length_le (by omega), impl_fold.eq]
    rfl
  | succ d ih =>
    intro k i acc hi hk
    obtain ⟨k, rfl⟩ : ∃ m, k = m + 1 := ⟨k - 1, by omega⟩
    simp only [impl_KeyedHash.l0]
    rw [if_pos (by omega), if_pos (by omega), if_pos (by omega), impl_fold.eq, hashFrom_drop acc (show i < l.length by omega), w64_succ (n := l.length) (by omega) (by omega)]
    simp only [Option.bind_some]
    exact ih k (i + 1) _ (by omega) (by omega)
theorem impl_KeyedHash.ok (key : Int) (l : List Int) (hn : l.length ≤ 140737488355328) (k : Nat) (hk : l.length < k) : impl_KeyedHash.f k key l = some (keyed key l) := by
  unfold impl_KeyedHash.f
  rw [impl_fold.eq]
  simp only [Option.bind_some]
  rw [keyed_eq]
  exact impl_KeyedHash.l0_ok key l hn l.length k 0 _ (by omega) hk
theorem impl_Hash.l0_ok (l : List Int) (hn : l.length ≤ 140737488355328) : ∀ (d k i : Nat) (acc : Int), i + d = l.length → d < k → impl_Hash.l0 k acc l (l.length : Int) (i : Int) = some (hashFrom acc (l.drop i)) := by
  intro d
  induction d with
  | zero =>
    intro k i acc hi hk
    obtain ⟨k, rfl⟩ : ∃ m, k = m + 1 := ⟨k - 1, by omega⟩
    simp only [impl_Hash.l0]
    rw [if_neg (by omega), List.drop_of_length_le (by omega)]
    rfl
  | succ d ih =>
    intro k i acc hi hk
    obtain ⟨k, rfl⟩ : ∃ m, k = m + 1 := ⟨k - 1, by omega⟩
    simp only [impl_Hash.l0]
    rw [if_pos (by omega), if_pos (by omega), if_pos (by omega), impl_fold.eq, hashFrom_drop acc (show i < l.length by omega), w64_succ (n := l.length) (by omega) (by omega)]
    simp only [Option.bind_some]
    exact ih k (i + 1) _ (by omega) (by omega)
theorem impl_Hash.ok (l : List Int) (hn : l.length ≤ 140737488355328) (k : Nat) (hk : l.length < k) : impl_Hash.f k l = some (hashFrom 11 l) := by
  unfold impl_Hash.f
  exact impl_Hash.l0_ok l hn l.length k 0 11 (by omega) hk
theorem laws_at.ok (l : List Int) (hb : isBytes l) (hn : l.length ≤ 1048576) (i : Int) (h0 : 0 ≤ i) (h1 : i ≤ 1000) : ∃ v, laws_at.f l i = some v ∧ 0 ≤ v ∧ v ≤ 255 := by
  unfold laws_at.f
  have hr := bytes_rd hb i
  by_cases h : i < (l.length : Int)
  · rw [if_pos h, if_pos h0, w64 (by omega) (by omega)]
    exact ⟨_, rfl, hr.1, hr.2⟩
  · rw [if_neg h, w64 (n := i * 31) (by omega) (by omega), w64 (n := (l.length : Int) * 7) (by omega) (by omega), w64 (by omega) (by omega), Int.tmod_eq_emod_of_nonneg (by omega)]
    exact ⟨_, rfl, by omega, by omega⟩
theorem spec_l1In.eq (a b c : Int) : spec_l1In.f a b c = some (decide (b ≤ a ∧ a ≤ c)) := by
  unfold spec_l1In.f
  by_cases h : b ≤ a
  · rw [if_pos h]; simp [h]
  · rw [if_neg h]; simp [h]
theorem spec_Mod.eq (p q : Int) : spec_Mod.f p q = some (modOf p q) := by
  unfold spec_Mod.f modOf
  rw [spec_l1In.eq]
  by_cases h : 1 ≤ q ∧ q ≤ 1000000000000
  · rw [if_pos h]
    have hq : ¬ q = 0 := by omega
    simp only [Option.bind_some, h, decide_true, and_self, if_true, if_neg hq]
    congr 1
    have h1 := Int.lt_tmod_of_pos p (show 0 < q by omega)
    have h2 := Int.tmod_lt_of_pos p (show 0 < q by omega)
    rw [w64 (by omega) (by omega), ← tmod_pos h.1]
    by_cases h3 : p.tmod q < 0
    · rw [if_pos h3, Int.tmod_eq_of_lt (by omega) (by omega)]
    · rw [if_neg h3, Int.tmod_eq_emod_of_nonneg (by omega), Int.add_emod_right, Int.emod_eq_of_lt (by omega) (by omega)]
  · rw [if_neg h]; simp [h]
theorem spec_l1Str.ok (b : List Int) (hb : b.length ≤ 140737488355328) (i h : Int) (hi : 0 ≤ i) (l : List ByteArray) (hl : 0 < l.length) : ∃ v i' h', spec_l1Str.f b i h l = some (v, i', h') ∧ 0 ≤ i' ∧ v ∈ l := by
  unfold spec_l1Str.f
  obtain ⟨v, i1, h1, e1, g0, g1, g2, _⟩ := spec_l1Below.ok b hb i h (l.length : Int) hi
  have g2 := g2 (by omega)
  rw [e1]
  simp only [Option.bind_some]
  rw [if_pos g1, if_pos g2]
  refine ⟨_, _, _, rfl, g0, ?_⟩
  have hv : v.toNat < l.length := by omega
  unfold rdOf
  rw [List.getD_eq_getElem?_getD, List.getElem?_eq_getElem hv]
  exact List.getElem_mem _
theorem spec_DrawDeriveFromString.ok (l : List Int) (hn : l.length ≤ 1048576) (k : Nat) (hk : l.length + 20 < k) : ∃ key s, spec_DrawDeriveFromString.f k l = some (key, s) ∧ s.size ≤ 4 := by
  unfold spec_DrawDeriveFromString.f
  obtain ⟨h, e⟩ := spec_l1New.ok l (by omega) k (by omega)
  rw [e]
  simp only [Option.bind_some]
  obtain ⟨key, i1, h1, e1, g0, _⟩ := spec_l3Word.ok l (by omega) 0 h (by omega)
  rw [e1]
  simp only [Option.bind_some]
  obtain ⟨s, i2, h2, e2, m0, m1⟩ := spec_l1Str.ok l (by omega) i1 h1 g0 [(⟨#[]⟩ : ByteArray), (⟨#[97]⟩ : ByteArray), (⟨#[98]⟩ : ByteArray), (⟨#[97, 98]⟩ : ByteArray), (⟨#[110, 101, 119, 115]⟩ : ByteArray), (⟨#[120]⟩ : ByteArray)] (by simp)
  rw [e2]
  simp only [Option.bind_some]
  refine ⟨_, _, rfl, ?_⟩
  simp only [List.mem_cons, List.not_mem_nil, or_false] at m1
  rcases m1 with rfl | rfl | rfl | rfl | rfl | rfl <;> decide
theorem impl_BytesToInts.l0_ok (l : List Int) (hb : isBytes l) (hn : l.length ≤ 1048576) : ∀ (d k i : Nat) (out : List Int), i + d = l.length → out.length + d ≤ 17592186044416 → d < k → impl_BytesToInts.l0 k out l (l.length : Int) (i : Int) = some (out ++ l.drop i) := by
  intro d
  induction d with
  | zero =>
    intro k i out hi ho hk
    obtain ⟨k, rfl⟩ : ∃ m, k = m + 1 := ⟨k - 1, by omega⟩
    simp only [impl_BytesToInts.l0]
    rw [if_neg (by omega), List.drop_of_length_le (by omega), List.append_nil]
  | succ d ih =>
    intro k i out hi ho hk
    obtain ⟨k, rfl⟩ : ∃ m, k = m + 1 := ⟨k - 1, by omega⟩
    have hr := bytes_rd hb (i : Int)
    simp only [impl_BytesToInts.l0]
    rw [if_pos (by omega), if_pos (by omega), if_pos (by omega), if_pos (by omega), w64_succ (n := l.length) (by omega) (by omega), w64 (n := rd l (i : Int)) (by omega) (by omega), rd_drop (xs := l) (i := i) (by omega), ih k (i + 1) _ (by omega) (by simp only [List.length_append, List.length_cons, List.length_nil]; omega) (by omega)]
    simp
theorem impl_BytesToInts.ok (l : List Int) (hb : isBytes l) (hn : l.length ≤ 1048576) (k : Nat) (hk : l.length < k) : impl_BytesToInts.f k l = some ((l.length : Int) :: l) := by
  unfold impl_BytesToInts.f
  exact impl_BytesToInts.l0_ok l hb hn l.length k 0 _ (by omega) (by simp only [List.length_cons, List.length_nil]; omega) hk
theorem impl_DeriveFromString.ok (a0 : Int) (s : ByteArray) (hs : s.size ≤ 1048576) (k : Nat) (hk : s.size + 5 < k) : ∃ v, impl_DeriveFromString.f k a0 s = some v ∧ 1 ≤ v ∧ v ≤ 2147483646 := by
  unfold impl_DeriveFromString.f
  have hl := Sc.bs_length s
  have kb := keyed_bound a0 (((Sc.bs s).length : Int) :: Sc.bs s)
  rw [if_pos hs, impl_BytesToInts.ok _ (Sc.bs_range s) (by omega) _ (by omega)]
  simp only [Option.bind_some]
  rw [impl_KeyedHash.ok _ _ (by rw [List.length_cons]; omega) _ (by rw [List.length_cons]; omega)]
  simp only [Option.bind_some]
  generalize keyed a0 (((Sc.bs s).length : Int) :: Sc.bs s) = n at kb ⊢
  by_cases c : n = 0
  · rw [if_pos c]; exact ⟨_, rfl, by omega, by omega⟩
  · rw [if_neg c]; exact ⟨_, rfl, by omega, by omega⟩
theorem tail_true (l : List Int) (hn : l.length ≤ 1048576) (k : Nat) (hk : l.length + 30 < k) :
    ((spec_DrawDeriveFromString.f k l).bind fun bt246 => ((impl_DeriveFromString.f k bt246.1 bt246.2).bind fun t248 => ((impl_IsValidKey.f t248).bind fun t249 => (some t249)))) = some true := by
  obtain ⟨key, s, e, g⟩ := spec_DrawDeriveFromString.ok l hn k (by omega)
  rw [e]
  simp only [Option.bind_some]
  obtain ⟨v, e1, g1, g2⟩ := impl_DeriveFromString.ok key s (by omega) k (by omega)
  rw [e1]
  simp only [Option.bind_some]
  unfold impl_IsValidKey.f
  rw [impl_InRange.eq]
  simp only [Option.bind_some]
  rw [decide_eq_true ⟨g1, g2⟩]
theorem step_ne {r v : Int} (h0 : 0 ≤ v) (h1 : v ≤ 255) : r % 2147483647 ≠ ((r + 1 + v) % 2147483647) % 2147483647 := by omega
theorem modOf_big (r : Int) : modOf r 2147483647 = r % 2147483647 := by
  unfold modOf
  rw [if_pos ⟨by decide, by decide⟩]
theorem bne_same (x : Int) : (x != x) = false := by simp
theorem FnKeyedHash : laws_FnKeyedHash.Pure := by
  intro l _ _ hb
  have hb' := bytes_wf hb
  obtain ⟨K, hK⟩ : ∃ K, K = l.length + 399 := ⟨_, rfl⟩
  refine ⟨K + 1, ?_⟩
  unfold laws_FnKeyedHash.f
  rw [laws_big.eq]
  simp only [Option.bind_some]
  by_cases h : (l.length : Int) > 1048576
  · rw [if_pos (by simpa using h)]
  · rw [if_neg (by simpa using h)]
    obtain ⟨key, m, e, gl, gr⟩ := spec_DrawKeyedHash.ok l (by omega) (K + 1) (by omega)
    have kb := keyed_bound key m
    have tl := tail_true l (by omega) K (by omega)
    rw [e]
    simp only [Option.bind_some]
    rw [impl_KeyedHash.ok key m (by omega) _ (by omega)]
    simp only [Option.bind_some]
    rw [if_neg (by omega), if_neg (by omega), if_pos (by simp; omega)]
    rw [if_pos (by simp; omega), impl_Hash.ok _ (by simp; omega) _ (by simp; omega)]
    simp only [Option.bind_some]
    rw [show hashFrom 11 ([key] ++ m ++ [key]) = keyed key m from rfl, bne_same]
    simp only [laws_FnKeyedHash.j0]
    rw [if_neg (by simp)]
    by_cases hm : (m.length : Int) > 0
    · rw [if_pos hm]
      simp only [Option.bind_some, List.length_nil, Nat.zero_add, List.nil_append]
      rw [if_pos (by omega)]
      obtain ⟨v0, e0, p0, p1⟩ := laws_at.ok l hb' (by omega) 0 (by omega) (by omega)
      obtain ⟨v1, e1, q0, q1⟩ := laws_at.ok l hb' (by omega) 1 (by omega) (by omega)
      rw [e0]
      simp only [Option.bind_some]
      have t0 := Int.tmod_nonneg (m.length : Int) p0
      have t1 := Int.tmod_lt_of_pos v0 (show 0 < (m.length : Int) by omega)
      rw [if_neg (by omega), if_pos t0, if_pos t1, e1]
      generalize Int.tmod v0 (m.length : Int) = idx at t0 t1 ⊢
      obtain ⟨i, rfl⟩ : ∃ i : Nat, idx = (i : Int) := ⟨idx.toNat, by omega⟩
      have hi : i < m.length := by omega
      have hr := gr (rd m (i : Int)) (by rw [rd_get hi]; exact List.getElem_mem _)
      simp only [Option.bind_some]
      rw [spec_Mod.eq, w64 (n := rd m (i : Int) + 1) (by omega) (by omega), w64 (n := rd m (i : Int) + 1 + v1) (by omega) (by omega)]
      simp only [Option.bind_some]
      rw [modOf_big, impl_KeyedHash.ok key _ (by rw [List.length_set]; omega) _ (by rw [List.length_set]; omega), Int.toNat_natCast]
      simp only [Option.bind_some]
      rw [if_neg (keyed_set key m i _ hi (step_ne q0 q1))]
      exact tl
    · rw [if_neg hm]
      exact tl

end Go.Proofs.Ytelngjhdpbfifaa.Pure
