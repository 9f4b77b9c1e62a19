/- An integer is decoded from its varint, and a decoded varint is the encoding of its integer: the law returns true for every slice of bytes that it draws from. -/
import Derived.Test.YtelngjhdpbfifaaQFnVarintsx4
import Derived.Test.YtelngjhdpbfifaaBase
import Derived.Test.YtelngjhdpbfifaaLst
import Derived.Test.YtelngjhdpbfifaaVr
namespace Go.Proofs.Ytelngjhdpbfifaa.Pure
open Go Go.RowKit Go.Proofs.Ytelngjhdpbfifaa.PFnVarints Go.Proofs.YtelngjhdpbfifaaW.PrintWords Go.Proofs.YtelngjhdpbfifaaW.PrintLast Go.Proofs.YtelngjhdpbfifaaW.PrintMore Go.Proofs.Ytelngjhdpbfifaa.Base Go.Proofs.Ytelngjhdpbfifaa.Lst Go.Proofs.Ytelngjhdpbfifaa.Vr
set_option linter.unusedVariables false
set_option linter.unusedSimpArgs false
theorem laws_big.eq (l : List Int) : laws_big.f l = some (decide ((l.length : Int) > 1048576)) := rfl
theorem laws_sameBytes.l0_ok (x0 x1 : List Int) (hn : x0.length ≤ 140737488355328) (hl : x0.length = x1.length) : ∀ (d k i : Nat), i + d = x0.length → d < k → laws_sameBytes.l0 k x0 x1 (i : Int) = some (decide (x0.drop i = x1.drop i)) := by
  intro d
  induction d with
  | zero =>
    intro k i hi hk
    obtain ⟨k, rfl⟩ : ∃ m, k = m + 1 := ⟨k - 1, by omega⟩
    simp only [laws_sameBytes.l0]
    rw [if_neg (by omega), List.drop_of_length_le (by omega), List.drop_of_length_le (by omega)]
    simp
  | succ d ih =>
    intro k i hi hk
    obtain ⟨k, rfl⟩ : ∃ m, k = m + 1 := ⟨k - 1, by omega⟩
    simp only [laws_sameBytes.l0]
    rw [if_pos (by omega), if_pos (by omega), if_pos (by omega), rd_drop (xs := x0) (i := i) (by omega), rd_drop (xs := x1) (i := i) (by omega)]
    by_cases h : rd x0 (i : Int) = rd x1 (i : Int)
    · rw [if_pos h, w64_succ (n := x0.length) (by omega) (by omega), ih k (i + 1) (by omega) (by omega)]
      simp [h]
    · rw [if_neg h]
      simp [h]
theorem laws_sameBytes.ok (a b : List Int) (hn : a.length ≤ 140737488355328) (k : Nat) (hk : a.length < k) : laws_sameBytes.f k a b = some (decide (a = b)) := by
  unfold laws_sameBytes.f
  by_cases h : (a.length : Int) = (b.length : Int)
  · rw [if_pos h]
    exact laws_sameBytes.l0_ok a b hn (by omega) a.length k 0 (by omega) hk
  · rw [if_neg h]
    have : a ≠ b := fun e => h (by rw [e])
    simp [this]
theorem laws_sameBytes.same (a : List Int) (hn : a.length ≤ 140737488355328) (k : Nat) (hk : a.length < k) : laws_sameBytes.f k a a = some true := by
  rw [laws_sameBytes.ok a a hn k hk]; simp
theorem spec_l1New.l0_ok (l : List Int) (hn : l.length ≤ 140737488355328) : ∀ (d k i : Nat) (h : Int), i + d = l.length → d < k → ∃ h', spec_l1New.l0 k l h (i : Int) = some (l, 0, h') := by
  intro d
  induction d with
  | zero =>
    intro k i h hi hk
    obtain ⟨k, rfl⟩ : ∃ m, k = m + 1 := ⟨k - 1, by omega⟩
    simp only [spec_l1New.l0]
    rw [if_neg (by omega)]
    exact ⟨_, rfl⟩
  | succ d ih =>
    intro k i h hi hk
    obtain ⟨k, rfl⟩ : ∃ m, k = m + 1 := ⟨k - 1, by omega⟩
    simp only [spec_l1New.l0]
    rw [if_pos (by omega)]
    by_cases h4 : (i : Int) < 4000
    · rw [if_pos h4, if_pos (by omega), w64_succ (n := l.length) (by omega) (by omega)]
      exact ih k (i + 1) _ (by omega) (by omega)
    · rw [if_neg h4]
      exact ⟨_, rfl⟩
theorem spec_l1New.ok (l : List Int) (hn : l.length ≤ 140737488355328) (k : Nat) (hk : l.length < k) : ∃ h', spec_l1New.f k l = some (l, 0, h') := by
  unfold spec_l1New.f
  exact spec_l1New.l0_ok l hn l.length k 0 _ (by omega) hk
theorem spec_l1Byte.ok (b : List Int) (i h : Int) (hi : 0 ≤ i) : ∃ v i' h', spec_l1Byte.f b i h = some (v, i', h') ∧ 0 ≤ v ∧ v ≤ 255 ∧ (b.length ≤ 140737488355328 → 0 ≤ i') := by
  unfold spec_l1Byte.f
  by_cases hc : i < (b.length : Int)
  · rw [if_pos hc, if_pos hi]
    exact ⟨_, _, _, rfl, (mask255 _).1, (mask255 _).2, fun hb => by rw [w64 (by omega) (by omega)]; omega⟩
  · rw [if_neg hc]
    exact ⟨_, _, _, rfl, (mask255 _).1, (mask255 _).2, fun _ => hi⟩
theorem spec_l1Bytes.l0_ok (b : List Int) (hb : b.length ≤ 140737488355328) (n : Nat) (hn : n ≤ 1000) : ∀ (d k i : Nat) (out : List Int) (p h : Int), i + d = n → out.length = i → isBytes out → 0 ≤ p → d < k →
    ∃ out' p' h', spec_l1Bytes.l0 k (n : Int) out (i : Int) b p h = some (out', p', h') ∧ out'.length = n ∧ isBytes out' ∧ 0 ≤ p' := by
  intro d
  induction d with
  | zero =>
    intro k i out p h hi ho hob hp hk
    obtain ⟨k, rfl⟩ : ∃ m, k = m + 1 := ⟨k - 1, by omega⟩
    simp only [spec_l1Bytes.l0]
    rw [if_neg (by omega)]
    exact ⟨_, _, _, rfl, by omega, hob, hp⟩
  | succ d ih =>
    intro k i out p h hi ho hob hp hk
    obtain ⟨k, rfl⟩ : ∃ m, k = m + 1 := ⟨k - 1, by omega⟩
    simp only [spec_l1Bytes.l0]
    obtain ⟨v, p1, h1, e1, g0, g1, g2⟩ := spec_l1Byte.ok b p h hp
    rw [if_pos (by omega), e1]
    simp only [Option.bind_some]
    rw [if_pos (by omega), w64_succ (n := n) (by omega) (by omega)]
    refine ih k (i + 1) _ p1 h1 (by omega) (by simp; omega) ?_ (g2 hb) (by omega)
    intro x hx
    rcases List.mem_append.mp hx with hx | hx
    · exact hob x hx
    · simp only [List.mem_singleton] at hx; subst hx; omega
theorem spec_l1Bytes.ok (b : List Int) (hb : b.length ≤ 140737488355328) (n : Int) (h0 : 0 ≤ n) (h1 : n ≤ 1000) (p h : Int) (hp : 0 ≤ p) (k : Nat) (hk : n < k) :
    ∃ out' p' h', spec_l1Bytes.f k b p h n = some (out', p', h') ∧ (out'.length : Int) = n ∧ isBytes out' ∧ 0 ≤ p' := by
  unfold spec_l1Bytes.f
  obtain ⟨m, rfl⟩ : ∃ m : Nat, n = (m : Int) := ⟨n.toNat, by omega⟩
  obtain ⟨o, p', h', e, g0, g1, g2⟩ := spec_l1Bytes.l0_ok b hb m (by omega) m k 0 [] p h (by omega) rfl (fun x hx => by simp at hx) hp (by omega)
  exact ⟨o, p', h', e, by omega, g1, g2⟩
theorem spec_l1Below.ok (b : List Int) (hb : b.length ≤ 140737488355328) (i h n : Int) (hi : 0 ≤ i) : ∃ v i' h', spec_l1Below.f b i h n = some (v, i', h') ∧ 0 ≤ i' ∧ 0 ≤ v ∧ (0 < n → v < n) ∧ (n ≤ 0 → v = 0) := by
  unfold spec_l1Below.f
  by_cases h0 : n ≤ 0
  · rw [if_pos h0]
    exact ⟨_, _, _, rfl, hi, by omega, by omega, fun _ => rfl⟩
  · rw [if_neg h0]
    obtain ⟨v, i1, h1, e1, g0, g1, g2⟩ := spec_l1Byte.ok b i h hi
    rw [e1]
    simp only [Option.bind_some]
    by_cases hc : n ≤ 256
    · rw [if_pos hc, if_neg (by omega), Int.tmod_eq_emod_of_nonneg g0]
      exact ⟨_, _, _, rfl, g2 hb, Int.emod_nonneg _ (by omega), fun _ => Int.emod_lt_of_pos _ (by omega), by omega⟩
    · rw [if_neg hc]
      obtain ⟨v2, i2, h2, e2, k0, k1, k2⟩ := spec_l1Byte.ok b i1 h1 (g2 hb)
      rw [e2]
      simp only [Option.bind_some]
      obtain ⟨v3, i3, h3, e3, m0, m1, m2⟩ := spec_l1Byte.ok b i2 h2 (k2 hb)
      rw [e3]
      simp only [Option.bind_some]
      rw [if_neg (by omega), w64 (n := v * 65536) (by omega) (by omega), w64 (n := v2 * 256) (by omega) (by omega), w64 (n := v * 65536 + v2 * 256) (by omega) (by omega), w64 (by omega) (by omega), Int.tmod_eq_emod_of_nonneg (by omega)]
      exact ⟨_, _, _, rfl, m2 hb, Int.emod_nonneg _ (by omega), fun _ => Int.emod_lt_of_pos _ (by omega), by omega⟩
theorem spec_l1Once.ok (b : List Int) (hb : b.length ≤ 140737488355328) (i h n : Int) (hi : 0 ≤ i) : ∃ (v : Bool) (i' h' : Int), spec_l1Once.f b i h n = some (v, i', h') ∧ 0 ≤ i' := by
  unfold spec_l1Once.f
  obtain ⟨v, i1, h1, e1, g0, _⟩ := spec_l1Below.ok b hb i h n hi
  rw [e1]
  exact ⟨_, _, _, rfl, g0⟩
theorem spec_l1Int.ok (b : List Int) (hb : b.length ≤ 140737488355328) (i h : Int) (hi : 0 ≤ i) (l : List Int) (hl : 0 < l.length) : ∃ v i' h', spec_l1Int.f b i h l = some (v, i', h') ∧ 0 ≤ i' ∧ v ∈ l := by
  unfold spec_l1Int.f
  obtain ⟨v, i1, h1, e1, g0, g1, g2, _⟩ := spec_l1Below.ok b hb i h (l.length : Int) hi
  have g2 := g2 (by omega)
  rw [e1]
  simp only [Option.bind_some]
  rw [if_pos g1, if_pos g2]
  refine ⟨_, _, _, rfl, g0, ?_⟩
  have e : v = ((v.toNat : Nat) : Int) := by omega
  rw [e, rd_get (show v.toNat < l.length by omega)]
  exact List.getElem_mem _
theorem spec_l1Num.ok (b : List Int) (hb : b.length ≤ 140737488355328) (i h : Int) (hi : 0 ≤ i) : ∃ v i' h', spec_l1Num.f b i h = some (v, i', h') ∧ 0 ≤ i' ∧ 0 ≤ v ∧ v ≤ 1000000000000 := by
  unfold spec_l1Num.f
  obtain ⟨v, i1, h1, e1, g0, _⟩ := spec_l1Below.ok b hb i h 4 hi
  rw [e1]
  simp only [Option.bind_some]
  by_cases c0 : v = 0
  · rw [if_pos c0]
    obtain ⟨v2, i2, h2, e2, k0, k1, k2, _⟩ := spec_l1Below.ok b hb i1 h1 2000 g0
    rw [e2]
    exact ⟨_, _, _, rfl, k0, k1, by have := k2 (by omega); omega⟩
  · rw [if_neg c0]
    by_cases c1 : v = 1
    · rw [if_pos c1]
      obtain ⟨v2, i2, h2, e2, k0, k1⟩ := spec_l1Int.ok b hb i1 h1 g0 ([0, 1, 127, 128, 2147483646, 2147483647, 1000000000000] : List Int) (by simp)
      rw [e2]
      simp only [List.mem_cons, List.not_mem_nil, or_false] at k1
      exact ⟨_, _, _, rfl, k0, by omega, by omega⟩
    · rw [if_neg c1]
      by_cases c2 : v = 2
      · rw [if_pos c2]
        obtain ⟨v2, i2, h2, e2, k0, k1, k2, _⟩ := spec_l1Below.ok b hb i1 h1 1000000 g0
        rw [e2]
        simp only [Option.bind_some]
        obtain ⟨v3, i3, h3, e3, m0, m1, m2, _⟩ := spec_l1Below.ok b hb i2 h2 1000000 k0
        rw [e3]
        simp only [Option.bind_some]
        have k2 := k2 (by omega)
        have m2 := m2 (by omega)
        have q0 : 0 ≤ v2 * v3 := Int.mul_nonneg k1 m1
        have q1 : v2 * v3 ≤ 1000000 * 1000000 := Int.mul_le_mul (by omega) (by omega) m1 (by omega)
        rw [w64 (by omega) (by omega)]
        exact ⟨_, _, _, rfl, m0, q0, by omega⟩
      · rw [if_neg c2]
        obtain ⟨v2, i2, h2, e2, k0, k1, k2, _⟩ := spec_l1Below.ok b hb i1 h1 20 g0
        rw [e2]
        exact ⟨_, _, _, rfl, k0, k1, by have := k2 (by omega); omega⟩
theorem spec_l1Odd.ok (b : List Int) (hb : b.length ≤ 140737488355328) (i h : Int) (hi : 0 ≤ i) : ∃ v i' h', spec_l1Odd.f b i h = some (v, i', h') ∧ 0 ≤ i' ∧ -9223372036854775808 ≤ v ∧ v ≤ 9223372036854775807 := by
  unfold spec_l1Odd.f
  obtain ⟨v2, i2, h2, e2, k0, k1⟩ := spec_l1Int.ok b hb i h hi ([(-1), 0, 1, 2, 255, 256, 65535, 2147483647, 2147483648, 4294967295, 4294967296, (-2147483648), 9223372036854775807, (-9223372036854775808)] : List Int) (by simp)
  rw [e2]
  simp only [List.mem_cons, List.not_mem_nil, or_false] at k1
  exact ⟨_, _, _, rfl, k0, by omega, by omega⟩
theorem spec_l1Raw.ok (b : List Int) (hb : b.length ≤ 140737488355328) (i h : Int) (hi : 0 ≤ i) : ∃ v i' h', spec_l1Raw.f b i h = some (v, i', h') ∧ 0 ≤ i' ∧ -9223372036854775808 ≤ v ∧ v ≤ 9223372036854775807 := by
  unfold spec_l1Raw.f
  obtain ⟨t, i1, h1, e1, g0⟩ := spec_l1Once.ok b hb i h 2 hi
  rw [e1]
  simp only [Option.bind_some]
  by_cases ht : t = true
  · rw [if_pos ht]
    obtain ⟨v2, i2, h2, e2, k0, k1, k2⟩ := spec_l1Odd.ok b hb i1 h1 g0
    rw [e2]
    exact ⟨_, _, _, rfl, k0, k1, k2⟩
  · rw [if_neg ht]
    obtain ⟨v2, i2, h2, e2, k0, k1⟩ := spec_l1Int.ok b hb i1 h1 g0 ([(-1), 1000000000000, 1000000000001] : List Int) (by simp)
    rw [e2]
    simp only [List.mem_cons, List.not_mem_nil, or_false] at k1
    exact ⟨_, _, _, rfl, k0, by omega, by omega⟩
theorem spec_l1One.ok (b : List Int) (hb : b.length ≤ 140737488355328) (i h : Int) (hi : 0 ≤ i) : ∃ v i' h', spec_l1One.f b i h = some (v, i', h') ∧ 0 ≤ i' ∧ -9223372036854775808 ≤ v ∧ v ≤ 9223372036854775807 := by
  unfold spec_l1One.f
  obtain ⟨t, i1, h1, e1, g0⟩ := spec_l1Once.ok b hb i h 6 hi
  rw [e1]
  simp only [Option.bind_some]
  by_cases ht : t = true
  · rw [if_pos ht]
    obtain ⟨v2, i2, h2, e2, k0, k1, k2⟩ := spec_l1Raw.ok b hb i1 h1 g0
    rw [e2]
    exact ⟨_, _, _, rfl, k0, k1, k2⟩
  · rw [if_neg ht]
    obtain ⟨v2, i2, h2, e2, k0, k1, k2⟩ := spec_l1Num.ok b hb i1 h1 g0
    rw [e2]
    exact ⟨_, _, _, rfl, k0, by omega, by omega⟩
theorem spec_DrawAppendUvarint.ok (l : List Int) (hn : l.length ≤ 1048576) (k : Nat) (hk : l.length + 10 < k) : ∃ b n, spec_DrawAppendUvarint.f k l = some (b, n) ∧ isBytes b ∧ b.length ≤ 3 ∧ -9223372036854775808 ≤ n ∧ n ≤ 9223372036854775807 := by
  unfold spec_DrawAppendUvarint.f
  obtain ⟨h, e⟩ := spec_l1New.ok l (by omega) k (by omega)
  rw [e]
  simp only [Option.bind_some]
  obtain ⟨v, i1, h1, e1, g0, g1, g2, _⟩ := spec_l1Below.ok l (by omega) 0 h 3 (by omega)
  have g2 := g2 (by omega)
  rw [e1]
  simp only [Option.bind_some]
  obtain ⟨o, i2, h2, e2, k0, k1, k2⟩ := spec_l1Bytes.ok l (by omega) v g1 (by omega) i1 h1 g0 k (by omega)
  rw [e2]
  simp only [Option.bind_some]
  obtain ⟨n, i3, h3, e3, m0, m1, m2⟩ := spec_l1One.ok l (by omega) i2 h2 k2
  rw [e3]
  exact ⟨_, _, rfl, k1, by omega, m1, m2⟩
theorem impl_InRange.eq (a b c : Int) : impl_InRange.f a b c = some (decide (b ≤ a ∧ a ≤ c)) := by
  unfold impl_InRange.f
  by_cases h : b ≤ a
  · rw [if_pos h]; simp [h]
  · rw [if_neg h]; simp [h]
theorem impl_AppendUvarint.l0_ok : ∀ (d k : Nat) (x : Int) (out : List Int), 0 ≤ x → x < 128 ^ d → d ≤ 6 → out.length + d ≤ 140737488355300 → d < k → impl_AppendUvarint.l0 k x out = some (out ++ uvf d x) := by
  intro d
  induction d with
  | zero =>
    intro k x out h0 h1 hd hl hk
    obtain ⟨k, rfl⟩ : ∃ m, k = m + 1 := ⟨k - 1, by omega⟩
    simp only [impl_AppendUvarint.l0, uvf]
    rw [if_neg (by omega), if_pos (by omega)]
  | succ d ih =>
    intro k x out h0 h1 hd hl hk
    obtain ⟨k, rfl⟩ : ∃ m, k = m + 1 := ⟨k - 1, by omega⟩
    have hx : x < 4398046511104 := Int.lt_of_lt_of_le h1 (by
      have : (128 : Int) ^ (d + 1) ≤ 128 ^ 6 := by
        match d, hd with
        | 0, _ => decide
        | 1, _ => decide
        | 2, _ => decide
        | 3, _ => decide
        | 4, _ => decide
        | 5, _ => decide
      omega)
    simp only [impl_AppendUvarint.l0, uvf]
    by_cases h : x > 127
    · rw [if_pos h, if_pos (by omega), if_pos h, and127 h0 (by omega)]
      have e : ∀ y : Int, 0 ≤ y → y < 128 → Go.bits .or .u8 (y % 256) 128 = y + 128 := fun y g0 g1 => by rw [Int.emod_eq_of_lt g0 (by omega), or128u g0 g1]
      have e2 : ∀ y : Int, 0 ≤ y → y < 128 → Go.bits .or .i64 y 128 % 256 = y + 128 := fun y g0 g1 => by rw [or128 g0 g1]; omega
      first | rw [e _ (by omega) (by omega)] | rw [e2 _ (by omega) (by omega)]
      rw [ih k (x / 128) _ (by omega) (by rw [Int.pow_succ] at h1; omega) (by omega) (by simp only [List.length_append, List.length_cons, List.length_nil]; omega) (by omega)]
      simp
    · rw [if_neg h, if_pos (by omega), if_neg h]
theorem impl_AppendUvarint.ok (l : List Int) (n : Int) (hl : l.length ≤ 140737488000000) (k : Nat) (hk : 6 < k) : impl_AppendUvarint.f k l n = some (l ++ uvOf n) := by
  unfold impl_AppendUvarint.f uvOf
  simp only [Option.bind_some, List.nil_append, List.length_nil]
  rw [if_pos (by omega)]
  first | rw [spec_l1In.eq] | rw [impl_InRange.eq]
  by_cases h : 0 ≤ n ∧ n ≤ 1000000000000
  · simp only [Option.bind_some, h, decide_true, and_self, if_true]
    exact impl_AppendUvarint.l0_ok 6 k n l h.1 (by omega) (by omega) (by omega) hk
  · simp [h]
theorem impl_ReadUvarint.l0_ok (l : List Int) (a : Int) (hb : isBytes l) (hn : l.length ≤ 140737488355328) (ha : 0 ≤ a) (ha2 : a < 140737488355328) : ∀ (d k j : Nat) (acc : Int), j + d = 6 → 0 ≤ acc → acc < 2 ^ (7 * j) → d < k →
    impl_ReadUvarint.l0 k l a acc (j : Int) = some (dec l a d acc j) := by
  intro d
  induction d with
  | zero =>
    intro k j acc hj h0 h1 hk
    obtain ⟨k, rfl⟩ : ∃ m, k = m + 1 := ⟨k - 1, by omega⟩
    simp only [impl_ReadUvarint.l0, dec]
    rw [if_neg (by omega)]
  | succ d ih =>
    intro k j acc hj h0 h1 hk
    obtain ⟨k, rfl⟩ : ∃ m, k = m + 1 := ⟨k - 1, by omega⟩
    simp only [impl_ReadUvarint.l0, dec]
    rw [if_pos (by omega), w64 (n := a + (j : Int)) (by omega) (by omega)]
    by_cases hlen : (l.length : Int) ≤ a + (j : Int)
    · rw [if_pos hlen, if_pos hlen]
    · rw [if_neg hlen, if_neg hlen]
      have hr := bytes_rd hb (a + (j : Int))
      rw [w64 (n := 7 * (j : Int)) (by omega) (by omega), w64 (n := a + (j : Int) + 1) (by omega) (by omega), and127u hr.1 (by omega), w64 (n := rd l (a + (j : Int)) % 128) (by omega) (by omega)]
      have hg := or_group (acc := acc) (b := rd l (a + (j : Int)) % 128) j (by omega) h0 h1 (by omega) (by omega)
      have hbd := group_bound (acc := acc) (b := rd l (a + (j : Int)) % 128) j (by omega) h0 h1 (by omega) (by omega)
      rw [hg]
      rw [if_pos (by omega), if_pos (by omega), if_pos (by omega)]
      generalize rd l (a + (j : Int)) = b at *
      generalize acc + b % 128 * 2 ^ (7 * j) = acc2 at *
      by_cases h2 : b < 128
      · rw [if_pos h2, if_pos h2]
        by_cases h4 : 0 < j
        · rw [if_pos (by omega)]
          by_cases h3 : b = 0
          · rw [if_pos h3, if_pos (Or.inl ⟨h4, h3⟩)]
          · rw [if_neg h3]
            by_cases h5 : acc2 > 1000000000000
            · rw [if_pos h5, if_pos (Or.inr h5)]
            · rw [if_neg h5, if_neg (by omega)]
        · rw [if_neg (by omega)]
          by_cases h5 : acc2 > 1000000000000
          · rw [if_pos h5, if_pos (Or.inr h5)]
          · rw [if_neg h5, if_neg (by omega)]
      · rw [if_neg h2, if_neg h2, w64_succ (n := 6) (by omega) (by omega)]
        exact ih k (j + 1) acc2 (by omega) hbd.1 hbd.2 (by omega)
theorem impl_ReadUvarint.ok (l : List Int) (a : Int) (hb : isBytes l) (hn : l.length ≤ 140737488000000) (k : Nat) (hk : 14 ≤ k) : impl_ReadUvarint.f k l a = some (readUv l a) := by
  unfold impl_ReadUvarint.f readUv
  obtain ⟨k, rfl⟩ : ∃ m, k = m + 1 := ⟨k - 1, by omega⟩
  by_cases h0 : a < 0
  · rw [if_pos h0, if_pos (Or.inl h0)]
    simp [impl_ReadUvarint.j0]
  · rw [if_neg h0]
    by_cases h1 : (l.length : Int) ≤ a
    · rw [if_pos (Or.inr h1), show decide (a ≥ (l.length : Int)) = true from decide_eq_true h1]
      simp [impl_ReadUvarint.j0]
    · rw [if_neg (by omega), show decide (a ≥ (l.length : Int)) = false from decide_eq_false (by omega)]
      simp only [impl_ReadUvarint.j0]
      rw [if_neg (by simp)]
      exact impl_ReadUvarint.l0_ok l a hb (by omega) (by omega) (by omega) 6 k 0 0 (by omega) (by omega) (by omega) (by omega)
theorem spec_l1In.eq (a b c : Int) : spec_l1In.f a b c = some (decide (b ≤ a ∧ a ≤ c)) := by
  unfold spec_l1In.f
  by_cases h : b ≤ a
  · rw [if_pos h]; simp [h]
  · rw [if_neg h]; simp [h]
theorem spec_AppendUvarint.l0_ok : ∀ (d k : Nat) (x : Int) (out : List Int), 0 ≤ x → x < 128 ^ d → d ≤ 6 → out.length + d ≤ 140737488355300 → d < k → spec_AppendUvarint.l0 k x out = some (out ++ uvf d x) := by
  intro d
  induction d with
  | zero =>
    intro k x out h0 h1 hd hl hk
    obtain ⟨k, rfl⟩ : ∃ m, k = m + 1 := ⟨k - 1, by omega⟩
    simp only [spec_AppendUvarint.l0, uvf]
    rw [if_neg (by omega), if_pos (by omega)]
  | succ d ih =>
    intro k x out h0 h1 hd hl hk
    obtain ⟨k, rfl⟩ : ∃ m, k = m + 1 := ⟨k - 1, by omega⟩
    have hx : x < 4398046511104 := Int.lt_of_lt_of_le h1 (by
      have : (128 : Int) ^ (d + 1) ≤ 128 ^ 6 := by
        match d, hd with
        | 0, _ => decide
        | 1, _ => decide
        | 2, _ => decide
        | 3, _ => decide
        | 4, _ => decide
        | 5, _ => decide
      omega)
    simp only [spec_AppendUvarint.l0, uvf]
    by_cases h : x > 127
    · rw [if_pos h, if_pos (by omega), if_pos h, and127 h0 (by omega)]
      have e : ∀ y : Int, 0 ≤ y → y < 128 → Go.bits .or .u8 (y % 256) 128 = y + 128 := fun y g0 g1 => by rw [Int.emod_eq_of_lt g0 (by omega), or128u g0 g1]
      have e2 : ∀ y : Int, 0 ≤ y → y < 128 → Go.bits .or .i64 y 128 % 256 = y + 128 := fun y g0 g1 => by rw [or128 g0 g1]; omega
      first | rw [e _ (by omega) (by omega)] | rw [e2 _ (by omega) (by omega)]
      rw [ih k (x / 128) _ (by omega) (by rw [Int.pow_succ] at h1; omega) (by omega) (by simp only [List.length_append, List.length_cons, List.length_nil]; omega) (by omega)]
      simp
    · rw [if_neg h, if_pos (by omega), if_neg h]
theorem spec_AppendUvarint.ok (l : List Int) (n : Int) (hl : l.length ≤ 140737488000000) (k : Nat) (hk : 6 < k) : spec_AppendUvarint.f k l n = some (l ++ uvOf n) := by
  unfold spec_AppendUvarint.f uvOf
  simp only [Option.bind_some, List.nil_append, List.length_nil]
  rw [if_pos (by omega)]
  first | rw [spec_l1In.eq] | rw [impl_InRange.eq]
  by_cases h : 0 ≤ n ∧ n ≤ 1000000000000
  · simp only [Option.bind_some, h, decide_true, and_self, if_true]
    exact spec_AppendUvarint.l0_ok 6 k n l h.1 (by omega) (by omega) (by omega) hk
  · simp [h]
theorem spec_DrawReadUvarint.l0_ok (b : List Int) (hb : b.length ≤ 140737488355328) : ∀ (d k : Nat) (out : List Int) (p h : Int), out.length + d ≤ 1000 → isBytes out → 0 ≤ p → d < k →
    ∃ out' n, spec_DrawReadUvarint.l0 k out (d : Int) b p h = some (out', n) ∧ isBytes out' ∧ out'.length ≤ 1000 ∧ -1 ≤ n ∧ n ≤ 3 := by
  intro d
  induction d with
  | zero =>
    intro k out p h ho hob hp hk
    obtain ⟨k, rfl⟩ : ∃ m, k = m + 1 := ⟨k - 1, by omega⟩
    simp only [spec_DrawReadUvarint.l0]
    obtain ⟨v, p1, h1, e1, g0, g1, g2, _⟩ := spec_l1Below.ok b hb p h 4 hp
    have g2 := g2 (by omega)
    rw [if_neg (by omega), e1]
    simp only [Option.bind_some]
    rw [w64 (by omega) (by omega)]
    exact ⟨_, _, rfl, hob, by omega, by omega, by omega⟩
  | succ d ih =>
    intro k out p h ho hob hp hk
    obtain ⟨k, rfl⟩ : ∃ m, k = m + 1 := ⟨k - 1, by omega⟩
    simp only [spec_DrawReadUvarint.l0]
    obtain ⟨v, p1, h1, e1, g0, g1⟩ := spec_l1Int.ok b hb p h hp ([128, 255, 0, 1, 127] : List Int) (by simp)
    rw [if_pos (by omega), e1]
    simp only [Option.bind_some]
    rw [if_pos (by omega), w64 (by omega) (by omega), show ((d + 1 : Nat) : Int) - 1 = (d : Int) by omega]
    refine ih k _ p1 h1 (by simp only [List.length_append, List.length_cons, List.length_nil]; omega) ?_ g0 (by omega)
    intro x hx
    rcases List.mem_append.mp hx with hx | hx
    · exact hob x hx
    · simp only [List.mem_singleton] at hx; subst hx; omega
theorem spec_DrawReadUvarint.ok (l : List Int) (hn : l.length ≤ 1048576) (k : Nat) (hk : l.length + 20 < k) : ∃ b n, spec_DrawReadUvarint.f k l = some (b, n) ∧ isBytes b ∧ b.length ≤ 1000 ∧ -1 ≤ n ∧ n ≤ 3 := by
  unfold spec_DrawReadUvarint.f
  obtain ⟨h, e⟩ := spec_l1New.ok l (by omega) k (by omega)
  rw [e]
  simp only [Option.bind_some]
  obtain ⟨t, i1, h1, e1, g0⟩ := spec_l1Once.ok l (by omega) 0 h 2 (by omega)
  rw [e1]
  simp only [Option.bind_some]
  by_cases ht : t = true
  · rw [if_pos ht]
    obtain ⟨o, i2, h2, e2, k0, k1, k2⟩ := spec_l1Bytes.ok l (by omega) 1 (by omega) (by omega) i1 h1 g0 k (by omega)
    rw [e2]
    simp only [Option.bind_some]
    obtain ⟨n, i3, h3, e3, m0, m1, m2⟩ := spec_l1Num.ok l (by omega) i2 h2 k2
    rw [e3]
    simp only [Option.bind_some]
    rw [spec_AppendUvarint.ok o n (by omega) k (by omega)]
    have hu := uvOf_length n
    exact ⟨_, _, rfl, bytes_append k1 (uvOf_bytes n), by rw [List.length_append]; omega, by omega, by omega⟩
  · rw [if_neg ht]
    obtain ⟨v, i2, h2, e2, k0, k1, k2, _⟩ := spec_l1Below.ok l (by omega) i1 h1 8 g0
    have k2 := k2 (by omega)
    rw [e2]
    simp only [Option.bind_some]
    obtain ⟨d, rfl⟩ : ∃ d : Nat, v = (d : Int) := ⟨v.toNat, by omega⟩
    exact spec_DrawReadUvarint.l0_ok l (by omega) d k [] i2 h2 (by simp; omega) (fun x hx => by simp at hx) k0 (by omega)
theorem spec_ReadUvarint.l0_ok (l : List Int) (a : Int) (hb : isBytes l) (hn : l.length ≤ 140737488355328) (ha : 0 ≤ a) (ha2 : a < 140737488355328) : ∀ (d k j : Nat) (acc : Int), j + d = 6 → 0 ≤ acc → acc < 2 ^ (7 * j) → 2 * d < k →
    spec_ReadUvarint.l0 k l a acc (j : Int) = some (dec l a d acc j) := by
  intro d
  induction d with
  | zero =>
    intro k j acc hj h0 h1 hk
    obtain ⟨k, rfl⟩ : ∃ m, k = m + 1 := ⟨k - 1, by omega⟩
    simp only [spec_ReadUvarint.l0, dec]
    rw [if_neg (by omega)]
  | succ d ih =>
    intro k j acc hj h0 h1 hk
    obtain ⟨k, rfl⟩ : ∃ m, k = m + 2 := ⟨k - 2, by omega⟩
    simp only [spec_ReadUvarint.l0, dec]
    rw [if_pos (by omega), if_neg (by omega), w64 (n := (l.length : Int) - (j : Int)) (by omega) (by omega)]
    by_cases hlen : (l.length : Int) ≤ a + (j : Int)
    · rw [if_pos hlen, show decide (a ≥ (l.length : Int) - (j : Int)) = true from decide_eq_true (by omega)]
      simp [spec_ReadUvarint.j1]
    · rw [if_neg hlen, show decide (a ≥ (l.length : Int) - (j : Int)) = false from decide_eq_false (by omega)]
      have hr := bytes_rd hb (a + (j : Int))
      simp only [spec_ReadUvarint.j1]
      rw [w64 (n := a + (j : Int)) (by omega) (by omega), w64 (n := 7 * (j : Int)) (by omega) (by omega), w64 (n := rd l (a + (j : Int))) (by omega) (by omega), w64 (n := a + (j : Int) + 1) (by omega) (by omega), and127 hr.1 (by omega)]
      have hg := or_group (acc := acc) (b := rd l (a + (j : Int)) % 128) j (by omega) h0 h1 (by omega) (by omega)
      have hbd := group_bound (acc := acc) (b := rd l (a + (j : Int)) % 128) j (by omega) h0 h1 (by omega) (by omega)
      rw [hg]
      rw [if_neg (by simp), if_pos (by omega), if_pos (by omega), if_pos (by omega)]
      generalize rd l (a + (j : Int)) = b at *
      generalize acc + b % 128 * 2 ^ (7 * j) = acc2 at *
      by_cases h2 : b < 128
      · rw [if_pos h2, if_pos h2]
        by_cases h3 : b = 0
        · rw [if_pos h3]
          by_cases h4 : 0 < j
          · rw [if_pos (by omega), if_pos (Or.inl ⟨h4, h3⟩)]
          · rw [if_neg (by omega)]
            by_cases h5 : acc2 > 1000000000000
            · rw [if_pos h5, if_pos (Or.inr h5)]
            · rw [if_neg h5, if_neg (by omega)]
        · rw [if_neg h3]
          by_cases h5 : acc2 > 1000000000000
          · rw [if_pos h5, if_pos (Or.inr h5)]
          · rw [if_neg h5, if_neg (by omega)]
      · rw [if_neg h2, if_neg h2, w64_succ (n := 6) (by omega) (by omega)]
        exact ih k (j + 1) acc2 (by omega) hbd.1 hbd.2 (by omega)
theorem spec_ReadUvarint.ok (l : List Int) (a : Int) (hb : isBytes l) (hn : l.length ≤ 140737488000000) (wa : -9223372036854775808 ≤ a ∧ a ≤ 9223372036854775807) (k : Nat) (hk : 14 ≤ k) : spec_ReadUvarint.f k l a = some (readUv l a) := by
  unfold spec_ReadUvarint.f readUv
  by_cases h : a < 0 ∨ (l.length : Int) ≤ a
  · rw [if_pos h]
    obtain ⟨k, rfl⟩ : ∃ m, k = m + 2 := ⟨k - 2, by omega⟩
    simp only [spec_ReadUvarint.l0]
    rw [if_pos (by omega)]
    by_cases h0 : a < 0
    · rw [if_pos h0]; simp [spec_ReadUvarint.j1]
    · rw [if_neg h0, w64 (n := (l.length : Int) - 0) (by omega) (by omega), show decide (a ≥ (l.length : Int) - 0) = true from decide_eq_true (by omega)]
      simp [spec_ReadUvarint.j1]
  · rw [if_neg h]
    exact spec_ReadUvarint.l0_ok l a hb (by omega) (by omega) (by omega) 6 k 0 0 (by omega) (by omega) (by omega) (by omega)
theorem j1_true (l : List Int) (hl : l.length ≤ 1048576) (k : Nat) (hk : l.length + 2000 < k) : laws_FnVarints.j1 k l = some true := by
  obtain ⟨k, rfl⟩ : ∃ m, k = m + 1 := ⟨k - 1, by omega⟩
  simp only [laws_FnVarints.j1]
  obtain ⟨y, o, e, yb, yl, o0, o1⟩ := spec_DrawReadUvarint.ok l hl k (by omega)
  rw [e]
  simp only [Option.bind_some]
  rw [impl_ReadUvarint.ok y o yb (by omega) k (by omega)]
  simp only [Option.bind_some]
  by_cases h : (readUv y o).2.2 = true
  · have hr := readUv_range yb h
    obtain ⟨v0, v1, hv⟩ := readUv_back yb h
    rw [if_pos h, if_pos (by omega), if_pos (by omega), if_pos (by omega), impl_AppendUvarint.ok [] _ (by simp) k (by omega)]
    simp only [Option.bind_some]
    have hu := uv_length (readUv y o).1
    rw [if_pos (by omega), if_pos (by omega), hv]
    unfold uvOf
    rw [if_pos ⟨v0, v1⟩, List.nil_append, laws_sameBytes.same _ (by omega) k (by omega)]
    rfl
  · have hf : (readUv y o).2.2 = false := by simpa using h
    rw [if_neg h, spec_ReadUvarint.ok y o yb (by omega) ⟨by omega, by omega⟩ k (by omega)]
    simp only [Option.bind_some]
    rw [readUv_not hf]
    simp
theorem FnVarints : laws_FnVarints.Pure := by
  intro l _ _ hb
  refine ⟨l.length + 3000, ?_⟩
  unfold laws_FnVarints.f
  rw [laws_big.eq]
  simp only [Option.bind_some]
  by_cases h : (l.length : Int) > 1048576
  · rw [if_pos (by simpa using h)]
  · rw [if_neg (by simpa using h)]
    obtain ⟨b, n, e, gb, gl, n0, n1⟩ := spec_DrawAppendUvarint.ok l (by omega) (l.length + 3000) (by omega)
    rw [e]
    simp only [Option.bind_some]
    have hu := uvOf_length n
    have hby : isBytes (b ++ uvOf n) := bytes_append gb (uvOf_bytes n)
    have hlen : (b ++ uvOf n).length ≤ 1000 := by simp only [List.length_append]; omega
    rw [impl_AppendUvarint.ok b n (by omega) _ (by omega)]
    simp only [Option.bind_some]
    rw [impl_ReadUvarint.ok _ _ hby (by omega) _ (by omega)]
    simp only [Option.bind_some]
    by_cases hr : 0 ≤ n ∧ n ≤ 1000000000000
    · have hv : uvOf n = uv n := by unfold uvOf; rw [if_pos hr]
      have e1 := readUv_uv b [] hr.1 hr.2
      rw [List.append_nil] at e1
      rw [if_neg (by omega), hv, e1, decide_eq_false (by omega)]
      simp only [laws_FnVarints.j0]
      rw [if_neg (by simp), if_pos (by simp), if_pos (by simp), if_pos (by simp only [List.length_append]; omega)]
      exact j1_true l (by omega) _ (by omega)
    · have hv : uvOf n = [] := by unfold uvOf; rw [if_neg hr]
      have hq : readUv b (b.length : Int) = (0, 0, false) := by unfold readUv; rw [if_pos (by omega)]
      have key : laws_FnVarints.j0 (l.length + 3000) l b n b 0 0 false true = some true := by
        simp only [laws_FnVarints.j0]
        rw [if_pos (by simp), if_neg (by simp), laws_sameBytes.same b (by omega) _ (by omega)]
        simp only [Option.bind_some, if_true]
        exact j1_true l (by omega) _ (by omega)
      rw [hv, List.append_nil, hq]
      by_cases hneg : n < 0
      · rw [if_pos hneg]; exact key
      · rw [if_neg hneg, decide_eq_true (by omega)]; exact key

end Go.Proofs.Ytelngjhdpbfifaa.Pure
