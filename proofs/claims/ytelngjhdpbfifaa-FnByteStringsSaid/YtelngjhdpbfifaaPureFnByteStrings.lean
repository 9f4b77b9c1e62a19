/- Byte strings and lists of integers are decoded from their encodings: the law returns true for every slice of bytes that it draws from. -/
import Derived.Test.YtelngjhdpbfifaaQFnByteStringsx3
import Derived.Test.YtelngjhdpbfifaaBase
import Derived.Test.YtelngjhdpbfifaaLst
import Derived.Test.YtelngjhdpbfifaaVr
namespace Go.Proofs.Ytelngjhdpbfifaa.Pure
open Go Go.RowKit Go.Proofs.Ytelngjhdpbfifaa.PFnByteStrings Go.Proofs.YtelngjhdpbfifaaW.PrintWords Go.Proofs.YtelngjhdpbfifaaW.PrintLast Go.Proofs.YtelngjhdpbfifaaW.PrintMore Go.Proofs.Ytelngjhdpbfifaa.Base Go.Proofs.Ytelngjhdpbfifaa.Lst Go.Proofs.Ytelngjhdpbfifaa.Vr
set_option linter.unusedVariables false
set_option linter.unusedSimpArgs false
theorem laws_big.eq (l : List Int) : laws_big.f l = some (decide ((l.length : Int) > 1048576)) := rfl
theorem laws_sameBytes.l0_ok (x0 x1 : List Int) (hn : x0.length ≤ 140737488355328) (hl : x0.length = x1.length) : ∀ (d k i : Nat), i + d = x0.length → d < k → laws_sameBytes.l0 k x0 x1 (i : Int) = some (decide (x0.drop i = x1.drop i)) := by
  intro d
  induction d with
  | zero =>
    intro k i hi hk
    obtain ⟨k, rfl⟩ : ∃ m, k = m + 1 := ⟨k - 1, by omega⟩
    simp only [laws_sameBytes.l0]
    rw [if_neg (by omega), List.drop_of_length_le (by omega), List.drop_of_length_le (by omega)]
    simp
  | succ d ih =>
    intro k i hi hk
    obtain ⟨k, rfl⟩ : ∃ m, k = m + 1 := ⟨k - 1, by omega⟩
    simp only [laws_sameBytes.l0]
    rw [if_pos (by omega), if_pos (by omega), if_pos (by omega), rd_drop (xs := x0) (i := i) (by omega), rd_drop (xs := x1) (i := i) (by omega)]
    by_cases h : rd x0 (i : Int) = rd x1 (i : Int)
    · rw [if_pos h, w64_succ (n := x0.length) (by omega) (by omega), ih k (i + 1) (by omega) (by omega)]
      simp [h]
    · rw [if_neg h]
      simp [h]
theorem laws_sameBytes.ok (a b : List Int) (hn : a.length ≤ 140737488355328) (k : Nat) (hk : a.length < k) : laws_sameBytes.f k a b = some (decide (a = b)) := by
  unfold laws_sameBytes.f
  by_cases h : (a.length : Int) = (b.length : Int)
  · rw [if_pos h]
    exact laws_sameBytes.l0_ok a b hn (by omega) a.length k 0 (by omega) hk
  · rw [if_neg h]
    have : a ≠ b := fun e => h (by rw [e])
    simp [this]
theorem laws_sameBytes.same (a : List Int) (hn : a.length ≤ 140737488355328) (k : Nat) (hk : a.length < k) : laws_sameBytes.f k a a = some true := by
  rw [laws_sameBytes.ok a a hn k hk]; simp
theorem laws_at.ok (l : List Int) (hb : isBytes l) (hn : l.length ≤ 1048576) (i : Int) (h0 : 0 ≤ i) (h1 : i ≤ 1000) : ∃ v, laws_at.f l i = some v ∧ 0 ≤ v ∧ v ≤ 255 := by
  unfold laws_at.f
  have hr := bytes_rd hb i
  by_cases h : i < (l.length : Int)
  · rw [if_pos h, if_pos h0, w64 (by omega) (by omega)]
    exact ⟨_, rfl, hr.1, hr.2⟩
  · rw [if_neg h, w64 (n := i * 31) (by omega) (by omega), w64 (n := (l.length : Int) * 7) (by omega) (by omega), w64 (by omega) (by omega), Int.tmod_eq_emod_of_nonneg (by omega)]
    exact ⟨_, rfl, by omega, by omega⟩
theorem impl_ReadUvarint.l0_ok (l : List Int) (a : Int) (hb : isBytes l) (hn : l.length ≤ 140737488355328) (ha : 0 ≤ a) (ha2 : a < 140737488355328) : ∀ (d k j : Nat) (acc : Int), j + d = 6 → 0 ≤ acc → acc < 2 ^ (7 * j) → d < k →
    impl_ReadUvarint.l0 k l a acc (j : Int) = some (dec l a d acc j) := by
  intro d
  induction d with
  | zero =>
    intro k j acc hj h0 h1 hk
    obtain ⟨k, rfl⟩ : ∃ m, k = m + 1 := ⟨k - 1, by omega⟩
    simp only [impl_ReadUvarint.l0, dec]
    rw [if_neg (by omega)]
  | succ d ih =>
    intro k j acc hj h0 h1 hk
    obtain ⟨k, rfl⟩ : ∃ m, k = m + 1 := ⟨k - 1, by omega⟩
    simp only [impl_ReadUvarint.l0, dec]
    rw [if_pos (by omega), w64 (n := a + (j : Int)) (by omega) (by omega)]
    by_cases hlen : (l.length : Int) ≤ a + (j : Int)
    · rw [if_pos hlen, if_pos hlen]
    · rw [if_neg hlen, if_neg hlen]
      have hr := bytes_rd hb (a + (j : Int))
      rw [w64 (n := 7 * (j : Int)) (by omega) (by omega), w64 (n := a + (j : Int) + 1) (by omega) (by omega), and127u hr.1 (by omega), w64 (n := rd l (a + (j : Int)) % 128) (by omega) (by omega)]
      have hg := or_group (acc := acc) (b := rd l (a + (j : Int)) % 128) j (by omega) h0 h1 (by omega) (by omega)
      have hbd := group_bound (acc := acc) (b := rd l (a + (j : Int)) % 128) j (by omega) h0 h1 (by omega) (by omega)
      rw [hg]
      rw [if_pos (by omega), if_pos (by omega), if_pos (by omega)]
      generalize rd l (a + (j : Int)) = b at *
      generalize acc + b % 128 * 2 ^ (7 * j) = acc2 at *
      by_cases h2 : b < 128
      · rw [if_pos h2, if_pos h2]
        by_cases h4 : 0 < j
        · rw [if_pos (by omega)]
          by_cases h3 : b = 0
          · rw [if_pos h3, if_pos (Or.inl ⟨h4, h3⟩)]
          · rw [if_neg h3]
            by_cases h5 : acc2 > 1000000000000
            · rw [if_pos h5, if_pos (Or.inr h5)]
            · rw [if_neg h5, if_neg (by omega)]
        · rw [if_neg (by omega)]
          by_cases h5 : acc2 > 1000000000000
          · rw [if_pos h5, if_pos (Or.inr h5)]
          · rw [if_neg h5, if_neg (by omega)]
      · rw [if_neg h2, if_neg h2, w64_succ (n := 6) (by omega) (by omega)]
        exact ih k (j + 1) acc2 (by omega) hbd.1 hbd.2 (by omega)
theorem impl_ReadUvarint.ok (l : List Int) (a : Int) (hb : isBytes l) (hn : l.length ≤ 140737488000000) (k : Nat) (hk : 14 ≤ k) : impl_ReadUvarint.f k l a = some (readUv l a) := by
  unfold impl_ReadUvarint.f readUv
  obtain ⟨k, rfl⟩ : ∃ m, k = m + 1 := ⟨k - 1, by omega⟩
  by_cases h0 : a < 0
  · rw [if_pos h0, if_pos (Or.inl h0)]
    simp [impl_ReadUvarint.j0]
  · rw [if_neg h0]
    by_cases h1 : (l.length : Int) ≤ a
    · rw [if_pos (Or.inr h1), show decide (a ≥ (l.length : Int)) = true from decide_eq_true h1]
      simp [impl_ReadUvarint.j0]
    · rw [if_neg (by omega), show decide (a ≥ (l.length : Int)) = false from decide_eq_false (by omega)]
      simp only [impl_ReadUvarint.j0]
      rw [if_neg (by simp)]
      exact impl_ReadUvarint.l0_ok l a hb (by omega) (by omega) (by omega) 6 k 0 0 (by omega) (by omega) (by omega) (by omega)
theorem impl_InRange.eq (a b c : Int) : impl_InRange.f a b c = some (decide (b ≤ a ∧ a ≤ c)) := by
  unfold impl_InRange.f
  by_cases h : b ≤ a
  · rw [if_pos h]; simp [h]
  · rw [if_neg h]; simp [h]
theorem impl_DecodeInts.l0_ok (b : List Int) (hb : isBytes b) (hn : b.length ≤ 1048576) (cnt : Int) (hc : cnt ≤ 100) : ∀ (d k i : Nat) (a : Int) (out : List Int), (i : Int) + d = cnt → 0 ≤ a → a ≤ b.length → out.length ≤ i → d + 15 < k → impl_DecodeInts.l0 k b a out cnt (i : Int) = some (decInts b d a out) := by
  intro d
  induction d with
  | zero =>
    intro k i a out hi h0 h1 ho hk
    obtain ⟨k, rfl⟩ : ∃ m, k = m + 1 := ⟨k - 1, by omega⟩
    simp only [impl_DecodeInts.l0]
    rw [if_neg (by omega)]
    rfl
  | succ d ih =>
    intro k i a out hi h0 h1 ho hk
    obtain ⟨k, rfl⟩ : ∃ m, k = m + 1 := ⟨k - 1, by omega⟩
    simp only [impl_DecodeInts.l0]
    rw [if_pos (by omega), impl_ReadUvarint.ok b a hb (by omega) k (by omega)]
    simp only [Option.bind_some, decInts]
    by_cases h : (readUv b a).2.2 = true
    · have hr := readUv_range hb h
      rw [if_pos h, if_pos (by omega), if_pos h, w64_succ (n := 100) (by omega) (by omega)]
      exact ih k (i + 1) _ _ (by omega) (by omega) (by omega) (by simp only [List.length_append, List.length_cons, List.length_nil]; omega) (by omega)
    · rw [if_neg h, if_neg h]
theorem impl_DecodeInts.ok (b : List Int) (a c : Int) (hb : isBytes b) (hn : b.length ≤ 1048576) (k : Nat) (hk : 130 ≤ k) : impl_DecodeInts.f k b a c = some (readL b a c) := by
  unfold impl_DecodeInts.f readL
  obtain ⟨k, rfl⟩ : ∃ m, k = m + 1 := ⟨k - 1, by omega⟩
  rw [impl_InRange.eq, impl_InRange.eq]
  by_cases h : 0 ≤ c ∧ c ≤ 100
  · by_cases h2 : 0 ≤ a ∧ a ≤ (b.length : Int)
    · rw [if_pos (⟨h, h2⟩ : (0 ≤ c ∧ c ≤ 100) ∧ (0 ≤ a ∧ a ≤ (b.length : Int)))]
      simp only [Option.bind_some, h, h2, decide_true, and_self, if_true, Bool.not_true, impl_DecodeInts.j0]
      rw [if_neg (by simp)]
      exact impl_DecodeInts.l0_ok b hb hn c h.2 c.toNat k 0 a [] (by omega) h2.1 h2.2 (by simp) (by omega)
    · rw [if_neg (fun x : (0 ≤ c ∧ c ≤ 100) ∧ (0 ≤ a ∧ a ≤ (b.length : Int)) => h2 x.2), decide_eq_true h, decide_eq_false h2]
      simp [impl_DecodeInts.j0]
  · rw [if_neg (fun x : (0 ≤ c ∧ c ≤ 100) ∧ (0 ≤ a ∧ a ≤ (b.length : Int)) => h x.1), decide_eq_false h]
    simp [impl_DecodeInts.j0]
theorem spec_l1New.l0_ok (l : List Int) (hn : l.length ≤ 140737488355328) : ∀ (d k i : Nat) (h : Int), i + d = l.length → d < k → ∃ h', spec_l1New.l0 k l h (i : Int) = some (l, 0, h') := by
  intro d
  induction d with
  | zero =>
    intro k i h hi hk
    obtain ⟨k, rfl⟩ : ∃ m, k = m + 1 := ⟨k - 1, by omega⟩
    simp only [spec_l1New.l0]
    rw [if_neg (by omega)]
    exact ⟨_, rfl⟩
  | succ d ih =>
    intro k i h hi hk
    obtain ⟨k, rfl⟩ : ∃ m, k = m + 1 := ⟨k - 1, by omega⟩
    simp only [spec_l1New.l0]
    rw [if_pos (by omega)]
    by_cases h4 : (i : Int) < 4000
    · rw [if_pos h4, if_pos (by omega), w64_succ (n := l.length) (by omega) (by omega)]
      exact ih k (i + 1) _ (by omega) (by omega)
    · rw [if_neg h4]
      exact ⟨_, rfl⟩
theorem spec_l1New.ok (l : List Int) (hn : l.length ≤ 140737488355328) (k : Nat) (hk : l.length < k) : ∃ h', spec_l1New.f k l = some (l, 0, h') := by
  unfold spec_l1New.f
  exact spec_l1New.l0_ok l hn l.length k 0 _ (by omega) hk
theorem spec_l1Byte.ok (b : List Int) (i h : Int) (hi : 0 ≤ i) : ∃ v i' h', spec_l1Byte.f b i h = some (v, i', h') ∧ 0 ≤ v ∧ v ≤ 255 ∧ (b.length ≤ 140737488355328 → 0 ≤ i') := by
  unfold spec_l1Byte.f
  by_cases hc : i < (b.length : Int)
  · rw [if_pos hc, if_pos hi]
    exact ⟨_, _, _, rfl, (mask255 _).1, (mask255 _).2, fun hb => by rw [w64 (by omega) (by omega)]; omega⟩
  · rw [if_neg hc]
    exact ⟨_, _, _, rfl, (mask255 _).1, (mask255 _).2, fun _ => hi⟩
theorem spec_l1Bytes.l0_ok (b : List Int) (hb : b.length ≤ 140737488355328) (n : Nat) (hn : n ≤ 1000) : ∀ (d k i : Nat) (out : List Int) (p h : Int), i + d = n → out.length = i → isBytes out → 0 ≤ p → d < k →
    ∃ out' p' h', spec_l1Bytes.l0 k (n : Int) out (i : Int) b p h = some (out', p', h') ∧ out'.length = n ∧ isBytes out' ∧ 0 ≤ p' := by
  intro d
  induction d with
  | zero =>
    intro k i out p h hi ho hob hp hk
    obtain ⟨k, rfl⟩ : ∃ m, k = m + 1 := ⟨k - 1, by omega⟩
    simp only [spec_l1Bytes.l0]
    rw [if_neg (by omega)]
    exact ⟨_, _, _, rfl, by omega, hob, hp⟩
  | succ d ih =>
    intro k i out p h hi ho hob hp hk
    obtain ⟨k, rfl⟩ : ∃ m, k = m + 1 := ⟨k - 1, by omega⟩
    simp only [spec_l1Bytes.l0]
    obtain ⟨v, p1, h1, e1, g0, g1, g2⟩ := spec_l1Byte.ok b p h hp
    rw [if_pos (by omega), e1]
    simp only [Option.bind_some]
    rw [if_pos (by omega), w64_succ (n := n) (by omega) (by omega)]
    refine ih k (i + 1) _ p1 h1 (by omega) (by simp; omega) ?_ (g2 hb) (by omega)
    intro x hx
    rcases List.mem_append.mp hx with hx | hx
    · exact hob x hx
    · simp only [List.mem_singleton] at hx; subst hx; omega
theorem spec_l1Bytes.ok (b : List Int) (hb : b.length ≤ 140737488355328) (n : Int) (h0 : 0 ≤ n) (h1 : n ≤ 1000) (p h : Int) (hp : 0 ≤ p) (k : Nat) (hk : n < k) :
    ∃ out' p' h', spec_l1Bytes.f k b p h n = some (out', p', h') ∧ (out'.length : Int) = n ∧ isBytes out' ∧ 0 ≤ p' := by
  unfold spec_l1Bytes.f
  obtain ⟨m, rfl⟩ : ∃ m : Nat, n = (m : Int) := ⟨n.toNat, by omega⟩
  obtain ⟨o, p', h', e, g0, g1, g2⟩ := spec_l1Bytes.l0_ok b hb m (by omega) m k 0 [] p h (by omega) rfl (fun x hx => by simp at hx) hp (by omega)
  exact ⟨o, p', h', e, by omega, g1, g2⟩
theorem spec_l1Below.ok (b : List Int) (hb : b.length ≤ 140737488355328) (i h n : Int) (hi : 0 ≤ i) : ∃ v i' h', spec_l1Below.f b i h n = some (v, i', h') ∧ 0 ≤ i' ∧ 0 ≤ v ∧ (0 < n → v < n) ∧ (n ≤ 0 → v = 0) := by
  unfold spec_l1Below.f
  by_cases h0 : n ≤ 0
  · rw [if_pos h0]
    exact ⟨_, _, _, rfl, hi, by omega, by omega, fun _ => rfl⟩
  · rw [if_neg h0]
    obtain ⟨v, i1, h1, e1, g0, g1, g2⟩ := spec_l1Byte.ok b i h hi
    rw [e1]
    simp only [Option.bind_some]
    by_cases hc : n ≤ 256
    · rw [if_pos hc, if_neg (by omega), Int.tmod_eq_emod_of_nonneg g0]
      exact ⟨_, _, _, rfl, g2 hb, Int.emod_nonneg _ (by omega), fun _ => Int.emod_lt_of_pos _ (by omega), by omega⟩
    · rw [if_neg hc]
      obtain ⟨v2, i2, h2, e2, k0, k1, k2⟩ := spec_l1Byte.ok b i1 h1 (g2 hb)
      rw [e2]
      simp only [Option.bind_some]
      obtain ⟨v3, i3, h3, e3, m0, m1, m2⟩ := spec_l1Byte.ok b i2 h2 (k2 hb)
      rw [e3]
      simp only [Option.bind_some]
      rw [if_neg (by omega), w64 (n := v * 65536) (by omega) (by omega), w64 (n := v2 * 256) (by omega) (by omega), w64 (n := v * 65536 + v2 * 256) (by omega) (by omega), w64 (by omega) (by omega), Int.tmod_eq_emod_of_nonneg (by omega)]
      exact ⟨_, _, _, rfl, m2 hb, Int.emod_nonneg _ (by omega), fun _ => Int.emod_lt_of_pos _ (by omega), by omega⟩
theorem spec_DrawAppendBytes.ok (l : List Int) (hn : l.length ≤ 1048576) (k : Nat) (hk : l.length + 10 < k) : ∃ b m, spec_DrawAppendBytes.f k l = some (b, m) ∧ isBytes b ∧ b.length ≤ 3 ∧ isBytes m ∧ m.length ≤ 6 := by
  unfold spec_DrawAppendBytes.f
  obtain ⟨h, e⟩ := spec_l1New.ok l (by omega) k (by omega)
  rw [e]
  simp only [Option.bind_some]
  obtain ⟨v, i1, h1, e1, g0, g1, g2, _⟩ := spec_l1Below.ok l (by omega) 0 h 3 (by omega)
  have g2 := g2 (by omega)
  rw [e1]
  simp only [Option.bind_some]
  obtain ⟨o, i2, h2, e2, k0, k1, k2⟩ := spec_l1Bytes.ok l (by omega) v g1 (by omega) i1 h1 g0 k (by omega)
  rw [e2]
  simp only [Option.bind_some]
  obtain ⟨n, i3, h3, e3, m0, m1, m2, _⟩ := spec_l1Below.ok l (by omega) i2 h2 6 k2
  have m2 := m2 (by omega)
  rw [e3]
  simp only [Option.bind_some]
  obtain ⟨o2, i4, h4, e4, n0, n1, n2⟩ := spec_l1Bytes.ok l (by omega) n m1 (by omega) i3 h3 m0 k (by omega)
  rw [e4]
  simp only [Option.bind_some]
  exact ⟨_, _, rfl, k1, by omega, n1, by omega⟩
theorem impl_AppendUvarint.l0_ok : ∀ (d k : Nat) (x : Int) (out : List Int), 0 ≤ x → x < 128 ^ d → d ≤ 6 → out.length + d ≤ 140737488355300 → d < k → impl_AppendUvarint.l0 k x out = some (out ++ uvf d x) := by
  intro d
  induction d with
  | zero =>
    intro k x out h0 h1 hd hl hk
    obtain ⟨k, rfl⟩ : ∃ m, k = m + 1 := ⟨k - 1, by omega⟩
    simp only [impl_AppendUvarint.l0, uvf]
    rw [if_neg (by omega), if_pos (by omega)]
  | succ d ih =>
    intro k x out h0 h1 hd hl hk
    obtain ⟨k, rfl⟩ : ∃ m, k = m + 1 := ⟨k - 1, by omega⟩
    have hx : x < 4398046511104 := Int.lt_of_lt_of_le h1 (by
      have : (128 : Int) ^ (d + 1) ≤ 128 ^ 6 := by
        match d, hd with
        | 0, _ => decide
        | 1, _ => decide
        | 2, _ => decide
        | 3, _ => decide
        | 4, _ => decide
        | 5, _ => decide
      omega)
    simp only [impl_AppendUvarint.l0, uvf]
    by_cases h : x > 127
    · rw [if_pos h, if_pos (by omega), if_pos h, and127 h0 (by omega)]
      have e : ∀ y : Int, 0 ≤ y → y < 128 → Go.bits .or .u8 (y % 256) 128 = y + 128 := fun y g0 g1 => by rw [Int.emod_eq_of_lt g0 (by omega), or128u g0 g1]
      have e2 : ∀ y : Int, 0 ≤ y → y < 128 → Go.bits .or .i64 y 128 % 256 = y + 128 := fun y g0 g1 => by rw [or128 g0 g1]; omega
      first | rw [e _ (by omega) (by omega)] | rw [e2 _ (by omega) (by omega)]
      rw [ih k (x / 128) _ (by omega) (by rw [Int.pow_succ] at h1; omega) (by omega) (by simp only [List.length_append, List.length_cons, List.length_nil]; omega) (by omega)]
      simp
    · rw [if_neg h, if_pos (by omega), if_neg h]
theorem impl_AppendUvarint.ok (l : List Int) (n : Int) (hl : l.length ≤ 140737488000000) (k : Nat) (hk : 6 < k) : impl_AppendUvarint.f k l n = some (l ++ uvOf n) := by
  unfold impl_AppendUvarint.f uvOf
  simp only [Option.bind_some, List.nil_append, List.length_nil]
  rw [if_pos (by omega)]
  first | rw [spec_l1In.eq] | rw [impl_InRange.eq]
  by_cases h : 0 ≤ n ∧ n ≤ 1000000000000
  · simp only [Option.bind_some, h, decide_true, and_self, if_true]
    exact impl_AppendUvarint.l0_ok 6 k n l h.1 (by omega) (by omega) (by omega) hk
  · simp [h]
theorem impl_AppendBytes.ok (l m : List Int) (hl : l.length ≤ 70000000000000) (hm : m.length ≤ 1000000000000) (k : Nat) (hk : 6 < k) : impl_AppendBytes.f k l m = some (l ++ uv (m.length : Int) ++ m) := by
  unfold impl_AppendBytes.f
  rw [impl_AppendUvarint.ok l _ (by omega) k hk]
  have := uv_length (m.length : Int)
  simp only [Option.bind_some, uvOf]
  rw [if_pos (show (0 : Int) ≤ (m.length : Int) ∧ (m.length : Int) ≤ 1000000000000 by omega), if_pos (by rw [List.length_append]; omega)]
theorem impl_ReadBytes.ok (l : List Int) (a m : Int) (hb : isBytes l) (hn : l.length ≤ 100000000000000) (k : Nat) (hk : 14 ≤ k) : impl_ReadBytes.f k l a m = some (readB l a m) := by
  unfold impl_ReadBytes.f readB
  rw [impl_ReadUvarint.ok l a hb (by omega) k hk]
  simp only [Option.bind_some]
  by_cases h : (readUv l a).2.2 = true
  · have hr := readUv_range hb h
    rw [if_pos h, if_pos h]
    by_cases h1 : (readUv l a).1 > m
    · rw [if_pos h1, if_pos h1]
    · rw [if_neg h1, if_neg h1, w64 (n := (l.length : Int) - (readUv l a).2.1) (by omega) (by omega)]
      by_cases h2 : (readUv l a).1 > (l.length : Int) - (readUv l a).2.1
      · rw [if_pos h2, if_pos h2]
      · rw [if_neg h2, if_neg h2, w64 (n := (readUv l a).2.1 + (readUv l a).1) (by omega) (by omega), if_pos (by omega), if_pos (by omega), if_pos (by omega), if_pos (by simp only [List.length_nil, List.length_drop, List.length_take]; omega)]
        rfl
  · rw [if_neg h, if_neg h]
theorem impl_EncodeInts.l0_ok (l : List Int) (hn : l.length ≤ 1048576) : ∀ (d k i : Nat) (out : List Int), i + d = l.length → out.length + 7 * d ≤ 100000000000000 → d + 7 < k → impl_EncodeInts.l0 k out l (l.length : Int) (i : Int) = some (out ++ encInts (l.drop i)) := by
  intro d
  induction d with
  | zero =>
    intro k i out hi ho hk
    obtain ⟨k, rfl⟩ : ∃ m, k = m + 1 := ⟨k - 1, by omega⟩
    simp only [impl_EncodeInts.l0]
    rw [if_neg (by omega), List.drop_of_length_le (by omega)]
    simp [encInts]
  | succ d ih =>
    intro k i out hi ho hk
    obtain ⟨k, rfl⟩ : ∃ m, k = m + 1 := ⟨k - 1, by omega⟩
    have hu := uvOf_length (rd l (i : Int))
    simp only [impl_EncodeInts.l0]
    rw [if_pos (by omega), if_pos (by omega), if_pos (by omega), impl_AppendUvarint.ok out _ (by omega) k (by omega)]
    simp only [Option.bind_some]
    rw [w64_succ (n := l.length) (by omega) (by omega), rd_drop (xs := l) (i := i) (by omega), ih k (i + 1) _ (by omega) (by simp only [List.length_append]; omega) (by omega), encInts_cons]
    simp
theorem impl_EncodeInts.ok (l : List Int) (hn : l.length ≤ 1048576) (k : Nat) (hk : l.length + 7 < k) : impl_EncodeInts.f k l = some (encInts l) := by
  unfold impl_EncodeInts.f
  exact impl_EncodeInts.l0_ok l hn l.length k 0 _ (by omega) (by simp only [List.length_nil]; omega) hk
theorem laws_sameInts.l0_ok (x0 x1 : List Int) (hn : x0.length ≤ 140737488355328) (hl : x0.length = x1.length) : ∀ (d k i : Nat), i + d = x0.length → d < k → laws_sameInts.l0 k x0 x1 (i : Int) = some (decide (x0.drop i = x1.drop i)) := by
  intro d
  induction d with
  | zero =>
    intro k i hi hk
    obtain ⟨k, rfl⟩ : ∃ m, k = m + 1 := ⟨k - 1, by omega⟩
    simp only [laws_sameInts.l0]
    rw [if_neg (by omega), List.drop_of_length_le (by omega), List.drop_of_length_le (by omega)]
    simp
  | succ d ih =>
    intro k i hi hk
    obtain ⟨k, rfl⟩ : ∃ m, k = m + 1 := ⟨k - 1, by omega⟩
    simp only [laws_sameInts.l0]
    rw [if_pos (by omega), if_pos (by omega), if_pos (by omega), rd_drop (xs := x0) (i := i) (by omega), rd_drop (xs := x1) (i := i) (by omega)]
    by_cases h : rd x0 (i : Int) = rd x1 (i : Int)
    · rw [if_pos h, w64_succ (n := x0.length) (by omega) (by omega), ih k (i + 1) (by omega) (by omega)]
      simp [h]
    · rw [if_neg h]
      simp [h]
theorem laws_sameInts.ok (a b : List Int) (hn : a.length ≤ 140737488355328) (k : Nat) (hk : a.length < k) : laws_sameInts.f k a b = some (decide (a = b)) := by
  unfold laws_sameInts.f
  by_cases h : (a.length : Int) = (b.length : Int)
  · rw [if_pos h]
    exact laws_sameInts.l0_ok a b hn (by omega) a.length k 0 (by omega) hk
  · rw [if_neg h]
    have : a ≠ b := fun e => h (by rw [e])
    simp [this]
theorem laws_sameInts.same (a : List Int) (hn : a.length ≤ 140737488355328) (k : Nat) (hk : a.length < k) : laws_sameInts.f k a a = some true := by
  rw [laws_sameInts.ok a a hn k hk]; simp
theorem l0_true (c : List Int) (hb : isBytes c) (hc : c.length ≤ 1048576) (t : Int) (ht : laws_at.f c 0 = some t) (t0 : 0 ≤ t) : ∀ (d k i : Nat) (out : List Int), (i : Int) + d = t % 6 → out.length = i → (∀ v ∈ out, 0 ≤ v ∧ v ≤ 1000000000000) → d + 300 < k →
    laws_FnByteStrings.l0 k c out (i : Int) = some true := by
  intro d
  induction d with
  | zero =>
    intro k i out hi ho hv hk
    obtain ⟨k, rfl⟩ : ∃ m, k = m + 1 := ⟨k - 1, by omega⟩
    simp only [laws_FnByteStrings.l0]
    rw [ht]
    simp only [Option.bind_some]
    have hl := encInts_length out
    have hby := encInts_bytes out
    rw [Int.tmod_eq_emod_of_nonneg t0, if_neg (by omega), impl_EncodeInts.ok out (by omega) k (by omega)]
    simp only [Option.bind_some]
    rw [w64 (n := (out.length : Int) + 1) (by omega) (by omega), impl_DecodeInts.ok _ 0 _ hby (by omega) k (by omega)]
    simp only [Option.bind_some]
    rw [impl_DecodeInts.ok _ 0 _ hby (by omega) k (by omega)]
    simp only [Option.bind_some]
    have e1 := decInts_enc out [] [] hv
    have e2 := decInts_more out [] [] hv
    simp only [List.nil_append, List.length_nil] at e1 e2
    have r1 : readL (encInts out) 0 (out.length : Int) = (out, ((encInts out).length : Int), true) := by
      unfold readL
      rw [if_pos (by omega), show (out.length : Int).toNat = out.length by omega]
      exact e1
    have r2 : (readL (encInts out) 0 ((out.length : Int) + 1)).2.2 = false := by
      unfold readL
      rw [if_pos (by omega), show ((out.length : Int) + 1).toNat = out.length + 1 by omega]
      exact e2
    rw [r1]
    simp only [if_true]
    rw [laws_sameInts.same out (by omega) k (by omega), r2]
    simp
  | succ d ih =>
    intro k i out hi ho hv hk
    obtain ⟨k, rfl⟩ : ∃ m, k = m + 1 := ⟨k - 1, by omega⟩
    simp only [laws_FnByteStrings.l0]
    rw [ht]
    simp only [Option.bind_some]
    rw [Int.tmod_eq_emod_of_nonneg t0, if_pos (by omega), w64 (n := (i : Int) + 1) (by omega) (by omega), w64 (n := (i : Int) + 2) (by omega) (by omega), w64 (n := (i : Int) + 3) (by omega) (by omega)]
    obtain ⟨x, ex, x0, x1⟩ := laws_at.ok c hb hc ((i : Int) + 1) (by omega) (by omega)
    obtain ⟨y, ey, y0, y1⟩ := laws_at.ok c hb hc ((i : Int) + 2) (by omega) (by omega)
    obtain ⟨z, ez, z0, z1⟩ := laws_at.ok c hb hc ((i : Int) + 3) (by omega) (by omega)
    rw [ex, ey, ez]
    simp only [Option.bind_some]
    have p0 : 0 ≤ x * y := Int.mul_nonneg x0 y0
    have p1 : x * y ≤ 255 * 255 := Int.mul_le_mul x1 y1 y0 (by omega)
    have q0 : 0 ≤ x * y * z := Int.mul_nonneg p0 z0
    have q1 : x * y * z ≤ 65025 * 255 := Int.mul_le_mul (by omega) z1 z0 (by omega)
    rw [if_pos (by omega), w64 (n := x * y) (by omega) (by omega), w64 (n := x * y * z) (by omega) (by omega), show (i : Int) + 1 = ((i + 1 : Nat) : Int) by omega]
    refine ih k (i + 1) _ (by omega) (by simp only [List.length_append, List.length_cons, List.length_nil]; omega) ?_ (by omega)
    intro v hm
    rcases List.mem_append.mp hm with hm | hm
    · exact hv v hm
    · simp only [List.mem_singleton] at hm; subst hm; omega
theorem FnByteStrings : laws_FnByteStrings.Pure := by
  intro l _ _ hb
  have hb' := bytes_wf hb
  refine ⟨l.length + 400, ?_⟩
  unfold laws_FnByteStrings.f
  rw [laws_big.eq]
  simp only [Option.bind_some]
  by_cases h : (l.length : Int) > 1048576
  · rw [if_pos (by simpa using h)]
  · rw [if_neg (by simpa using h)]
    obtain ⟨b, m, e, gb, gl, mb, ml⟩ := spec_DrawAppendBytes.ok l (by omega) (l.length + 400) (by omega)
    rw [e]
    simp only [Option.bind_some]
    have hu := uv_length (m.length : Int)
    have hby : isBytes (b ++ uv (m.length : Int) ++ m) := bytes_append (bytes_append gb (uv_bytes _)) mb
    have hlen : (b ++ uv (m.length : Int) ++ m).length ≤ 1000 := by simp only [List.length_append]; omega
    rw [impl_AppendBytes.ok b m (by omega) (by omega) _ (by omega)]
    simp only [Option.bind_some]
    rw [impl_ReadBytes.ok _ _ _ hby (by omega) _ (by omega)]
    simp only [Option.bind_some]
    rw [w64 (by omega) (by omega), impl_ReadBytes.ok _ _ _ hby (by omega) _ (by omega)]
    simp only [Option.bind_some]
    have e1 := readB_whole b m (by omega)
    have e2 := readB_short b m (by omega)
    rw [e1]
    simp only [if_true]
    rw [laws_sameBytes.same m (by omega) _ (by omega)]
    simp only [Option.bind_some, if_true, e2, laws_FnByteStrings.j0]
    rw [if_neg (by simp)]
    obtain ⟨t, ht, t0, t1⟩ := laws_at.ok l hb' (by omega) 0 (by omega) (by omega)
    exact l0_true l hb' (by omega) t ht t0 (t % 6).toNat _ 0 [] (by omega) rfl (fun v hv => by simp at hv) (by omega)

end Go.Proofs.Ytelngjhdpbfifaa.Pure
