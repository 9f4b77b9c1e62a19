/- Decryption inverts encryption, and encryption inverts decryption: the law returns true for every slice of bytes that it draws from. -/
import Derived.Test.YtelngjhdpbfifaaQFnCipherx2
import Derived.Test.YtelngjhdpbfifaaBase
import Derived.Test.YtelngjhdpbfifaaLst
namespace Go.Proofs.Ytelngjhdpbfifaa.Pure
open Go Go.RowKit Go.Proofs.Ytelngjhdpbfifaa.PFnCipher Go.Proofs.YtelngjhdpbfifaaW.PrintWords Go.Proofs.YtelngjhdpbfifaaW.PrintLast Go.Proofs.YtelngjhdpbfifaaW.PrintMore Go.Proofs.Ytelngjhdpbfifaa.Base Go.Proofs.Ytelngjhdpbfifaa.Lst
set_option linter.unusedVariables false
set_option linter.unusedSimpArgs false
theorem laws_big.eq (l : List Int) : laws_big.f l = some (decide ((l.length : Int) > 1048576)) := rfl
theorem spec_l1New.l0_ok (l : List Int) (hn : l.length ≤ 140737488355328) : ∀ (d k i : Nat) (h : Int), i + d = l.length → d < k → ∃ h', spec_l1New.l0 k l h (i : Int) = some (l, 0, h') := by
  intro d
  induction d with
  | zero =>
    intro k i h hi hk
    obtain ⟨k, rfl⟩ : ∃ m, k = m + 1 := ⟨k - 1, by omega⟩
    simp only [spec_l1New.l0]
    rw [if_neg (by omega)]
    exact ⟨_, rfl⟩
  | succ d ih =>
    intro k i h hi hk
    obtain ⟨k, rfl⟩ : ∃ m, k = m + 1 := ⟨k - 1, by omega⟩
    simp only [spec_l1New.l0]
    rw [if_pos (by omega)]
    by_cases h4 : (i : Int) < 4000
    · rw [if_pos h4, if_pos (by omega), w64_succ (n := l.length) (by omega) (by omega)]
      exact ih k (i + 1) _ (by omega) (by omega)
    · rw [if_neg h4]
      exact ⟨_, rfl⟩
theorem spec_l1New.ok (l : List Int) (hn : l.length ≤ 140737488355328) (k : Nat) (hk : l.length < k) : ∃ h', spec_l1New.f k l = some (l, 0, h') := by
  unfold spec_l1New.f
  exact spec_l1New.l0_ok l hn l.length k 0 _ (by omega) hk
theorem spec_l1Byte.ok (b : List Int) (i h : Int) (hi : 0 ≤ i) : ∃ v i' h', spec_l1Byte.f b i h = some (v, i', h') ∧ 0 ≤ v ∧ v ≤ 255 ∧ (b.length ≤ 140737488355328 → 0 ≤ i') := by
  unfold spec_l1Byte.f
  by_cases hc : i < (b.length : Int)
  · rw [if_pos hc, if_pos hi]
    exact ⟨_, _, _, rfl, (mask255 _).1, (mask255 _).2, fun hb => by rw [w64 (by omega) (by omega)]; omega⟩
  · rw [if_neg hc]
    exact ⟨_, _, _, rfl, (mask255 _).1, (mask255 _).2, fun _ => hi⟩
theorem spec_l1Below.ok (b : List Int) (hb : b.length ≤ 140737488355328) (i h n : Int) (hi : 0 ≤ i) : ∃ v i' h', spec_l1Below.f b i h n = some (v, i', h') ∧ 0 ≤ i' ∧ 0 ≤ v ∧ (0 < n → v < n) ∧ (n ≤ 0 → v = 0) := by
  unfold spec_l1Below.f
  by_cases h0 : n ≤ 0
  · rw [if_pos h0]
    exact ⟨_, _, _, rfl, hi, by omega, by omega, fun _ => rfl⟩
  · rw [if_neg h0]
    obtain ⟨v, i1, h1, e1, g0, g1, g2⟩ := spec_l1Byte.ok b i h hi
    rw [e1]
    simp only [Option.bind_some]
    by_cases hc : n ≤ 256
    · rw [if_pos hc, if_neg (by omega), Int.tmod_eq_emod_of_nonneg g0]
      exact ⟨_, _, _, rfl, g2 hb, Int.emod_nonneg _ (by omega), fun _ => Int.emod_lt_of_pos _ (by omega), by omega⟩
    · rw [if_neg hc]
      obtain ⟨v2, i2, h2, e2, k0, k1, k2⟩ := spec_l1Byte.ok b i1 h1 (g2 hb)
      rw [e2]
      simp only [Option.bind_some]
      obtain ⟨v3, i3, h3, e3, m0, m1, m2⟩ := spec_l1Byte.ok b i2 h2 (k2 hb)
      rw [e3]
      simp only [Option.bind_some]
      rw [if_neg (by omega), w64 (n := v * 65536) (by omega) (by omega), w64 (n := v2 * 256) (by omega) (by omega), w64 (n := v * 65536 + v2 * 256) (by omega) (by omega), w64 (by omega) (by omega), Int.tmod_eq_emod_of_nonneg (by omega)]
      exact ⟨_, _, _, rfl, m2 hb, Int.emod_nonneg _ (by omega), fun _ => Int.emod_lt_of_pos _ (by omega), by omega⟩
theorem spec_l1Int.ok (b : List Int) (hb : b.length ≤ 140737488355328) (i h : Int) (hi : 0 ≤ i) (l : List Int) (hl : 0 < l.length) : ∃ v i' h', spec_l1Int.f b i h l = some (v, i', h') ∧ 0 ≤ i' ∧ v ∈ l := by
  unfold spec_l1Int.f
  obtain ⟨v, i1, h1, e1, g0, g1, g2, _⟩ := spec_l1Below.ok b hb i h (l.length : Int) hi
  have g2 := g2 (by omega)
  rw [e1]
  simp only [Option.bind_some]
  rw [if_pos g1, if_pos g2]
  refine ⟨_, _, _, rfl, g0, ?_⟩
  have e : v = ((v.toNat : Nat) : Int) := by omega
  rw [e, rd_get (show v.toNat < l.length by omega)]
  exact List.getElem_mem _
theorem spec_l1Once.ok (b : List Int) (hb : b.length ≤ 140737488355328) (i h n : Int) (hi : 0 ≤ i) : ∃ (v : Bool) (i' h' : Int), spec_l1Once.f b i h n = some (v, i', h') ∧ 0 ≤ i' := by
  unfold spec_l1Once.f
  obtain ⟨v, i1, h1, e1, g0, _⟩ := spec_l1Below.ok b hb i h n hi
  rw [e1]
  exact ⟨_, _, _, rfl, g0⟩
theorem spec_l3Word.ok (b : List Int) (hb : b.length ≤ 140737488355328) (i h : Int) (hi : 0 ≤ i) : ∃ v i' h', spec_l3Word.f b i h = some (v, i', h') ∧ 0 ≤ i' ∧ -1 ≤ v ∧ v ≤ 2147483648 := by
  unfold spec_l3Word.f
  obtain ⟨t, i1, h1, e1, g0⟩ := spec_l1Once.ok b hb i h 10 hi
  rw [e1]
  simp only [Option.bind_some]
  by_cases ht : t = true
  · rw [if_pos ht]
    obtain ⟨v2, i2, h2, e2, k0, k1⟩ := spec_l1Int.ok b hb i1 h1 g0 ([(-1), 2147483647, 2147483648] : List Int) (by simp)
    rw [e2]
    simp only [List.mem_cons, List.not_mem_nil, or_false] at k1
    exact ⟨_, _, _, rfl, k0, by omega, by omega⟩
  · rw [if_neg ht]
    obtain ⟨t2, i2, h2, e2, k0⟩ := spec_l1Once.ok b hb i1 h1 4 g0
    rw [e2]
    simp only [Option.bind_some]
    by_cases ht2 : t2 = true
    · rw [if_pos ht2]
      obtain ⟨v3, i3, h3, e3, m0, m1⟩ := spec_l1Int.ok b hb i2 h2 k0 ([0, 1, 2147483646] : List Int) (by simp)
      rw [e3]
      simp only [List.mem_cons, List.not_mem_nil, or_false] at m1
      exact ⟨_, _, _, rfl, m0, by omega, by omega⟩
    · rw [if_neg ht2]
      obtain ⟨v3, i3, h3, e3, m0, m1, m2, _⟩ := spec_l1Below.ok b hb i2 h2 1000000 k0
      rw [e3]
      simp only [Option.bind_some]
      obtain ⟨v4, i4, h4, e4, n0, n1, n2, _⟩ := spec_l1Below.ok b hb i3 h3 2000 m0
      rw [e4]
      simp only [Option.bind_some]
      have m2 := m2 (by omega)
      have n2 := n2 (by omega)
      have q0 : 0 ≤ v3 * v4 := Int.mul_nonneg m1 n1
      have q1 : v3 * v4 ≤ 1000000 * 2000 := Int.mul_le_mul (by omega) (by omega) n1 (by omega)
      rw [w64 (by omega) (by omega)]
      exact ⟨_, _, _, rfl, n0, by omega, by omega⟩
theorem spec_l1Bytes.l0_ok (b : List Int) (hb : b.length ≤ 140737488355328) (n : Nat) (hn : n ≤ 1000) : ∀ (d k i : Nat) (out : List Int) (p h : Int), i + d = n → out.length = i → isBytes out → 0 ≤ p → d < k →
    ∃ out' p' h', spec_l1Bytes.l0 k (n : Int) out (i : Int) b p h = some (out', p', h') ∧ out'.length = n ∧ isBytes out' ∧ 0 ≤ p' := by
  intro d
  induction d with
  | zero =>
    intro k i out p h hi ho hob hp hk
    obtain ⟨k, rfl⟩ : ∃ m, k = m + 1 := ⟨k - 1, by omega⟩
    simp only [spec_l1Bytes.l0]
    rw [if_neg (by omega)]
    exact ⟨_, _, _, rfl, by omega, hob, hp⟩
  | succ d ih =>
    intro k i out p h hi ho hob hp hk
    obtain ⟨k, rfl⟩ : ∃ m, k = m + 1 := ⟨k - 1, by omega⟩
    simp only [spec_l1Bytes.l0]
    obtain ⟨v, p1, h1, e1, g0, g1, g2⟩ := spec_l1Byte.ok b p h hp
    rw [if_pos (by omega), e1]
    simp only [Option.bind_some]
    rw [if_pos (by omega), w64_succ (n := n) (by omega) (by omega)]
    refine ih k (i + 1) _ p1 h1 (by omega) (by simp; omega) ?_ (g2 hb) (by omega)
    intro x hx
    rcases List.mem_append.mp hx with hx | hx
    · exact hob x hx
    · simp only [List.mem_singleton] at hx; subst hx; omega
theorem spec_l1Bytes.ok (b : List Int) (hb : b.length ≤ 140737488355328) (n : Int) (h0 : 0 ≤ n) (h1 : n ≤ 1000) (p h : Int) (hp : 0 ≤ p) (k : Nat) (hk : n < k) :
    ∃ out' p' h', spec_l1Bytes.f k b p h n = some (out', p', h') ∧ (out'.length : Int) = n ∧ isBytes out' ∧ 0 ≤ p' := by
  unfold spec_l1Bytes.f
  obtain ⟨m, rfl⟩ : ∃ m : Nat, n = (m : Int) := ⟨n.toNat, by omega⟩
  obtain ⟨o, p', h', e, g0, g1, g2⟩ := spec_l1Bytes.l0_ok b hb m (by omega) m k 0 [] p h (by omega) rfl (fun x hx => by simp at hx) hp (by omega)
  exact ⟨o, p', h', e, by omega, g1, g2⟩
theorem spec_DrawEncrypt.ok (l : List Int) (hn : l.length ≤ 1048576) (k : Nat) (hk : l.length + 10 < k) : ∃ key b, spec_DrawEncrypt.f k l = some (key, b) ∧ isBytes b ∧ b.length ≤ 8 := by
  unfold spec_DrawEncrypt.f
  obtain ⟨h, e⟩ := spec_l1New.ok l (by omega) k (by omega)
  rw [e]
  simp only [Option.bind_some]
  obtain ⟨key, i1, h1, e1, g0, _⟩ := spec_l3Word.ok l (by omega) 0 h (by omega)
  rw [e1]
  simp only [Option.bind_some]
  obtain ⟨n, i3, h3, e3, m0, m1, m2, _⟩ := spec_l1Below.ok l (by omega) i1 h1 8 g0
  have m2 := m2 (by omega)
  rw [e3]
  simp only [Option.bind_some]
  obtain ⟨o2, i4, h4, e4, n0, n1, n2⟩ := spec_l1Bytes.ok l (by omega) n m1 (by omega) i3 h3 m0 k (by omega)
  rw [e4]
  simp only [Option.bind_some]
  exact ⟨_, _, rfl, n1, by omega⟩
theorem laws_sameBytes.l0_ok (x0 x1 : List Int) (hn : x0.length ≤ 140737488355328) (hl : x0.length = x1.length) : ∀ (d k i : Nat), i + d = x0.length → d < k → laws_sameBytes.l0 k x0 x1 (i : Int) = some (decide (x0.drop i = x1.drop i)) := by
  intro d
  induction d with
  | zero =>
    intro k i hi hk
    obtain ⟨k, rfl⟩ : ∃ m, k = m + 1 := ⟨k - 1, by omega⟩
    simp only [laws_sameBytes.l0]
    rw [if_neg (by omega), List.drop_of_length_le (by omega), List.drop_of_length_le (by omega)]
    simp
  | succ d ih =>
    intro k i hi hk
    obtain ⟨k, rfl⟩ : ∃ m, k = m + 1 := ⟨k - 1, by omega⟩
    simp only [laws_sameBytes.l0]
    rw [if_pos (by omega), if_pos (by omega), if_pos (by omega), rd_drop (xs := x0) (i := i) (by omega), rd_drop (xs := x1) (i := i) (by omega)]
    by_cases h : rd x0 (i : Int) = rd x1 (i : Int)
    · rw [if_pos h, w64_succ (n := x0.length) (by omega) (by omega), ih k (i + 1) (by omega) (by omega)]
      simp [h]
    · rw [if_neg h]
      simp [h]
theorem laws_sameBytes.ok (a b : List Int) (hn : a.length ≤ 140737488355328) (k : Nat) (hk : a.length < k) : laws_sameBytes.f k a b = some (decide (a = b)) := by
  unfold laws_sameBytes.f
  by_cases h : (a.length : Int) = (b.length : Int)
  · rw [if_pos h]
    exact laws_sameBytes.l0_ok a b hn (by omega) a.length k 0 (by omega) hk
  · rw [if_neg h]
    have : a ≠ b := fun e => h (by rw [e])
    simp [this]
theorem laws_sameBytes.same (a : List Int) (hn : a.length ≤ 140737488355328) (k : Nat) (hk : a.length < k) : laws_sameBytes.f k a a = some true := by
  rw [laws_sameBytes.ok a a hn k hk]; simp
theorem impl_InRange.eq (a b c : Int) : impl_InRange.f a b c = some (decide (b ≤ a ∧ a ≤ c)) := by
  unfold impl_InRange.f
  by_cases h : b ≤ a
  · rw [if_pos h]; simp [h]
  · rw [if_neg h]; simp [h]
theorem impl_Mod.eq (p q : Int) : impl_Mod.f p q = some (modOf p q) := by
  unfold impl_Mod.f modOf
  rw [impl_InRange.eq]
  by_cases h : 1 ≤ q ∧ q ≤ 1000000000000
  · rw [if_pos h]
    have hq : ¬ q = 0 := by omega
    simp only [Option.bind_some, h, decide_true, and_self, if_true, if_neg hq]
    have h1 := Int.lt_tmod_of_pos p (show 0 < q by omega)
    have h2 := Int.tmod_lt_of_pos p (show 0 < q by omega)
    rw [← tmod_pos h.1]
    by_cases h3 : p.tmod q < 0
    · rw [if_pos h3, if_pos h3, w64 (by omega) (by omega)]
    · rw [if_neg h3, if_neg h3]
  · rw [if_neg h]; simp [h]
theorem impl_fold.eq (acc v : Int) : impl_fold.f acc v = some (fold acc v) := by
  unfold impl_fold.f fold
  rw [impl_Mod.eq]
  unfold modOf
  rw [if_pos (by omega)]
  rfl
theorem impl_KeyedHash.l0_ok (key : Int) (l : List Int) (hn : l.length ≤ 140737488355328) : ∀ (d k i : Nat) (acc : Int), i + d = l.length → d < k → impl_KeyedHash.l0 k key acc l (l.length : Int) (i : Int) = some (fold (hashFrom acc (l.drop i)) key) := by
  intro d
  induction d with
  | zero =>
    intro k i acc hi hk
    obtain ⟨k, rfl⟩ : ∃ m, k = m + 1 := ⟨k - 1, by omega⟩
    simp only [impl_KeyedHash.l0]
    rw [if_neg (by omega), List.drop_of_length_le (by omega), impl_fold.eq]
    rfl
  | succ d ih =>
    intro k i acc hi hk
    obtain ⟨k, rfl⟩ : ∃ m, k = m + 1 := ⟨k - 1, by omega⟩
    simp only [impl_KeyedHash.l0]
    rw [if_pos (by omega), if_pos (by omega), if_pos (by omega), impl_fold.eq, hashFrom_drop acc (show i < l.length by omega), w64_succ (n := l.length) (by omega) (by omega)]
    simp only [Option.bind_some]
    exact ih k (i + 1) _ (by omega) (by omega)
theorem impl_KeyedHash.ok (key : Int) (l : List Int) (hn : l.length ≤ 140737488355328) (k : Nat) (hk : l.length < k) : impl_KeyedHash.f k key l = some (keyed key l) := by
  unfold impl_KeyedHash.f
  rw [impl_fold.eq]
  simp only [Option.bind_some]
  rw [keyed_eq]
  exact impl_KeyedHash.l0_ok key l hn l.length k 0 _ (by omega) hk
theorem impl_Decrypt.l0_ok (key : Int) (l : List Int) (hb : isBytes l) (hn : l.length ≤ 1048576) : ∀ (d k i : Nat) (out : List Int), i + d = l.length → out.length + d ≤ 140737488355328 → d + 4 < k → impl_Decrypt.l0 k key out l (l.length : Int) (i : Int) = some (out ++ decr key i (l.drop i)) := by
  intro d
  induction d with
  | zero =>
    intro k i out hi ho hk
    obtain ⟨k, rfl⟩ : ∃ m, k = m + 1 := ⟨k - 1, by omega⟩
    simp only [impl_Decrypt.l0]
    rw [if_neg (by omega), List.drop_of_length_le (by omega)]
    simp [decr]
  | succ d ih =>
    intro k i out hi ho hk
    obtain ⟨k, rfl⟩ : ∃ m, k = m + 1 := ⟨k - 1, by omega⟩
    have hk2 := keyed_bound key [(i : Int)]
    simp only [impl_Decrypt.l0]
    rw [if_pos (by omega), if_pos (by omega), if_pos (by omega), impl_KeyedHash.ok key [(i : Int)] (by simp) k (by simp; omega)]
    simp only [Option.bind_some]
    rw [if_pos (by omega), w64_succ (n := l.length) (by omega) (by omega), rd_drop (xs := l) (i := i) (by omega), ih k (i + 1) _ (by omega) (by simp only [List.length_append, List.length_cons, List.length_nil]; omega) (by omega)]
    simp only [decr, List.append_assoc, List.cons_append, List.nil_append]
theorem impl_Decrypt.ok (key : Int) (l : List Int) (hb : isBytes l) (hn : l.length ≤ 1048576) (k : Nat) (hk : l.length + 4 < k) : impl_Decrypt.f k key l = some (decr key 0 l) := by
  unfold impl_Decrypt.f
  exact impl_Decrypt.l0_ok key l hb hn l.length k 0 _ (by omega) (by simp only [List.length_nil]; omega) hk
theorem impl_Encrypt.l0_ok (key : Int) (l : List Int) (hb : isBytes l) (hn : l.length ≤ 1048576) : ∀ (d k i : Nat) (out : List Int), i + d = l.length → out.length + d ≤ 140737488355328 → d + 4 < k → impl_Encrypt.l0 k key out l (l.length : Int) (i : Int) = some (out ++ encr key i (l.drop i)) := by
  intro d
  induction d with
  | zero =>
    intro k i out hi ho hk
    obtain ⟨k, rfl⟩ : ∃ m, k = m + 1 := ⟨k - 1, by omega⟩
    simp only [impl_Encrypt.l0]
    rw [if_neg (by omega), List.drop_of_length_le (by omega)]
    simp [encr]
  | succ d ih =>
    intro k i out hi ho hk
    obtain ⟨k, rfl⟩ : ∃ m, k = m + 1 := ⟨k - 1, by omega⟩
    have hk2 := keyed_bound key [(i : Int)]
    simp only [impl_Encrypt.l0]
    rw [if_pos (by omega), if_pos (by omega), if_pos (by omega), impl_KeyedHash.ok key [(i : Int)] (by simp) k (by simp; omega)]
    simp only [Option.bind_some]
    rw [if_pos (by omega), w64_succ (n := l.length) (by omega) (by omega), rd_drop (xs := l) (i := i) (by omega), ih k (i + 1) _ (by omega) (by simp only [List.length_append, List.length_cons, List.length_nil]; omega) (by omega)]
    simp only [encr, List.append_assoc, List.cons_append, List.nil_append]
theorem impl_Encrypt.ok (key : Int) (l : List Int) (hb : isBytes l) (hn : l.length ≤ 1048576) (k : Nat) (hk : l.length + 4 < k) : impl_Encrypt.f k key l = some (encr key 0 l) := by
  unfold impl_Encrypt.f
  exact impl_Encrypt.l0_ok key l hb hn l.length k 0 _ (by omega) (by simp only [List.length_nil]; omega) hk
theorem FnCipher : laws_FnCipher.Pure := by
  intro l _ _ hb
  have hb' := bytes_wf hb
  refine ⟨l.length + 400, ?_⟩
  unfold laws_FnCipher.f
  rw [laws_big.eq]
  simp only [Option.bind_some]
  by_cases h : (l.length : Int) > 1048576
  · rw [if_pos (by simpa using h)]
  · rw [if_neg (by simpa using h)]
    obtain ⟨key, b, e, gb, gl⟩ := spec_DrawEncrypt.ok l (by omega) (l.length + 400) (by omega)
    rw [e]
    simp only [Option.bind_some]
    have e1 := encr_length key b 0
    have e2 := decr_length key b 0
    have b1 := encr_bytes key b 0
    have b2 := decr_bytes key b 0
    rw [impl_Encrypt.ok key b gb (by omega) _ (by omega)]
    simp only [Option.bind_some]
    rw [impl_Decrypt.ok key _ b1 (by omega) _ (by omega), decr_encr key b 0 gb]
    simp only [Option.bind_some]
    rw [laws_sameBytes.same b (by omega) _ (by omega)]
    simp only [Option.bind_some, if_true]
    rw [impl_Decrypt.ok key b gb (by omega) _ (by omega)]
    simp only [Option.bind_some]
    rw [impl_Encrypt.ok key _ b2 (by omega) _ (by omega), encr_decr key b 0 gb]
    simp only [Option.bind_some]
    rw [laws_sameBytes.same b (by omega) _ (by omega)]
    simp [e1]

end Go.Proofs.Ytelngjhdpbfifaa.Pure
