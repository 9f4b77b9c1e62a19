/- The program's DeriveFromString answers as the reference's, for every key and every string: the bytes, their list of numbers, its keyed hash, and 1 for 0. -/
import Derived.Test.YtppdidoingbgiaaPFnExactDeriveFromStringx1
import Derived.Test.YtppdidoingbgiaaBase
import Derived.Test.YtppdidoingbgiaaLst
namespace Go.Proofs.Ytppdidoingbgiaa.Pure
open Go Go.RowKit Go.Proofs.Ytppdidoingbgiaa.PFnExactDeriveFromString Go.Proofs.YtppdidoingbgiaaW.PrintWords Go.Proofs.YtppdidoingbgiaaW.PrintLast Go.Proofs.YtppdidoingbgiaaW.PrintMore Go.Proofs.Ytppdidoingbgiaa.Base Go.Proofs.Ytppdidoingbgiaa.Lst
set_option linter.unusedVariables false
set_option linter.unusedSimpArgs false
theorem spec_BytesToInts.l0_ok (l : List Int) (hb : isBytes l) (hn : l.length ≤ 1048576) : ∀ (d k i : Nat) (out : List Int), i + d = l.length → out.length + d ≤ 17592186044416 → d < k → spec_BytesToInts.l0 k l out (i : Int) = some (out ++ l.drop i) := by
  intro d
  induction d with
  | zero =>
    intro k i out hi ho hk
    obtain ⟨k, rfl⟩ : ∃ m, k = m + 1 := ⟨k - 1, by omega⟩
    simp only [spec_BytesToInts.l0]
    rw [if_neg (by omega), List.drop_of_length_le (by omega), List.append_nil]
  | succ d ih =>
    intro k i out hi ho hk
    obtain ⟨k, rfl⟩ : ∃ m, k = m + 1 := ⟨k - 1, by omega⟩
    have hr := bytes_rd hb (i : Int)
    simp only [spec_BytesToInts.l0]
    rw [if_pos (by omega), if_pos (by omega), if_pos (by omega), w64_succ (n := l.length) (by omega) (by omega), w64 (n := rd l (i : Int)) (by omega) (by omega), rd_drop (xs := l) (i := i) (by omega), ih k (i + 1) _ (by omega) (by simp only [List.length_append, List.length_cons, List.length_nil]; omega) (by omega)]
    simp
theorem spec_BytesToInts.ok (l : List Int) (hb : isBytes l) (hn : l.length ≤ 1048576) (k : Nat) (hk : l.length < k) : spec_BytesToInts.f k l = some ((l.length : Int) :: l) := by
  unfold spec_BytesToInts.f
  exact spec_BytesToInts.l0_ok l hb hn l.length k 0 _ (by omega) (by simp only [List.length_cons, List.length_nil]; omega) hk
theorem spec_Max.eq (a b : Int) : spec_Max.f a b = some (max a b) := by
  unfold spec_Max.f
  by_cases h : b > a
  · rw [if_pos h]; congr 1; omega
  · rw [if_neg h]; congr 1; omega
theorem spec_l1In.eq (a b c : Int) : spec_l1In.f a b c = some (decide (b ≤ a ∧ a ≤ c)) := by
  unfold spec_l1In.f
  by_cases h : b ≤ a
  · rw [if_pos h]; simp [h]
  · rw [if_neg h]; simp [h]
theorem spec_Mod.eq (p q : Int) : spec_Mod.f p q = some (modOf p q) := by
  unfold spec_Mod.f modOf
  rw [spec_l1In.eq]
  by_cases h : 1 ≤ q ∧ q ≤ 1000000000000
  · rw [if_pos h]
    have hq : ¬ q = 0 := by omega
    simp only [Option.bind_some, h, decide_true, and_self, if_true, if_neg hq]
    congr 1
    have h1 := Int.lt_tmod_of_pos p (show 0 < q by omega)
    have h2 := Int.tmod_lt_of_pos p (show 0 < q by omega)
    rw [w64 (by omega) (by omega), ← tmod_pos h.1]
    by_cases h3 : p.tmod q < 0
    · rw [if_pos h3, Int.tmod_eq_of_lt (by omega) (by omega)]
    · rw [if_neg h3, Int.tmod_eq_emod_of_nonneg (by omega), Int.add_emod_right, Int.emod_eq_of_lt (by omega) (by omega)]
  · rw [if_neg h]; simp [h]
theorem spec_Hash.l0_ok (l : List Int) (hn : l.length ≤ 140737488355328) : ∀ (d k i : Nat) (acc : Int), i + d = l.length → d < k → spec_Hash.l0 k l acc (i : Int) = some (hashFrom acc (l.drop i)) := by
  intro d
  induction d with
  | zero =>
    intro k i acc hi hk
    obtain ⟨k, rfl⟩ : ∃ m, k = m + 1 := ⟨k - 1, by omega⟩
    simp only [spec_Hash.l0]
    rw [if_neg (by omega), List.drop_of_length_le (by omega)]
    rfl
  | succ d ih =>
    intro k i acc hi hk
    obtain ⟨k, rfl⟩ : ∃ m, k = m + 1 := ⟨k - 1, by omega⟩
    simp only [spec_Hash.l0]
    rw [if_pos (by omega), if_pos (by omega), spec_Mod.eq, hashFrom_drop acc (show i < l.length by omega), w64_succ (n := l.length) (by omega) (by omega)]
    unfold modOf
    rw [if_pos (by omega)]
    simp only [Option.bind_some]
    exact ih k (i + 1) _ (by omega) (by omega)
theorem spec_Hash.ok (l : List Int) (hn : l.length ≤ 140737488355328) (k : Nat) (hk : l.length < k) : spec_Hash.f k l = some (hashFrom 11 l) := by
  unfold spec_Hash.f
  exact spec_Hash.l0_ok l hn l.length k 0 11 (by omega) hk
theorem spec_KeyedHash.ok (key : Int) (l : List Int) (hn : l.length ≤ 10000000000000) (k : Nat) (hk : l.length + 2 < k) : spec_KeyedHash.f k key l = some (keyed key l) := by
  unfold spec_KeyedHash.f
  simp only [Option.bind_some, List.length_append, List.length_cons, List.length_nil]
  rw [if_pos (by omega), if_pos (by omega), spec_Hash.ok _ (by simp only [List.length_append, List.length_cons, List.length_nil]; omega) k (by simp only [List.length_append, List.length_cons, List.length_nil]; omega)]
  rfl
theorem impl_BytesToInts.l0_ok (l : List Int) (hb : isBytes l) (hn : l.length ≤ 1048576) : ∀ (d k i : Nat) (out : List Int), i + d = l.length → out.length + d ≤ 17592186044416 → d < k → impl_BytesToInts.l0 k out l (l.length : Int) (i : Int) = some (out ++ l.drop i) := by
  intro d
  induction d with
  | zero =>
    intro k i out hi ho hk
    obtain ⟨k, rfl⟩ : ∃ m, k = m + 1 := ⟨k - 1, by omega⟩
    simp only [impl_BytesToInts.l0]
    rw [if_neg (by omega), List.drop_of_length_le (by omega), List.append_nil]
  | succ d ih =>
    intro k i out hi ho hk
    obtain ⟨k, rfl⟩ : ∃ m, k = m + 1 := ⟨k - 1, by omega⟩
    have hr := bytes_rd hb (i : Int)
    simp only [impl_BytesToInts.l0]
    rw [if_pos (by omega), if_pos (by omega), if_pos (by omega), if_pos (by omega), w64_succ (n := l.length) (by omega) (by omega), w64 (n := rd l (i : Int)) (by omega) (by omega), rd_drop (xs := l) (i := i) (by omega), ih k (i + 1) _ (by omega) (by simp only [List.length_append, List.length_cons, List.length_nil]; omega) (by omega)]
    simp
theorem impl_BytesToInts.ok (l : List Int) (hb : isBytes l) (hn : l.length ≤ 1048576) (k : Nat) (hk : l.length < k) : impl_BytesToInts.f k l = some ((l.length : Int) :: l) := by
  unfold impl_BytesToInts.f
  exact impl_BytesToInts.l0_ok l hb hn l.length k 0 _ (by omega) (by simp only [List.length_cons, List.length_nil]; omega) hk
theorem impl_InRange.eq (a b c : Int) : impl_InRange.f a b c = some (decide (b ≤ a ∧ a ≤ c)) := by
  unfold impl_InRange.f
  by_cases h : b ≤ a
  · rw [if_pos h]; simp [h]
  · rw [if_neg h]; simp [h]
theorem impl_Mod.eq (p q : Int) : impl_Mod.f p q = some (modOf p q) := by
  unfold impl_Mod.f modOf
  rw [impl_InRange.eq]
  by_cases h : 1 ≤ q ∧ q ≤ 1000000000000
  · rw [if_pos h]
    have hq : ¬ q = 0 := by omega
    simp only [Option.bind_some, h, decide_true, and_self, if_true, if_neg hq]
    have h1 := Int.lt_tmod_of_pos p (show 0 < q by omega)
    have h2 := Int.tmod_lt_of_pos p (show 0 < q by omega)
    rw [← tmod_pos h.1]
    by_cases h3 : p.tmod q < 0
    · rw [if_pos h3, if_pos h3, w64 (by omega) (by omega)]
    · rw [if_neg h3, if_neg h3]
  · rw [if_neg h]; simp [h]
theorem impl_fold.eq (acc v : Int) : impl_fold.f acc v = some (fold acc v) := by
  unfold impl_fold.f fold
  rw [impl_Mod.eq]
  unfold modOf
  rw [if_pos (by omega)]
  rfl
theorem impl_KeyedHash.l0_ok (key : Int) (l : List Int) (hn : l.length ≤ 140737488355328) : ∀ (d k i : Nat) (acc : Int), i + d = l.length → d < k → impl_KeyedHash.l0 k key acc l (l.length : Int) (i : Int) = some (fold (hashFrom acc (l.drop i)) key) := by
  intro d
  induction d with
  | zero =>
    intro k i acc hi hk
    obtain ⟨k, rfl⟩ : ∃ m, k = m + 1 := ⟨k - 1, by omega⟩
    simp only [impl_KeyedHash.l0]
    rw [if_neg (by omega), List.drop_of_length_le (by omega), impl_fold.eq]
    rfl
  | succ d ih =>
    intro k i acc hi hk
    obtain ⟨k, rfl⟩ : ∃ m, k = m + 1 := ⟨k - 1, by omega⟩
    simp only [impl_KeyedHash.l0]
    rw [if_pos (by omega), if_pos (by omega), if_pos (by omega), impl_fold.eq, hashFrom_drop acc (show i < l.length by omega), w64_succ (n := l.length) (by omega) (by omega)]
    simp only [Option.bind_some]
    exact ih k (i + 1) _ (by omega) (by omega)
theorem impl_KeyedHash.ok (key : Int) (l : List Int) (hn : l.length ≤ 140737488355328) (k : Nat) (hk : l.length < k) : impl_KeyedHash.f k key l = some (keyed key l) := by
  unfold impl_KeyedHash.f
  rw [impl_fold.eq]
  simp only [Option.bind_some]
  rw [keyed_eq]
  exact impl_KeyedHash.l0_ok key l hn l.length k 0 _ (by omega) hk
/-- The bytes of a string. -/
def bs (s : ByteArray) : List Int := s.data.toList.map fun b => (b.toNat : Int)
theorem bs_length (s : ByteArray) : (bs s).length = s.size := by
  unfold bs
  rw [List.length_map, Array.length_toList]
  rfl
theorem bs_bytes (s : ByteArray) : isBytes (bs s) := by
  intro x hx
  obtain ⟨b, _, rfl⟩ := List.mem_map.mp hx
  have := b.toNat_lt
  omega
theorem bs_getD (s : ByteArray) {j : Nat} {p : Int} (h : (bs s)[j]? = some p) : p = ((s.data.toList.getD j 0).toNat : Int) := by
  simp only [bs, List.getElem?_map, Option.map_eq_some_iff] at h
  obtain ⟨b, hb, rfl⟩ := h
  rw [List.getD_eq_getElem?_getD, hb]
  rfl
theorem same (a0 : Int) (s : ByteArray) (hs : s.size ≤ 1048576) : ∃ k t n v, spec_BytesToInts.f k (bs s) = some t ∧ spec_KeyedHash.f k a0 t = some n ∧ spec_Max.f 1 n = some v ∧ impl_BytesToInts.f k (bs s) = some t ∧ impl_KeyedHash.f k a0 t = some n ∧ v = (if n = 0 then 1 else n) := by
  have hl := bs_length s
  have hR : (((bs s).length : Int) :: bs s).length = s.size + 1 := by simp [hl]
  have hn : (bs s).length ≤ 1048576 := by omega
  have kb := keyed_bound a0 (((bs s).length : Int) :: bs s)
  refine ⟨s.size + 10, ((bs s).length : Int) :: bs s, keyed a0 (((bs s).length : Int) :: bs s), max 1 (keyed a0 (((bs s).length : Int) :: bs s)), spec_BytesToInts.ok _ (bs_bytes s) hn _ (by omega), ?_, spec_Max.eq _ _, impl_BytesToInts.ok _ (bs_bytes s) hn _ (by omega), ?_, ?_⟩
  · exact spec_KeyedHash.ok _ _ (by omega) _ (by omega)
  · exact impl_KeyedHash.ok _ _ (by omega) _ (by omega)
  · generalize keyed a0 (((bs s).length : Int) :: bs s) = n at kb ⊢
    by_cases c : n = 0
    · rw [if_pos c]; omega
    · rw [if_neg c]; omega

end Go.Proofs.Ytppdidoingbgiaa.Pure
