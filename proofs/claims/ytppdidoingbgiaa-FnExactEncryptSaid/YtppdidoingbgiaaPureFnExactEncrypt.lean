/- The program's Encrypt answers as the reference's, leaves the slice as it was, and its result shares no memory with the argument or with another result, for every key and every slice of bytes. -/
import Derived.Test.YtppdidoingbgiaaQFnExactEncryptx3
import Derived.Test.YtppdidoingbgiaaBase
import Derived.Test.YtppdidoingbgiaaLst
namespace Go.Proofs.Ytppdidoingbgiaa.Pure
open Go Go.RowKit Go.Proofs.Ytppdidoingbgiaa.PFnExactEncrypt Go.Proofs.YtppdidoingbgiaaW.PrintWords Go.Proofs.YtppdidoingbgiaaW.PrintLast Go.Proofs.YtppdidoingbgiaaW.PrintMore Go.Proofs.Ytppdidoingbgiaa.Base Go.Proofs.Ytppdidoingbgiaa.Lst
set_option linter.unusedVariables false
set_option linter.unusedSimpArgs false
theorem laws_toByteS.l0_ok (x0 : List Int) (hn : x0.length ≤ 35184372088832) : ∀ (d k i : Nat) (out : List Int), i + d = x0.length → out.length = x0.length → out.take i = x0.take i → d < k → laws_toByteS.l0 k x0 out (i : Int) = some x0 := by
  intro d
  induction d with
  | zero =>
    intro k i out hi hl ht hk
    obtain ⟨k, rfl⟩ : ∃ m, k = m + 1 := ⟨k - 1, by omega⟩
    simp only [laws_toByteS.l0]
    rw [if_neg (by omega), take_all ht (by omega) (by omega)]
  | succ d ih =>
    intro k i out hi hl ht hk
    obtain ⟨k, rfl⟩ : ∃ m, k = m + 1 := ⟨k - 1, by omega⟩
    simp only [laws_toByteS.l0]
    rw [if_pos (by omega), if_pos (by omega), if_pos (by omega), w64_succ (n := x0.length) (by omega) (by omega)]
    refine ih k (i + 1) _ (by omega) (by simpa using hl) ?_ (by omega)
    have hi' : i < x0.length := by omega
    refine take_set_succ hi' hl ht ?_
    rw [rd_get hi']
    exact List.getElem?_eq_getElem hi'
theorem laws_toByteS.ok (l : List Int) (hn : l.length ≤ 1048576) (k : Nat) (hk : l.length < k) : laws_toByteS.f k l = some l := by
  unfold laws_toByteS.f
  rw [if_pos (by omega), if_pos (by omega)]
  exact laws_toByteS.l0_ok l (by omega) l.length k 0 _ (by omega) (by simp) (by simp) hk
theorem laws_eqByteS.l0_ok (x0 x1 : List Int) (hn : x0.length ≤ 140737488355328) (hl : x0.length = x1.length) : ∀ (d k i : Nat), i + d = x0.length → d < k → laws_eqByteS.l0 k x0 x1 (i : Int) = some (decide (x0.drop i = x1.drop i)) := by
  intro d
  induction d with
  | zero =>
    intro k i hi hk
    obtain ⟨k, rfl⟩ : ∃ m, k = m + 1 := ⟨k - 1, by omega⟩
    simp only [laws_eqByteS.l0]
    rw [if_neg (by omega), List.drop_of_length_le (by omega), List.drop_of_length_le (by omega)]
    simp
  | succ d ih =>
    intro k i hi hk
    obtain ⟨k, rfl⟩ : ∃ m, k = m + 1 := ⟨k - 1, by omega⟩
    simp only [laws_eqByteS.l0]
    rw [if_pos (by omega), if_pos (by omega), if_pos (by omega), rd_drop (xs := x0) (i := i) (by omega), rd_drop (xs := x1) (i := i) (by omega)]
    by_cases h : rd x0 (i : Int) = rd x1 (i : Int)
    · rw [if_pos h, w64_succ (n := x0.length) (by omega) (by omega), ih k (i + 1) (by omega) (by omega)]
      simp [h]
    · rw [if_neg h]
      simp [h]
theorem laws_eqByteS.ok (a b : List Int) (hn : a.length ≤ 140737488355328) (k : Nat) (hk : a.length < k) : laws_eqByteS.f k a b = some (decide (a = b)) := by
  unfold laws_eqByteS.f
  by_cases h : (a.length : Int) = (b.length : Int)
  · rw [if_pos h]
    exact laws_eqByteS.l0_ok a b hn (by omega) a.length k 0 (by omega) hk
  · rw [if_neg h]
    have : a ≠ b := fun e => h (by rw [e])
    simp [this]
theorem laws_eqByteS.same (a : List Int) (hn : a.length ≤ 140737488355328) (k : Nat) (hk : a.length < k) : laws_eqByteS.f k a a = some true := by
  rw [laws_eqByteS.ok a a hn k hk]; simp
theorem laws_markByteS.l0_ok (n : Nat) (hn : n ≤ 140737488355328) : ∀ (d k i : Nat) (out : List Int), i + d = n → out.length = n → out.take i = (marksB 1 n).take i → d < k → laws_markByteS.l0 k out (1 + (i : Int)) (i : Int) = some (1 + (n : Int), marksB 1 n) := by
  intro d
  induction d with
  | zero =>
    intro k i out hi hl ht hk
    obtain ⟨k, rfl⟩ : ∃ m, k = m + 1 := ⟨k - 1, by omega⟩
    simp only [laws_markByteS.l0]
    rw [if_neg (by omega), take_all ht (by omega) (by rw [marksB_length]; omega)]
    congr 2; omega
  | succ d ih =>
    intro k i out hi hl ht hk
    obtain ⟨k, rfl⟩ : ∃ m, k = m + 1 := ⟨k - 1, by omega⟩
    simp only [laws_markByteS.l0]
    rw [if_pos (by omega), if_pos (by omega), w64_succ (n := n) (by omega) (by omega), w64 (n := 1 + (i : Int) + 1) (by omega) (by omega), show (1 + (i : Int) + 1) = 1 + ((i + 1 : Nat) : Int) by omega]
    refine ih k (i + 1) _ (by omega) (by simpa using hl) ?_ (by omega)
    exact take_set_succ (by rw [marksB_length]; omega) (by rw [marksB_length]; omega) ht (marksB_get (by omega))
theorem laws_markByteS.ok (l : List Int) (hn : l.length ≤ 140737488355328) (k : Nat) (hk : l.length < k) : laws_markByteS.f k l 1 = some (1 + (l.length : Int), marksB 1 l.length) := by
  unfold laws_markByteS.f
  exact laws_markByteS.l0_ok l.length hn l.length k 0 l (by omega) rfl (by simp) hk
theorem laws_markByteS.any (l : List Int) (hn : l.length ≤ 140737488355328) (c : Int) (h0 : 1 ≤ c) (h1 : c ≤ 140737488355328) (k : Nat) (hk : l.length < k) : ∃ c2 o, laws_markByteS.f k l c = some (c2, o) ∧ 1 ≤ c2 ∧ c2 ≤ c + l.length := by
  have key : ∀ (d k i : Nat) (out : List Int) (c : Int), i + d = l.length → out.length = l.length → 1 ≤ c → c + d ≤ 281474976710656 → d < k → ∃ c2 o, laws_markByteS.l0 k out c (i : Int) = some (c2, o) ∧ 1 ≤ c2 ∧ c2 ≤ c + d := by
    intro d
    induction d with
    | zero =>
      intro k i out c hi hl h0 h1 hk
      obtain ⟨k, rfl⟩ : ∃ m, k = m + 1 := ⟨k - 1, by omega⟩
      simp only [laws_markByteS.l0]
      rw [if_neg (by omega)]
      exact ⟨c, out, rfl, h0, by omega⟩
    | succ d ih =>
      intro k i out c hi hl h0 h1 hk
      obtain ⟨k, rfl⟩ : ∃ m, k = m + 1 := ⟨k - 1, by omega⟩
      simp only [laws_markByteS.l0]
      rw [if_pos (by omega), if_pos (by omega), w64_succ (n := l.length) (by omega) (by omega), w64 (n := c + 1) (by omega) (by omega)]
      obtain ⟨c2, o, h2, h3, h4⟩ := ih k (i + 1) (out.set (i : Int).toNat (c % 256)) (c + 1) (by omega) (by rw [List.length_set]; exact hl) (by omega) (by omega) (by omega)
      exact ⟨c2, o, h2, h3, by omega⟩
  unfold laws_markByteS.f
  exact key l.length k 0 l c (by omega) rfl h0 (by omega) hk
theorem laws_heldByteS.l0_ok (n : Nat) (hn : n ≤ 140737488355328) : ∀ (d k i : Nat), i + d = n → d < k → laws_heldByteS.l0 k (marksB 1 n) (1 + (i : Int)) (i : Int) = some (1 + (n : Int)) := by
  intro d
  induction d with
  | zero =>
    intro k i hi hk
    obtain ⟨k, rfl⟩ : ∃ m, k = m + 1 := ⟨k - 1, by omega⟩
    simp only [laws_heldByteS.l0]
    rw [if_neg (by rw [marksB_length]; omega)]
    congr 1; omega
  | succ d ih =>
    intro k i hi hk
    obtain ⟨k, rfl⟩ : ∃ m, k = m + 1 := ⟨k - 1, by omega⟩
    simp only [laws_heldByteS.l0]
    rw [if_pos (by rw [marksB_length]; omega), if_pos (by omega), if_pos (rd_some (marksB_get (by omega))), w64_succ (n := n) (by omega) (by omega), w64 (n := 1 + (i : Int) + 1) (by omega) (by omega), show (1 + (i : Int) + 1) = 1 + ((i + 1 : Nat) : Int) by omega]
    exact ih k (i + 1) (by omega) (by omega)
theorem laws_heldByteS.ok (n : Nat) (hn : n ≤ 140737488355328) (k : Nat) (hk : n < k) : laws_heldByteS.f k (marksB 1 n) 1 = some (1 + (n : Int)) := by
  unfold laws_heldByteS.f
  exact laws_heldByteS.l0_ok n hn n k 0 (by omega) hk
theorem spec_l1In.eq (a b c : Int) : spec_l1In.f a b c = some (decide (b ≤ a ∧ a ≤ c)) := by
  unfold spec_l1In.f
  by_cases h : b ≤ a
  · rw [if_pos h]; simp [h]
  · rw [if_neg h]; simp [h]
theorem spec_Mod.eq (p q : Int) : spec_Mod.f p q = some (modOf p q) := by
  unfold spec_Mod.f modOf
  rw [spec_l1In.eq]
  by_cases h : 1 ≤ q ∧ q ≤ 1000000000000
  · rw [if_pos h]
    have hq : ¬ q = 0 := by omega
    simp only [Option.bind_some, h, decide_true, and_self, if_true, if_neg hq]
    congr 1
    have h1 := Int.lt_tmod_of_pos p (show 0 < q by omega)
    have h2 := Int.tmod_lt_of_pos p (show 0 < q by omega)
    rw [w64 (by omega) (by omega), ← tmod_pos h.1]
    by_cases h3 : p.tmod q < 0
    · rw [if_pos h3, Int.tmod_eq_of_lt (by omega) (by omega)]
    · rw [if_neg h3, Int.tmod_eq_emod_of_nonneg (by omega), Int.add_emod_right, Int.emod_eq_of_lt (by omega) (by omega)]
  · rw [if_neg h]; simp [h]
theorem spec_Hash.l0_ok (l : List Int) (hn : l.length ≤ 140737488355328) : ∀ (d k i : Nat) (acc : Int), i + d = l.length → d < k → spec_Hash.l0 k l acc (i : Int) = some (hashFrom acc (l.drop i)) := by
  intro d
  induction d with
  | zero =>
    intro k i acc hi hk
    obtain ⟨k, rfl⟩ : ∃ m, k = m + 1 := ⟨k - 1, by omega⟩
    simp only [spec_Hash.l0]
    rw [if_neg (by omega), List.drop_of_length_le (by omega)]
    rfl
  | succ d ih =>
    intro k i acc hi hk
    obtain ⟨k, rfl⟩ : ∃ m, k = m + 1 := ⟨k - 1, by omega⟩
    simp only [spec_Hash.l0]
    rw [if_pos (by omega), if_pos (by omega), spec_Mod.eq, hashFrom_drop acc (show i < l.length by omega), w64_succ (n := l.length) (by omega) (by omega)]
    unfold modOf
    rw [if_pos (by omega)]
    simp only [Option.bind_some]
    exact ih k (i + 1) _ (by omega) (by omega)
theorem spec_Hash.ok (l : List Int) (hn : l.length ≤ 140737488355328) (k : Nat) (hk : l.length < k) : spec_Hash.f k l = some (hashFrom 11 l) := by
  unfold spec_Hash.f
  exact spec_Hash.l0_ok l hn l.length k 0 11 (by omega) hk
theorem spec_KeyedHash.ok (key : Int) (l : List Int) (hn : l.length ≤ 10000000000000) (k : Nat) (hk : l.length + 2 < k) : spec_KeyedHash.f k key l = some (keyed key l) := by
  unfold spec_KeyedHash.f
  simp only [Option.bind_some, List.length_append, List.length_cons, List.length_nil]
  rw [if_pos (by omega), if_pos (by omega), spec_Hash.ok _ (by simp only [List.length_append, List.length_cons, List.length_nil]; omega) k (by simp only [List.length_append, List.length_cons, List.length_nil]; omega)]
  rfl
theorem spec_Encrypt.l0_ok (key : Int) (l : List Int) (hb : isBytes l) (hn : l.length ≤ 1048576) : ∀ (d k i : Nat) (out : List Int), i + d = l.length → out.length + d ≤ 140737488355328 → d + 4 < k → spec_Encrypt.l0 k key l out (i : Int) = some (out ++ encr key i (l.drop i)) := by
  intro d
  induction d with
  | zero =>
    intro k i out hi ho hk
    obtain ⟨k, rfl⟩ : ∃ m, k = m + 1 := ⟨k - 1, by omega⟩
    simp only [spec_Encrypt.l0]
    rw [if_neg (by omega), List.drop_of_length_le (by omega)]
    simp [encr]
  | succ d ih =>
    intro k i out hi ho hk
    obtain ⟨k, rfl⟩ : ∃ m, k = m + 1 := ⟨k - 1, by omega⟩
    have hr := bytes_rd hb (i : Int)
    have hk2 := keyed_bound key [(i : Int)]
    simp only [spec_Encrypt.l0]
    rw [if_pos (by omega), if_pos (by omega), spec_KeyedHash.ok key [(i : Int)] (by simp) k (by simp; omega)]
    simp only [Option.bind_some]
    rw [if_pos (by omega), w64_succ (n := l.length) (by omega) (by omega), w64 (n := rd l (i : Int)) (by omega) (by omega), Int.tmod_eq_emod_of_nonneg hk2.1, w64 (n := rd l (i : Int) + keyed key [(i : Int)] % 256) (by omega) (by omega), Int.tmod_eq_emod_of_nonneg (by omega), rd_drop (xs := l) (i := i) (by omega), ih k (i + 1) _ (by omega) (by simp only [List.length_append, List.length_cons, List.length_nil]; omega) (by omega)]
    simp only [encr, List.append_assoc, List.cons_append, List.nil_append]
    congr 3
    omega
theorem spec_Encrypt.ok (key : Int) (l : List Int) (hb : isBytes l) (hn : l.length ≤ 1048576) (k : Nat) (hk : l.length + 4 < k) : spec_Encrypt.f k key l = some (encr key 0 l) := by
  unfold spec_Encrypt.f
  exact spec_Encrypt.l0_ok key l hb hn l.length k 0 _ (by omega) (by simp only [List.length_nil]; omega) hk
theorem impl_InRange.eq (a b c : Int) : impl_InRange.f a b c = some (decide (b ≤ a ∧ a ≤ c)) := by
  unfold impl_InRange.f
  by_cases h : b ≤ a
  · rw [if_pos h]; simp [h]
  · rw [if_neg h]; simp [h]
theorem impl_Mod.eq (p q : Int) : impl_Mod.f p q = some (modOf p q) := by
  unfold impl_Mod.f modOf
  rw [impl_InRange.eq]
  by_cases h : 1 ≤ q ∧ q ≤ 1000000000000
  · rw [if_pos h]
    have hq : ¬ q = 0 := by omega
    simp only [Option.bind_some, h, decide_true, and_self, if_true, if_neg hq]
    have h1 := Int.lt_tmod_of_pos p (show 0 < q by omega)
    have h2 := Int.tmod_lt_of_pos p (show 0 < q by omega)
    rw [← tmod_pos h.1]
    by_cases h3 : p.tmod q < 0
    · rw [if_pos h3, if_pos h3, w64 (by omega) (by omega)]
    · rw [if_neg h3, if_neg h3]
  · rw [if_neg h]; simp [h]
theorem impl_fold.eq (acc v : Int) : impl_fold.f acc v = some (fold acc v) := by
  unfold impl_fold.f fold
  rw [impl_Mod.eq]
  unfold modOf
  rw [if_pos (by omega)]
  rfl
theorem impl_KeyedHash.l0_ok (key : Int) (l : List Int) (hn : l.length ≤ 140737488355328) : ∀ (d k i : Nat) (acc : Int), i + d = l.length → d < k → impl_KeyedHash.l0 k key acc l (l.length : Int) (i : Int) = some (fold (hashFrom acc (l.drop i)) key) := by
  intro d
  induction d with
  | zero =>
    intro k i acc hi hk
    obtain ⟨k, rfl⟩ : ∃ m, k = m + 1 := ⟨k - 1, by omega⟩
    simp only [impl_KeyedHash.l0]
    rw [if_neg (by omega), List.drop_of_length_le (by omega), impl_fold.eq]
    rfl
  | succ d ih =>
    intro k i acc hi hk
    obtain ⟨k, rfl⟩ : ∃ m, k = m + 1 := ⟨k - 1, by omega⟩
    simp only [impl_KeyedHash.l0]
    rw [if_pos (by omega), if_pos (by omega), if_pos (by omega), impl_fold.eq, hashFrom_drop acc (show i < l.length by omega), w64_succ (n := l.length) (by omega) (by omega)]
    simp only [Option.bind_some]
    exact ih k (i + 1) _ (by omega) (by omega)
theorem impl_KeyedHash.ok (key : Int) (l : List Int) (hn : l.length ≤ 140737488355328) (k : Nat) (hk : l.length < k) : impl_KeyedHash.f k key l = some (keyed key l) := by
  unfold impl_KeyedHash.f
  rw [impl_fold.eq]
  simp only [Option.bind_some]
  rw [keyed_eq]
  exact impl_KeyedHash.l0_ok key l hn l.length k 0 _ (by omega) hk
theorem impl_Encrypt.l0_ok (key : Int) (l : List Int) (hb : isBytes l) (hn : l.length ≤ 1048576) : ∀ (d k i : Nat) (out : List Int), i + d = l.length → out.length + d ≤ 140737488355328 → d + 4 < k → impl_Encrypt.l0 k key out l (l.length : Int) (i : Int) = some (out ++ encr key i (l.drop i)) := by
  intro d
  induction d with
  | zero =>
    intro k i out hi ho hk
    obtain ⟨k, rfl⟩ : ∃ m, k = m + 1 := ⟨k - 1, by omega⟩
    simp only [impl_Encrypt.l0]
    rw [if_neg (by omega), List.drop_of_length_le (by omega)]
    simp [encr]
  | succ d ih =>
    intro k i out hi ho hk
    obtain ⟨k, rfl⟩ : ∃ m, k = m + 1 := ⟨k - 1, by omega⟩
    have hk2 := keyed_bound key [(i : Int)]
    simp only [impl_Encrypt.l0]
    rw [if_pos (by omega), if_pos (by omega), if_pos (by omega), impl_KeyedHash.ok key [(i : Int)] (by simp) k (by simp; omega)]
    simp only [Option.bind_some]
    rw [if_pos (by omega), w64_succ (n := l.length) (by omega) (by omega), rd_drop (xs := l) (i := i) (by omega), ih k (i + 1) _ (by omega) (by simp only [List.length_append, List.length_cons, List.length_nil]; omega) (by omega)]
    simp only [encr, List.append_assoc, List.cons_append, List.nil_append]
theorem impl_Encrypt.ok (key : Int) (l : List Int) (hb : isBytes l) (hn : l.length ≤ 1048576) (k : Nat) (hk : l.length + 4 < k) : impl_Encrypt.f k key l = some (encr key 0 l) := by
  unfold impl_Encrypt.f
  exact impl_Encrypt.l0_ok key l hb hn l.length k 0 _ (by omega) (by simp only [List.length_nil]; omega) hk
theorem FnExactEncrypt : laws_FnExactEncrypt.Pure := by
  intro key l _ _ _ hb
  have hb' := bytes_wf hb
  refine ⟨l.length + (encr key 0 l).length + 40, ?_⟩
  unfold laws_FnExactEncrypt.f
  by_cases h : (l.length : Int) > 1048576
  · rw [if_pos h]
  · have hu : (encr key 0 l).length ≤ l.length := Nat.le_of_eq (encr_length key l 0)
    generalize hR : encr key 0 l = R at *
    have hl : l.length ≤ 140737488355328 := by omega
    have hr : R.length ≤ 140737488355328 := by omega
    have neg : ∀ m : Nat, ¬ (1 + (m : Int) < 0) := fun m => by omega
    rw [if_neg h, laws_toByteS.ok l (by omega) _ (by omega)]
    simp only [Option.bind_some]
    rw [spec_Encrypt.ok key l hb' (by omega) _ (by omega), impl_Encrypt.ok key l hb' (by omega) _ (by omega), hR]
    simp only [Option.bind_some]
    rw [laws_eqByteS.same R hr _ (by omega), laws_eqByteS.same l hl _ (by omega), laws_markByteS.ok l hl _ (by omega)]
    simp only [Option.bind_some, if_true, neg, if_false, Bool.not_true]
    simp only [laws_FnExactEncrypt.j0]
    rw [if_neg (by simp), laws_markByteS.ok R hr _ (by omega)]
    simp only [Option.bind_some]
    rw [laws_heldByteS.ok R.length hr _ (by omega)]
    simp only [Option.bind_some, neg, if_false, if_true]
    rw [laws_toByteS.ok l (by omega) _ (by omega)]
    simp only [Option.bind_some]
    rw [impl_Encrypt.ok key l hb' (by omega) _ (by omega), hR]
    simp only [Option.bind_some]
    rw [laws_eqByteS.same R hr _ (by omega)]
    simp

end Go.Proofs.Ytppdidoingbgiaa.Pure
