/- The program's BytesToInts answers as the reference's, leaves the slice as it was, and its result shares no memory with the argument or with another result, for every slice of bytes. -/
import Derived.Test.YtppdidoingbgiaaPFnExactBytesToIntsx2
import Derived.Test.YtppdidoingbgiaaBase
import Derived.Test.YtppdidoingbgiaaLst
namespace Go.Proofs.Ytppdidoingbgiaa.Pure
open Go Go.RowKit Go.Proofs.Ytppdidoingbgiaa.PFnExactBytesToInts Go.Proofs.YtppdidoingbgiaaW.PrintWords Go.Proofs.YtppdidoingbgiaaW.PrintLast Go.Proofs.YtppdidoingbgiaaW.PrintMore Go.Proofs.Ytppdidoingbgiaa.Base Go.Proofs.Ytppdidoingbgiaa.Lst
set_option linter.unusedVariables false
set_option linter.unusedSimpArgs false
theorem spec_BytesToInts.l0_ok (l : List Int) (hb : isBytes l) (hn : l.length ≤ 1048576) : ∀ (d k i : Nat) (out : List Int), i + d = l.length → out.length + d ≤ 17592186044416 → d < k → spec_BytesToInts.l0 k l out (i : Int) = some (out ++ l.drop i) := by
  intro d
  induction d with
  | zero =>
    intro k i out hi ho hk
    obtain ⟨k, rfl⟩ : ∃ m, k = m + 1 := ⟨k - 1, by omega⟩
    simp only [spec_BytesToInts.l0]
    rw [if_neg (by omega), List.drop_of_length_le (by omega), List.append_nil]
  | succ d ih =>
    intro k i out hi ho hk
    obtain ⟨k, rfl⟩ : ∃ m, k = m + 1 := ⟨k - 1, by omega⟩
    have hr := bytes_rd hb (i : Int)
    simp only [spec_BytesToInts.l0]
    rw [if_pos (by omega), if_pos (by omega), if_pos (by omega), w64_succ (n := l.length) (by omega) (by omega), w64 (n := rd l (i : Int)) (by omega) (by omega), rd_drop (xs := l) (i := i) (by omega), ih k (i + 1) _ (by omega) (by simp only [List.length_append, List.length_cons, List.length_nil]; omega) (by omega)]
    simp
theorem spec_BytesToInts.ok (l : List Int) (hb : isBytes l) (hn : l.length ≤ 1048576) (k : Nat) (hk : l.length < k) : spec_BytesToInts.f k l = some ((l.length : Int) :: l) := by
  unfold spec_BytesToInts.f
  exact spec_BytesToInts.l0_ok l hb hn l.length k 0 _ (by omega) (by simp only [List.length_cons, List.length_nil]; omega) hk
theorem laws_toByteS.l0_ok (x0 : List Int) (hn : x0.length ≤ 35184372088832) : ∀ (d k i : Nat) (out : List Int), i + d = x0.length → out.length = x0.length → out.take i = x0.take i → d < k → laws_toByteS.l0 k x0 out (i : Int) = some x0 := by
  intro d
  induction d with
  | zero =>
    intro k i out hi hl ht hk
    obtain ⟨k, rfl⟩ : ∃ m, k = m + 1 := ⟨k - 1, by omega⟩
    simp only [laws_toByteS.l0]
    rw [if_neg (by omega), take_all ht (by omega) (by omega)]
  | succ d ih =>
    intro k i out hi hl ht hk
    obtain ⟨k, rfl⟩ : ∃ m, k = m + 1 := ⟨k - 1, by omega⟩
    simp only [laws_toByteS.l0]
    rw [if_pos (by omega), if_pos (by omega), if_pos (by omega), w64_succ (n := x0.length) (by omega) (by omega)]
    refine ih k (i + 1) _ (by omega) (by simpa using hl) ?_ (by omega)
    have hi' : i < x0.length := by omega
    refine take_set_succ hi' hl ht ?_
    rw [rd_get hi']
    exact List.getElem?_eq_getElem hi'
theorem laws_toByteS.ok (l : List Int) (hn : l.length ≤ 1048576) (k : Nat) (hk : l.length < k) : laws_toByteS.f k l = some l := by
  unfold laws_toByteS.f
  rw [if_pos (by omega), if_pos (by omega)]
  exact laws_toByteS.l0_ok l (by omega) l.length k 0 _ (by omega) (by simp) (by simp) hk
theorem impl_BytesToInts.l0_ok (l : List Int) (hb : isBytes l) (hn : l.length ≤ 1048576) : ∀ (d k i : Nat) (out : List Int), i + d = l.length → out.length + d ≤ 17592186044416 → d < k → impl_BytesToInts.l0 k out l (l.length : Int) (i : Int) = some (out ++ l.drop i) := by
  intro d
  induction d with
  | zero =>
    intro k i out hi ho hk
    obtain ⟨k, rfl⟩ : ∃ m, k = m + 1 := ⟨k - 1, by omega⟩
    simp only [impl_BytesToInts.l0]
    rw [if_neg (by omega), List.drop_of_length_le (by omega), List.append_nil]
  | succ d ih =>
    intro k i out hi ho hk
    obtain ⟨k, rfl⟩ : ∃ m, k = m + 1 := ⟨k - 1, by omega⟩
    have hr := bytes_rd hb (i : Int)
    simp only [impl_BytesToInts.l0]
    rw [if_pos (by omega), if_pos (by omega), if_pos (by omega), if_pos (by omega), w64_succ (n := l.length) (by omega) (by omega), w64 (n := rd l (i : Int)) (by omega) (by omega), rd_drop (xs := l) (i := i) (by omega), ih k (i + 1) _ (by omega) (by simp only [List.length_append, List.length_cons, List.length_nil]; omega) (by omega)]
    simp
theorem impl_BytesToInts.ok (l : List Int) (hb : isBytes l) (hn : l.length ≤ 1048576) (k : Nat) (hk : l.length < k) : impl_BytesToInts.f k l = some ((l.length : Int) :: l) := by
  unfold impl_BytesToInts.f
  exact impl_BytesToInts.l0_ok l hb hn l.length k 0 _ (by omega) (by simp only [List.length_cons, List.length_nil]; omega) hk
theorem laws_eqIntS.l0_ok (x0 x1 : List Int) (hn : x0.length ≤ 140737488355328) (hl : x0.length = x1.length) : ∀ (d k i : Nat), i + d = x0.length → d < k → laws_eqIntS.l0 k x0 x1 (i : Int) = some (decide (x0.drop i = x1.drop i)) := by
  intro d
  induction d with
  | zero =>
    intro k i hi hk
    obtain ⟨k, rfl⟩ : ∃ m, k = m + 1 := ⟨k - 1, by omega⟩
    simp only [laws_eqIntS.l0]
    rw [if_neg (by omega), List.drop_of_length_le (by omega), List.drop_of_length_le (by omega)]
    simp
  | succ d ih =>
    intro k i hi hk
    obtain ⟨k, rfl⟩ : ∃ m, k = m + 1 := ⟨k - 1, by omega⟩
    simp only [laws_eqIntS.l0]
    rw [if_pos (by omega), if_pos (by omega), if_pos (by omega), rd_drop (xs := x0) (i := i) (by omega), rd_drop (xs := x1) (i := i) (by omega)]
    by_cases h : rd x0 (i : Int) = rd x1 (i : Int)
    · rw [if_pos h, w64_succ (n := x0.length) (by omega) (by omega), ih k (i + 1) (by omega) (by omega)]
      simp [h]
    · rw [if_neg h]
      simp [h]
theorem laws_eqIntS.ok (a b : List Int) (hn : a.length ≤ 140737488355328) (k : Nat) (hk : a.length < k) : laws_eqIntS.f k a b = some (decide (a = b)) := by
  unfold laws_eqIntS.f
  by_cases h : (a.length : Int) = (b.length : Int)
  · rw [if_pos h]
    exact laws_eqIntS.l0_ok a b hn (by omega) a.length k 0 (by omega) hk
  · rw [if_neg h]
    have : a ≠ b := fun e => h (by rw [e])
    simp [this]
theorem laws_eqIntS.same (a : List Int) (hn : a.length ≤ 140737488355328) (k : Nat) (hk : a.length < k) : laws_eqIntS.f k a a = some true := by
  rw [laws_eqIntS.ok a a hn k hk]; simp
theorem laws_eqByteS.l0_ok (x0 x1 : List Int) (hn : x0.length ≤ 140737488355328) (hl : x0.length = x1.length) : ∀ (d k i : Nat), i + d = x0.length → d < k → laws_eqByteS.l0 k x0 x1 (i : Int) = some (decide (x0.drop i = x1.drop i)) := by
  intro d
  induction d with
  | zero =>
    intro k i hi hk
    obtain ⟨k, rfl⟩ : ∃ m, k = m + 1 := ⟨k - 1, by omega⟩
    simp only [laws_eqByteS.l0]
    rw [if_neg (by omega), List.drop_of_length_le (by omega), List.drop_of_length_le (by omega)]
    simp
  | succ d ih =>
    intro k i hi hk
    obtain ⟨k, rfl⟩ : ∃ m, k = m + 1 := ⟨k - 1, by omega⟩
    simp only [laws_eqByteS.l0]
    rw [if_pos (by omega), if_pos (by omega), if_pos (by omega), rd_drop (xs := x0) (i := i) (by omega), rd_drop (xs := x1) (i := i) (by omega)]
    by_cases h : rd x0 (i : Int) = rd x1 (i : Int)
    · rw [if_pos h, w64_succ (n := x0.length) (by omega) (by omega), ih k (i + 1) (by omega) (by omega)]
      simp [h]
    · rw [if_neg h]
      simp [h]
theorem laws_eqByteS.ok (a b : List Int) (hn : a.length ≤ 140737488355328) (k : Nat) (hk : a.length < k) : laws_eqByteS.f k a b = some (decide (a = b)) := by
  unfold laws_eqByteS.f
  by_cases h : (a.length : Int) = (b.length : Int)
  · rw [if_pos h]
    exact laws_eqByteS.l0_ok a b hn (by omega) a.length k 0 (by omega) hk
  · rw [if_neg h]
    have : a ≠ b := fun e => h (by rw [e])
    simp [this]
theorem laws_eqByteS.same (a : List Int) (hn : a.length ≤ 140737488355328) (k : Nat) (hk : a.length < k) : laws_eqByteS.f k a a = some true := by
  rw [laws_eqByteS.ok a a hn k hk]; simp
theorem laws_markByteS.l0_ok (n : Nat) (hn : n ≤ 140737488355328) : ∀ (d k i : Nat) (out : List Int), i + d = n → out.length = n → out.take i = (marksB 1 n).take i → d < k → laws_markByteS.l0 k out (1 + (i : Int)) (i : Int) = some (1 + (n : Int), marksB 1 n) := by
  intro d
  induction d with
  | zero =>
    intro k i out hi hl ht hk
    obtain ⟨k, rfl⟩ : ∃ m, k = m + 1 := ⟨k - 1, by omega⟩
    simp only [laws_markByteS.l0]
    rw [if_neg (by omega), take_all ht (by omega) (by rw [marksB_length]; omega)]
    congr 2; omega
  | succ d ih =>
    intro k i out hi hl ht hk
    obtain ⟨k, rfl⟩ : ∃ m, k = m + 1 := ⟨k - 1, by omega⟩
    simp only [laws_markByteS.l0]
    rw [if_pos (by omega), if_pos (by omega), w64_succ (n := n) (by omega) (by omega), w64 (n := 1 + (i : Int) + 1) (by omega) (by omega), show (1 + (i : Int) + 1) = 1 + ((i + 1 : Nat) : Int) by omega]
    refine ih k (i + 1) _ (by omega) (by simpa using hl) ?_ (by omega)
    exact take_set_succ (by rw [marksB_length]; omega) (by rw [marksB_length]; omega) ht (marksB_get (by omega))
theorem laws_markByteS.ok (l : List Int) (hn : l.length ≤ 140737488355328) (k : Nat) (hk : l.length < k) : laws_markByteS.f k l 1 = some (1 + (l.length : Int), marksB 1 l.length) := by
  unfold laws_markByteS.f
  exact laws_markByteS.l0_ok l.length hn l.length k 0 l (by omega) rfl (by simp) hk
theorem laws_markByteS.any (l : List Int) (hn : l.length ≤ 140737488355328) (c : Int) (h0 : 1 ≤ c) (h1 : c ≤ 140737488355328) (k : Nat) (hk : l.length < k) : ∃ c2 o, laws_markByteS.f k l c = some (c2, o) ∧ 1 ≤ c2 ∧ c2 ≤ c + l.length := by
  have key : ∀ (d k i : Nat) (out : List Int) (c : Int), i + d = l.length → out.length = l.length → 1 ≤ c → c + d ≤ 281474976710656 → d < k → ∃ c2 o, laws_markByteS.l0 k out c (i : Int) = some (c2, o) ∧ 1 ≤ c2 ∧ c2 ≤ c + d := by
    intro d
    induction d with
    | zero =>
      intro k i out c hi hl h0 h1 hk
      obtain ⟨k, rfl⟩ : ∃ m, k = m + 1 := ⟨k - 1, by omega⟩
      simp only [laws_markByteS.l0]
      rw [if_neg (by omega)]
      exact ⟨c, out, rfl, h0, by omega⟩
    | succ d ih =>
      intro k i out c hi hl h0 h1 hk
      obtain ⟨k, rfl⟩ : ∃ m, k = m + 1 := ⟨k - 1, by omega⟩
      simp only [laws_markByteS.l0]
      rw [if_pos (by omega), if_pos (by omega), w64_succ (n := l.length) (by omega) (by omega), w64 (n := c + 1) (by omega) (by omega)]
      obtain ⟨c2, o, h2, h3, h4⟩ := ih k (i + 1) (out.set (i : Int).toNat (c % 256)) (c + 1) (by omega) (by rw [List.length_set]; exact hl) (by omega) (by omega) (by omega)
      exact ⟨c2, o, h2, h3, by omega⟩
  unfold laws_markByteS.f
  exact key l.length k 0 l c (by omega) rfl h0 (by omega) hk
theorem laws_markIntS.l0_ok (n : Nat) (hn : n ≤ 140737488355328) : ∀ (d k i : Nat) (out : List Int), i + d = n → out.length = n → out.take i = (marksI 1 n).take i → d < k → laws_markIntS.l0 k out (1 + (i : Int)) (i : Int) = some (1 + (n : Int), marksI 1 n) := by
  intro d
  induction d with
  | zero =>
    intro k i out hi hl ht hk
    obtain ⟨k, rfl⟩ : ∃ m, k = m + 1 := ⟨k - 1, by omega⟩
    simp only [laws_markIntS.l0]
    rw [if_neg (by omega), take_all ht (by omega) (by rw [marksI_length]; omega)]
    congr 2; omega
  | succ d ih =>
    intro k i out hi hl ht hk
    obtain ⟨k, rfl⟩ : ∃ m, k = m + 1 := ⟨k - 1, by omega⟩
    simp only [laws_markIntS.l0]
    rw [if_pos (by omega), if_pos (by omega), w64_succ (n := n) (by omega) (by omega), w64 (n := 1 + (i : Int) + 1) (by omega) (by omega), show (1 + (i : Int) + 1) = 1 + ((i + 1 : Nat) : Int) by omega]
    refine ih k (i + 1) _ (by omega) (by simpa using hl) ?_ (by omega)
    exact take_set_succ (by rw [marksI_length]; omega) (by rw [marksI_length]; omega) ht (marksI_get (by omega))
theorem laws_markIntS.ok (l : List Int) (hn : l.length ≤ 140737488355328) (k : Nat) (hk : l.length < k) : laws_markIntS.f k l 1 = some (1 + (l.length : Int), marksI 1 l.length) := by
  unfold laws_markIntS.f
  exact laws_markIntS.l0_ok l.length hn l.length k 0 l (by omega) rfl (by simp) hk
theorem laws_markIntS.any (l : List Int) (hn : l.length ≤ 140737488355328) (c : Int) (h0 : 1 ≤ c) (h1 : c ≤ 140737488355328) (k : Nat) (hk : l.length < k) : ∃ c2 o, laws_markIntS.f k l c = some (c2, o) ∧ 1 ≤ c2 ∧ c2 ≤ c + l.length := by
  have key : ∀ (d k i : Nat) (out : List Int) (c : Int), i + d = l.length → out.length = l.length → 1 ≤ c → c + d ≤ 281474976710656 → d < k → ∃ c2 o, laws_markIntS.l0 k out c (i : Int) = some (c2, o) ∧ 1 ≤ c2 ∧ c2 ≤ c + d := by
    intro d
    induction d with
    | zero =>
      intro k i out c hi hl h0 h1 hk
      obtain ⟨k, rfl⟩ : ∃ m, k = m + 1 := ⟨k - 1, by omega⟩
      simp only [laws_markIntS.l0]
      rw [if_neg (by omega)]
      exact ⟨c, out, rfl, h0, by omega⟩
    | succ d ih =>
      intro k i out c hi hl h0 h1 hk
      obtain ⟨k, rfl⟩ : ∃ m, k = m + 1 := ⟨k - 1, by omega⟩
      simp only [laws_markIntS.l0]
      rw [if_pos (by omega), if_pos (by omega), w64_succ (n := l.length) (by omega) (by omega), w64 (n := c + 1) (by omega) (by omega)]
      obtain ⟨c2, o, h2, h3, h4⟩ := ih k (i + 1) (out.set (i : Int).toNat c) (c + 1) (by omega) (by rw [List.length_set]; exact hl) (by omega) (by omega) (by omega)
      exact ⟨c2, o, h2, h3, by omega⟩
  unfold laws_markIntS.f
  exact key l.length k 0 l c (by omega) rfl h0 (by omega) hk
theorem laws_heldIntS.l0_ok (n : Nat) (hn : n ≤ 140737488355328) : ∀ (d k i : Nat), i + d = n → d < k → laws_heldIntS.l0 k (marksI 1 n) (1 + (i : Int)) (i : Int) = some (1 + (n : Int)) := by
  intro d
  induction d with
  | zero =>
    intro k i hi hk
    obtain ⟨k, rfl⟩ : ∃ m, k = m + 1 := ⟨k - 1, by omega⟩
    simp only [laws_heldIntS.l0]
    rw [if_neg (by rw [marksI_length]; omega)]
    congr 1; omega
  | succ d ih =>
    intro k i hi hk
    obtain ⟨k, rfl⟩ : ∃ m, k = m + 1 := ⟨k - 1, by omega⟩
    simp only [laws_heldIntS.l0]
    rw [if_pos (by rw [marksI_length]; omega), if_pos (by omega), if_pos (rd_some (marksI_get (by omega))), w64_succ (n := n) (by omega) (by omega), w64 (n := 1 + (i : Int) + 1) (by omega) (by omega), show (1 + (i : Int) + 1) = 1 + ((i + 1 : Nat) : Int) by omega]
    exact ih k (i + 1) (by omega) (by omega)
theorem laws_heldIntS.ok (n : Nat) (hn : n ≤ 140737488355328) (k : Nat) (hk : n < k) : laws_heldIntS.f k (marksI 1 n) 1 = some (1 + (n : Int)) := by
  unfold laws_heldIntS.f
  exact laws_heldIntS.l0_ok n hn n k 0 (by omega) hk
theorem FnExactBytesToInts : laws_FnExactBytesToInts.Pure := by
  intro l _ _ hb
  have hb' := bytes_wf hb
  refine ⟨l.length + ((l.length : Int) :: l).length + 40, ?_⟩
  unfold laws_FnExactBytesToInts.f
  by_cases h : (l.length : Int) > 1048576
  · rw [if_pos h]
  · have hu : ((l.length : Int) :: l).length ≤ l.length + 1 := by simp
    generalize hR : (l.length : Int) :: l = R at *
    have hl : l.length ≤ 140737488355328 := by omega
    have hr : R.length ≤ 140737488355328 := by omega
    have neg : ∀ m : Nat, ¬ (1 + (m : Int) < 0) := fun m => by omega
    rw [if_neg h, laws_toByteS.ok l (by omega) _ (by omega)]
    simp only [Option.bind_some]
    rw [spec_BytesToInts.ok l hb' (by omega) _ (by omega), impl_BytesToInts.ok l hb' (by omega) _ (by omega), hR]
    simp only [Option.bind_some]
    rw [laws_eqIntS.same R hr _ (by omega), laws_eqByteS.same l hl _ (by omega), laws_markByteS.ok l hl _ (by omega)]
    simp only [Option.bind_some, if_true, neg, if_false, Bool.not_true]
    simp only [laws_FnExactBytesToInts.j0]
    rw [if_neg (by simp), laws_markIntS.ok R hr _ (by omega)]
    simp only [Option.bind_some]
    rw [laws_heldIntS.ok R.length hr _ (by omega)]
    simp only [Option.bind_some, neg, if_false, if_true]
    rw [laws_toByteS.ok l (by omega) _ (by omega)]
    simp only [Option.bind_some]
    rw [impl_BytesToInts.ok l hb' (by omega) _ (by omega), hR]
    simp only [Option.bind_some]
    rw [laws_eqIntS.same R hr _ (by omega)]
    simp

end Go.Proofs.Ytppdidoingbgiaa.Pure
