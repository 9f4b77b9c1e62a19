/- The program's EqualLines answers as the reference's and leaves both slices as they were, for all two slices of points. -/
import Derived.Test.YtppdidoingbgiaaPFnExactEqualLinesx3
import Derived.Test.YtppdidoingbgiaaBase
import Derived.Test.YtppdidoingbgiaaGeo
import Derived.Test.YtppdidoingbgiaaLn
import Derived.Test.YtppdidoingbgiaaLst
namespace Go.Proofs.Ytppdidoingbgiaa.Pure
open Go Go.RowKit Go.Proofs.Ytppdidoingbgiaa.PFnExactEqualLines Go.Proofs.YtppdidoingbgiaaW.PrintWords Go.Proofs.YtppdidoingbgiaaW.PrintLast Go.Proofs.YtppdidoingbgiaaW.PrintMore Go.Proofs.Ytppdidoingbgiaa.Base Go.Proofs.Ytppdidoingbgiaa.Geo Go.Proofs.Ytppdidoingbgiaa.Ln Go.Proofs.Ytppdidoingbgiaa.Lst
set_option linter.unusedVariables false
set_option linter.unusedSimpArgs false
def pts (l : List S46) : List Pt := l.map fun x => (x.f0, x.f1)
theorem pts_length (l : List S46) : (pts l).length = l.length := by simp [pts]
theorem at_pts (l : List S46) (i : Nat) : at_ (pts l) i = ((rd_T46 l (i : Int)).f0, (rd_T46 l (i : Int)).f1) := by
  unfold at_ pts rd_T46
  simp only [List.getD_eq_getElem?_getD, List.getElem?_map, Int.toNat_natCast]
  cases l[i]? <;> rfl
theorem rdP_get {l : List S46} {i : Nat} (h : i < l.length) : l[i]? = some (rd_T46 l (i : Int)) := by
  unfold rd_T46
  simp [List.getD_eq_getElem?_getD, h]
theorem rdP_drop {l : List S46} {i : Nat} (h : i < l.length) : l.drop i = rd_T46 l (i : Int) :: l.drop (i + 1) := by
  have e := rdP_get h
  rw [List.getElem?_eq_getElem h] at e
  rw [List.drop_eq_getElem_cons h, Option.some.inj e]
theorem pt_eta (x : S46) : (⟨x.f0, x.f1⟩ : S46) = x := rfl
theorem pt_ext {x y : S46} (h0 : x.f0 = y.f0) (h1 : x.f1 = y.f1) : x = y := by cases x; cases y; simp_all
theorem w64_pred {i : Nat} (h0 : 0 < i) (hn : i ≤ 140737488355328) : wrap64 ((i : Int) - 1) = ((i - 1 : Nat) : Int) := by
  rw [w64 (by omega) (by omega)]; omega
theorem laws_szPointS.eq (l : List S42) (n : Int) (hn : l.length ≤ 9223372036854775807) (h0 : 0 ≤ n) (h1 : n ≤ 1048576) : laws_szPointS.f l n = some (if n < (l.length : Int) then -1 else n - (l.length : Int)) := by
  unfold laws_szPointS.f
  rw [w64 (by omega) (by omega)]
  by_cases h : n < (l.length : Int)
  · rw [if_pos h, if_pos (by omega)]
  · rw [if_neg h, if_neg (by omega)]
theorem spec_EqualLines.l0_ok (x0 x1 : List S46) (hn : x0.length ≤ 140737488355328) (hl : x0.length = x1.length) : ∀ (d k i : Nat), i + d = x0.length → d < k → spec_EqualLines.l0 k x0 x1 (i : Int) = some (B (x0.drop i = x1.drop i)) := by
  intro d
  induction d with
  | zero =>
    intro k i hi hk
    obtain ⟨k, rfl⟩ : ∃ m, k = m + 1 := ⟨k - 1, by omega⟩
    simp only [spec_EqualLines.l0]
    rw [if_neg (by omega), List.drop_of_length_le (by omega), List.drop_of_length_le (by omega), B_pos rfl]
  | succ d ih =>
    intro k i hi hk
    obtain ⟨k, rfl⟩ : ∃ m, k = m + 1 := ⟨k - 1, by omega⟩
    simp only [spec_EqualLines.l0]
    rw [if_pos (by omega), if_pos (by omega), if_pos (by omega), rdP_drop (l := x0) (i := i) (by omega), rdP_drop (l := x1) (i := i) (by omega), w64_succ (n := x0.length) (by omega) (by omega), ih k (i + 1) (by omega) (by omega)]
    generalize rd_T46 x0 (i : Int) = a
    generalize rd_T46 x1 (i : Int) = b
    by_cases h0 : a.f0 = b.f0
    · by_cases h1 : a.f1 = b.f1
      · have e := pt_ext h0 h1
        subst e
        simp [laws_eqPoint.f]
      · rw [B_neg (P := a :: _ = b :: _) (fun e => h1 (by rw [(List.cons.inj e).1]))]
        simp [laws_eqPoint.f, h0, h1]
    · rw [B_neg (P := a :: _ = b :: _) (fun e => h0 (by rw [(List.cons.inj e).1]))]
      simp [laws_eqPoint.f, h0]
theorem spec_EqualLines.ok (a b : List S46) (hn : a.length ≤ 140737488355328) (k : Nat) (hk : a.length < k) : spec_EqualLines.f k a b = some (B (a = b)) := by
  unfold spec_EqualLines.f
  by_cases h : (a.length : Int) = (b.length : Int)
  · rw [if_pos h]
    exact spec_EqualLines.l0_ok a b hn (by omega) a.length k 0 (by omega) hk
  · rw [if_neg h, B_neg (fun e => h (by rw [e]))]
theorem spec_EqualLines.same (a : List S46) (hn : a.length ≤ 140737488355328) (k : Nat) (hk : a.length < k) : spec_EqualLines.f k a a = some true := by
  rw [spec_EqualLines.ok a a hn k hk, B_pos rfl]
/-- The program's points, out of the law's own. -/
def toP (l : List S42) : List S46 := l.map fun x => ⟨x.f0, x.f1⟩
theorem toP_length (l : List S42) : (toP l).length = l.length := by simp [toP]
theorem toP_get {l : List S42} {i : Nat} (h : i < l.length) : (toP l)[i]? = some ⟨(rd_T42 l (i : Int)).f0, (rd_T42 l (i : Int)).f1⟩ := by
  unfold toP rd_T42
  simp [List.getD_eq_getElem?_getD, h]
theorem laws_toPointS.l0_ok (x0 : List S42) (hn : x0.length ≤ 1048576) : ∀ (d k i : Nat) (out : List S46), i + d = x0.length → out.length = x0.length → out.take i = (toP x0).take i → d < k → laws_toPointS.l0 k x0 out (i : Int) = some (toP x0) := by
  intro d
  induction d with
  | zero =>
    intro k i out hi hl ht hk
    obtain ⟨k, rfl⟩ : ∃ m, k = m + 1 := ⟨k - 1, by omega⟩
    simp only [laws_toPointS.l0]
    rw [if_neg (by omega), take_all ht (by omega) (by rw [toP_length]; omega)]
  | succ d ih =>
    intro k i out hi hl ht hk
    obtain ⟨k, rfl⟩ : ∃ m, k = m + 1 := ⟨k - 1, by omega⟩
    simp only [laws_toPointS.l0, laws_toPoint.f]
    rw [if_pos (by omega), if_pos (by omega)]
    simp only [Option.bind_some]
    rw [if_pos (by omega), w64_succ (n := x0.length) (by omega) (by omega)]
    refine ih k (i + 1) _ (by omega) (by simpa using hl) ?_ (by omega)
    exact take_set_succ (by rw [toP_length]; omega) (by rw [toP_length]; omega) ht (toP_get (by omega))
theorem laws_toPointS.ok (l : List S42) (hn : l.length ≤ 1048576) (k : Nat) (hk : l.length < k) : laws_toPointS.f k l = some (toP l) := by
  unfold laws_toPointS.f
  rw [if_pos (by omega), if_pos (by omega)]
  exact laws_toPointS.l0_ok l (by omega) l.length k 0 _ (by omega) (by simp) (by simp) hk
theorem impl_Point.l0_ok (x0 x1 : List S46) (hn : x0.length ≤ 140737488355328) (hl : x0.length = x1.length) : ∀ (d k i : Nat), i + d = x0.length → d < k → impl_Point.l0 k x0 x1 (x0.length : Int) (i : Int) = some (B (x0.drop i = x1.drop i)) := by
  intro d
  induction d with
  | zero =>
    intro k i hi hk
    obtain ⟨k, rfl⟩ : ∃ m, k = m + 1 := ⟨k - 1, by omega⟩
    simp only [impl_Point.l0]
    rw [if_neg (by omega), List.drop_of_length_le (by omega), List.drop_of_length_le (by omega), B_pos rfl]
  | succ d ih =>
    intro k i hi hk
    obtain ⟨k, rfl⟩ : ∃ m, k = m + 1 := ⟨k - 1, by omega⟩
    simp only [impl_Point.l0]
    rw [if_pos (by omega), if_pos (by omega), if_pos (by omega), if_pos (by omega), rdP_drop (l := x0) (i := i) (by omega), rdP_drop (l := x1) (i := i) (by omega), w64_succ (n := x0.length) (by omega) (by omega), ih k (i + 1) (by omega) (by omega)]
    generalize rd_T46 x0 (i : Int) = a
    generalize rd_T46 x1 (i : Int) = b
    by_cases h0 : a.f0 = b.f0
    · by_cases h1 : a.f1 = b.f1
      · have e := pt_ext h0 h1
        subst e
        simp
      · rw [B_neg (P := a :: _ = b :: _) (fun e => h1 (by rw [(List.cons.inj e).1]))]
        simp [h0, h1]
    · rw [B_neg (P := a :: _ = b :: _) (fun e => h0 (by rw [(List.cons.inj e).1]))]
      simp [h0]
theorem impl_Point.ok (a b : List S46) (hn : a.length ≤ 140737488355328) (k : Nat) (hk : a.length < k) : impl_Point.f k a b = some (B (a = b)) := by
  unfold impl_Point.f
  by_cases h : (a.length : Int) = (b.length : Int)
  · rw [if_pos h]
    exact impl_Point.l0_ok a b hn (by omega) a.length k 0 (by omega) hk
  · rw [if_neg h, B_neg (fun e => h (by rw [e]))]
theorem impl_EqualLines.ok (a b : List S46) (hn : a.length ≤ 140737488355328) (k : Nat) (hk : a.length < k) : impl_EqualLines.f k a b = some (B (a = b)) := by
  unfold impl_EqualLines.f
  rw [impl_Point.ok a b hn k hk]
  rfl
theorem laws_eqPointS.l0_ok (x0 x1 : List S46) (hn : x0.length ≤ 140737488355328) (hl : x0.length = x1.length) : ∀ (d k i : Nat), i + d = x0.length → d < k → laws_eqPointS.l0 k x0 x1 (i : Int) = some (B (x0.drop i = x1.drop i)) := by
  intro d
  induction d with
  | zero =>
    intro k i hi hk
    obtain ⟨k, rfl⟩ : ∃ m, k = m + 1 := ⟨k - 1, by omega⟩
    simp only [laws_eqPointS.l0]
    rw [if_neg (by omega), List.drop_of_length_le (by omega), List.drop_of_length_le (by omega), B_pos rfl]
  | succ d ih =>
    intro k i hi hk
    obtain ⟨k, rfl⟩ : ∃ m, k = m + 1 := ⟨k - 1, by omega⟩
    simp only [laws_eqPointS.l0]
    rw [if_pos (by omega), if_pos (by omega), if_pos (by omega), rdP_drop (l := x0) (i := i) (by omega), rdP_drop (l := x1) (i := i) (by omega), w64_succ (n := x0.length) (by omega) (by omega), ih k (i + 1) (by omega) (by omega)]
    generalize rd_T46 x0 (i : Int) = a
    generalize rd_T46 x1 (i : Int) = b
    by_cases h0 : a.f0 = b.f0
    · by_cases h1 : a.f1 = b.f1
      · have e := pt_ext h0 h1
        subst e
        simp [laws_eqPoint.f]
      · rw [B_neg (P := a :: _ = b :: _) (fun e => h1 (by rw [(List.cons.inj e).1]))]
        simp [laws_eqPoint.f, h0, h1]
    · rw [B_neg (P := a :: _ = b :: _) (fun e => h0 (by rw [(List.cons.inj e).1]))]
      simp [laws_eqPoint.f, h0]
theorem laws_eqPointS.ok (a b : List S46) (hn : a.length ≤ 140737488355328) (k : Nat) (hk : a.length < k) : laws_eqPointS.f k a b = some (B (a = b)) := by
  unfold laws_eqPointS.f
  by_cases h : (a.length : Int) = (b.length : Int)
  · rw [if_pos h]
    exact laws_eqPointS.l0_ok a b hn (by omega) a.length k 0 (by omega) hk
  · rw [if_neg h, B_neg (fun e => h (by rw [e]))]
theorem laws_eqPointS.same (a : List S46) (hn : a.length ≤ 140737488355328) (k : Nat) (hk : a.length < k) : laws_eqPointS.f k a a = some true := by
  rw [laws_eqPointS.ok a a hn k hk, B_pos rfl]
theorem FnExactEqualLines (l m : List S42) (hn : l.length ≤ 9223372036854775807) (hm : m.length ≤ 9223372036854775807) : ∃ k, laws_FnExactEqualLines.f k l m = some true := by
  refine ⟨l.length + m.length + 30, ?_⟩
  unfold laws_FnExactEqualLines.f
  rw [laws_szPointS.eq l 1048576 hn (by omega) (by omega)]
  by_cases h : (1048576 : Int) < (l.length : Int)
  · rw [if_pos h]; rfl
  · rw [if_neg h]
    simp only [Option.bind_some]
    rw [if_neg (by omega), laws_szPointS.eq m _ hm (by omega) (by omega)]
    by_cases h2 : (1048576 : Int) - (l.length : Int) < (m.length : Int)
    · rw [if_pos h2]; rfl
    · rw [if_neg h2]
      have hp := toP_length l
      have hq := toP_length m
      simp only [Option.bind_some]
      rw [if_neg (by omega), laws_toPointS.ok l (by omega) _ (by omega), laws_toPointS.ok m (by omega) _ (by omega)]
      simp only [Option.bind_some]
      rw [spec_EqualLines.ok _ _ (by omega) _ (by omega), impl_EqualLines.ok _ _ (by omega) _ (by omega)]
      simp only [Option.bind_some]
      rw [laws_eqPointS.same (toP l) (by omega) _ (by omega), laws_eqPointS.same (toP m) (by omega) _ (by omega)]
      simp

end Go.Proofs.Ytppdidoingbgiaa.Pure
