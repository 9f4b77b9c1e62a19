/- The program's RotateRing answers as the reference's, leaves the slice as it was, and its result shares no memory with it, for every slice of points. -/
import Derived.Test.YtonocoedbihfeaaQFnExactRotateRingx2
import Derived.Test.YtonocoedbihfeaaBase
import Derived.Test.YtonocoedbihfeaaLst
import Derived.Test.YtonocoedbihfeaaGeo
import Derived.Test.YtonocoedbihfeaaLn
namespace Go.Proofs.Ytonocoedbihfeaa.Pure
open Go Go.RowKit Go.Proofs.Ytonocoedbihfeaa.PFnExactRotateRing Go.Proofs.YtonocoedbihfeaaW.PrintWords Go.Proofs.YtonocoedbihfeaaW.PrintLast Go.Proofs.YtonocoedbihfeaaW.PrintMore Go.Proofs.Ytonocoedbihfeaa.Base Go.Proofs.Ytonocoedbihfeaa.Lst Go.Proofs.Ytonocoedbihfeaa.Geo Go.Proofs.Ytonocoedbihfeaa.Ln
set_option linter.unusedVariables false
set_option linter.unusedSimpArgs false
def pts (l : List S37) : List Pt := l.map fun x => (x.f0, x.f1)
theorem pts_length (l : List S37) : (pts l).length = l.length := by simp [pts]
theorem at_pts (l : List S37) (i : Nat) : at_ (pts l) i = ((rd_T37 l (i : Int)).f0, (rd_T37 l (i : Int)).f1) := by
  unfold at_ pts rd_T37
  simp only [List.getD_eq_getElem?_getD, List.getElem?_map, Int.toNat_natCast]
  cases l[i]? <;> rfl
theorem rdP_get {l : List S37} {i : Nat} (h : i < l.length) : l[i]? = some (rd_T37 l (i : Int)) := by
  unfold rd_T37
  simp [List.getD_eq_getElem?_getD, h]
theorem rdP_drop {l : List S37} {i : Nat} (h : i < l.length) : l.drop i = rd_T37 l (i : Int) :: l.drop (i + 1) := by
  have e := rdP_get h
  rw [List.getElem?_eq_getElem h] at e
  rw [List.drop_eq_getElem_cons h, Option.some.inj e]
theorem pt_eta (x : S37) : (⟨x.f0, x.f1⟩ : S37) = x := rfl
theorem pt_ext {x y : S37} (h0 : x.f0 = y.f0) (h1 : x.f1 = y.f1) : x = y := by cases x; cases y; simp_all
theorem w64_pred {i : Nat} (h0 : 0 < i) (hn : i ≤ 140737488355328) : wrap64 ((i : Int) - 1) = ((i - 1 : Nat) : Int) := by
  rw [w64 (by omega) (by omega)]; omega
theorem laws_szPointS.eq (l : List S39) (n : Int) (hn : l.length ≤ 9223372036854775807) (h0 : 0 ≤ n) (h1 : n ≤ 1048576) : laws_szPointS.f l n = some (if n < (l.length : Int) then -1 else n - (l.length : Int)) := by
  unfold laws_szPointS.f
  rw [w64 (by omega) (by omega)]
  by_cases h : n < (l.length : Int)
  · rw [if_pos h, if_pos (by omega)]
  · rw [if_neg h, if_neg (by omega)]
/-- The program's points, out of the law's own. -/
def toP (l : List S39) : List S37 := l.map fun x => ⟨x.f0, x.f1⟩
theorem toP_length (l : List S39) : (toP l).length = l.length := by simp [toP]
theorem toP_get {l : List S39} {i : Nat} (h : i < l.length) : (toP l)[i]? = some ⟨(rd_T39 l (i : Int)).f0, (rd_T39 l (i : Int)).f1⟩ := by
  unfold toP rd_T39
  simp [List.getD_eq_getElem?_getD, h]
theorem laws_toPointS.l0_ok (x0 : List S39) (hn : x0.length ≤ 1048576) : ∀ (d k i : Nat) (out : List S37), i + d = x0.length → out.length = x0.length → out.take i = (toP x0).take i → d < k → laws_toPointS.l0 k x0 out (i : Int) = some (toP x0) := by
  intro d
  induction d with
  | zero =>
    intro k i out hi hl ht hk
    obtain ⟨k, rfl⟩ : ∃ m, k = m + 1 := ⟨k - 1, by omega⟩
    simp only [laws_toPointS.l0]
    rw [if_neg (by omega), take_all ht (by omega) (by rw [toP_length]; omega)]
  | succ d ih =>
    intro k i out hi hl ht hk
    obtain ⟨k, rfl⟩ : ∃ m, k = m + 1 := ⟨k - 1, by omega⟩
    simp only [laws_toPointS.l0, laws_toPoint.f]
    rw [if_pos (by omega), if_pos (by omega)]
    simp only [Option.bind_some]
    rw [if_pos (by omega), w64_succ (n := x0.length) (by omega) (by omega)]
    refine ih k (i + 1) _ (by omega) (by simpa using hl) ?_ (by omega)
    exact take_set_succ (by rw [toP_length]; omega) (by rw [toP_length]; omega) ht (toP_get (by omega))
theorem laws_toPointS.ok (l : List S39) (hn : l.length ≤ 1048576) (k : Nat) (hk : l.length < k) : laws_toPointS.f k l = some (toP l) := by
  unfold laws_toPointS.f
  rw [if_pos (by omega), if_pos (by omega)]
  exact laws_toPointS.l0_ok l (by omega) l.length k 0 _ (by omega) (by simp) (by simp) hk
theorem laws_eqPointS.l0_ok (x0 x1 : List S37) (hn : x0.length ≤ 140737488355328) (hl : x0.length = x1.length) : ∀ (d k i : Nat), i + d = x0.length → d < k → laws_eqPointS.l0 k x0 x1 (i : Int) = some (B (x0.drop i = x1.drop i)) := by
  intro d
  induction d with
  | zero =>
    intro k i hi hk
    obtain ⟨k, rfl⟩ : ∃ m, k = m + 1 := ⟨k - 1, by omega⟩
    simp only [laws_eqPointS.l0]
    rw [if_neg (by omega), List.drop_of_length_le (by omega), List.drop_of_length_le (by omega), B_pos rfl]
  | succ d ih =>
    intro k i hi hk
    obtain ⟨k, rfl⟩ : ∃ m, k = m + 1 := ⟨k - 1, by omega⟩
    simp only [laws_eqPointS.l0]
    rw [if_pos (by omega), if_pos (by omega), if_pos (by omega), rdP_drop (l := x0) (i := i) (by omega), rdP_drop (l := x1) (i := i) (by omega), w64_succ (n := x0.length) (by omega) (by omega), ih k (i + 1) (by omega) (by omega)]
    generalize rd_T37 x0 (i : Int) = a
    generalize rd_T37 x1 (i : Int) = b
    by_cases h0 : a.f0 = b.f0
    · by_cases h1 : a.f1 = b.f1
      · have e := pt_ext h0 h1
        subst e
        simp [laws_eqPoint.f]
      · rw [B_neg (P := a :: _ = b :: _) (fun e => h1 (by rw [(List.cons.inj e).1]))]
        simp [laws_eqPoint.f, h0, h1]
    · rw [B_neg (P := a :: _ = b :: _) (fun e => h0 (by rw [(List.cons.inj e).1]))]
      simp [laws_eqPoint.f, h0]
theorem laws_eqPointS.ok (a b : List S37) (hn : a.length ≤ 140737488355328) (k : Nat) (hk : a.length < k) : laws_eqPointS.f k a b = some (B (a = b)) := by
  unfold laws_eqPointS.f
  by_cases h : (a.length : Int) = (b.length : Int)
  · rw [if_pos h]
    exact laws_eqPointS.l0_ok a b hn (by omega) a.length k 0 (by omega) hk
  · rw [if_neg h, B_neg (fun e => h (by rw [e]))]
theorem laws_eqPointS.same (a : List S37) (hn : a.length ≤ 140737488355328) (k : Nat) (hk : a.length < k) : laws_eqPointS.f k a a = some true := by
  rw [laws_eqPointS.ok a a hn k hk, B_pos rfl]
/-- The marks that the law writes into n points, from 1 on. -/
def marksP (n : Nat) : List S37 := (List.range n).map fun j : Nat => ⟨1 + 2 * (j : Int), 1 + 2 * (j : Int) + 1⟩
theorem marksP_length (n : Nat) : (marksP n).length = n := by simp [marksP]
theorem marksP_get {n i : Nat} (h : i < n) : (marksP n)[i]? = some ⟨1 + 2 * (i : Int), 1 + 2 * (i : Int) + 1⟩ := by simp [marksP, h]
theorem rdP_some {xs : List S37} {i : Nat} {v : S37} (h : xs[i]? = some v) : rd_T37 xs (i : Int) = v := by
  unfold rd_T37
  simp [List.getD_eq_getElem?_getD, h]
theorem laws_markPointS.l0_ok (n : Nat) (hn : n ≤ 140737488355328) : ∀ (d k i : Nat) (out : List S37), i + d = n → out.length = n → out.take i = (marksP n).take i → d < k → laws_markPointS.l0 k out (1 + 2 * (i : Int)) (i : Int) = some (1 + 2 * (n : Int), marksP n) := by
  intro d
  induction d with
  | zero =>
    intro k i out hi hl ht hk
    obtain ⟨k, rfl⟩ : ∃ m, k = m + 1 := ⟨k - 1, by omega⟩
    simp only [laws_markPointS.l0]
    rw [if_neg (by omega), take_all ht (by omega) (by rw [marksP_length]; omega)]
    congr 2; omega
  | succ d ih =>
    intro k i out hi hl ht hk
    obtain ⟨k, rfl⟩ : ∃ m, k = m + 1 := ⟨k - 1, by omega⟩
    simp only [laws_markPointS.l0]
    rw [if_pos (by omega), if_pos (by omega)]
    simp only [Option.bind_some]
    rw [w64_succ (n := n) (by omega) (by omega), w64 (n := 1 + 2 * (i : Int) + 1) (by omega) (by omega), w64 (n := 1 + 2 * (i : Int) + 1 + 1) (by omega) (by omega), show (1 + 2 * (i : Int) + 1 + 1) = 1 + 2 * ((i + 1 : Nat) : Int) by omega, List.set_set]
    refine ih k (i + 1) _ (by omega) (by simpa using hl) ?_ (by omega)
    refine take_set_succ (by rw [marksP_length]; omega) (by rw [marksP_length]; omega) ht ?_
    rw [rdP_some (v := ⟨1 + 2 * (i : Int), (rd_T37 out (i : Int)).f1⟩) (by rw [Int.toNat_natCast, List.getElem?_set_self (by omega)])]
    exact marksP_get (by omega)
theorem laws_markPointS.ok (l : List S37) (hn : l.length ≤ 140737488355328) (k : Nat) (hk : l.length < k) : laws_markPointS.f k l 1 = some (1 + 2 * (l.length : Int), marksP l.length) := by
  unfold laws_markPointS.f
  exact laws_markPointS.l0_ok l.length hn l.length k 0 l (by omega) rfl (by simp) hk
theorem laws_heldPointS.l0_ok (n : Nat) (hn : n ≤ 140737488355328) : ∀ (d k i : Nat), i + d = n → d < k → laws_heldPointS.l0 k (marksP n) (1 + 2 * (i : Int)) (i : Int) = some (1 + 2 * (n : Int)) := by
  intro d
  induction d with
  | zero =>
    intro k i hi hk
    obtain ⟨k, rfl⟩ : ∃ m, k = m + 1 := ⟨k - 1, by omega⟩
    simp only [laws_heldPointS.l0]
    rw [if_neg (by rw [marksP_length]; omega)]
    congr 1; omega
  | succ d ih =>
    intro k i hi hk
    obtain ⟨k, rfl⟩ : ∃ m, k = m + 1 := ⟨k - 1, by omega⟩
    simp only [laws_heldPointS.l0]
    rw [if_pos (by rw [marksP_length]; omega), if_pos (by omega), rdP_some (marksP_get (by omega)), w64_succ (n := n) (by omega) (by omega), w64 (n := 1 + 2 * (i : Int) + 1) (by omega) (by omega), w64 (n := 1 + 2 * (i : Int) + 1 + 1) (by omega) (by omega), show (1 + 2 * (i : Int) + 1 + 1) = 1 + 2 * ((i + 1 : Nat) : Int) by omega, if_pos rfl, if_pos rfl]
    exact ih k (i + 1) (by omega) (by omega)
theorem laws_heldPointS.ok (n : Nat) (hn : n ≤ 140737488355328) (k : Nat) (hk : n < k) : laws_heldPointS.f k (marksP n) 1 = some (1 + 2 * (n : Int)) := by
  unfold laws_heldPointS.f
  exact laws_heldPointS.l0_ok n hn n k 0 (by omega) hk
theorem spec_l1In.eq (a b c : Int) : spec_l1In.f a b c = some (decide (b ≤ a ∧ a ≤ c)) := by
  unfold spec_l1In.f
  by_cases h : b ≤ a
  · rw [if_pos h]; simp [h]
  · rw [if_neg h]; simp [h]
theorem rotR_length (l : List S37) (k : Int) : (rotR l k).length = l.length := by
  unfold rotR
  by_cases h : 0 ≤ k ∧ k < (l.length : Int)
  · rw [if_pos h, List.length_append, List.length_drop, List.length_take]; omega
  · rw [if_neg h]
theorem spec_RotateRing.ok (l : List S37) (hn : l.length ≤ 1048576) (k : Int) : spec_RotateRing.f l k = some (rotR l k) := by
  unfold spec_RotateRing.f rotR
  rw [w64 (by omega) (by omega), spec_l1In.eq]
  simp only [Option.bind_some, List.length_nil, Nat.zero_add, List.nil_append]
  by_cases h : 0 ≤ k ∧ k < (l.length : Int)
  · rw [if_pos h, if_pos (by rw [decide_eq_true_eq]; omega), if_pos h.1, if_pos (by omega), if_pos (by rw [List.length_drop]; omega), if_pos (by rw [List.length_drop, List.length_take]; omega)]
  · rw [if_neg h, if_neg (by rw [decide_eq_true_eq]; omega), if_pos (by omega)]
theorem impl_Point_21.ok (l : List S37) (hn : l.length ≤ 1048576) : impl_Point_21.f l = some l := by
  unfold impl_Point_21.f
  simp only [Option.bind_some, List.length_nil, Nat.zero_add, List.nil_append]
  rw [if_pos (by omega)]
theorem impl_RotateRing.ok (l : List S37) (hn : l.length ≤ 1048576) (k : Int) : impl_RotateRing.f l k = some (rotR l k) := by
  unfold impl_RotateRing.f
  rw [if_pos hn]
theorem FnExactRotateRing (l : List S39) (c : Int) (hn : l.length ≤ 9223372036854775807) (hc : (Lit.int .i64 c).wf = true) : ∃ k, laws_FnExactRotateRing.f k l c = some true := by
  refine ⟨l.length + 30, ?_⟩
  unfold laws_FnExactRotateRing.f
  rw [laws_szPointS.eq l 1048576 hn (by omega) (by omega)]
  by_cases h : (1048576 : Int) < (l.length : Int)
  · rw [if_pos h]; rfl
  · rw [if_neg h]
    have hp := toP_length l
    have hr : (rotR (toP l) c).length = l.length := by rw [rotR_length, hp]
    have neg : ∀ m : Nat, ¬ (1 + 2 * (m : Int) < 0) := fun m => by omega
    simp only [Option.bind_some]
    rw [if_neg (by omega), laws_toPointS.ok l (by omega) _ (by omega)]
    generalize hP : toP l = P at hp hr ⊢
    simp only [Option.bind_some]
    rw [spec_RotateRing.ok P (by omega) c, impl_RotateRing.ok P (by omega) c]
    simp only [Option.bind_some]
    rw [laws_eqPointS.same (rotR P c) (by omega) _ (by omega)]
    simp only [Option.bind_some, if_true]
    rw [laws_eqPointS.same P (by omega) _ (by omega)]
    simp only [Option.bind_some, if_true]
    rw [laws_markPointS.ok P (by omega) _ (by omega)]
    simp only [Option.bind_some, neg, if_false, Bool.not_true]
    simp only [laws_FnExactRotateRing.j0]
    rw [if_neg (by simp), laws_markPointS.ok (rotR P c) (by omega) _ (by omega)]
    simp only [Option.bind_some]
    rw [laws_heldPointS.ok (rotR P c).length (by omega) _ (by omega)]
    simp only [Option.bind_some, neg, if_false, if_true]
    rw [laws_toPointS.ok l (by omega) _ (by omega), hP]
    simp only [Option.bind_some]
    rw [impl_RotateRing.ok P (by omega) c]
    simp only [Option.bind_some]
    rw [laws_eqPointS.same (rotR P c) (by omega) _ (by omega)]
    simp only [Option.bind_some, if_true]

end Go.Proofs.Ytonocoedbihfeaa.Pure
