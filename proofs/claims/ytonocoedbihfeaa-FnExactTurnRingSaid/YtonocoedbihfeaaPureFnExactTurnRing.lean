/- The program's TurnRing answers as the reference's, leaves the slice as it was, and its result shares no memory with it, for every slice of points. -/
import Derived.Test.YtonocoedbihfeaaQFnExactTurnRingx3
import Derived.Test.YtonocoedbihfeaaBase
import Derived.Test.YtonocoedbihfeaaLst
import Derived.Test.YtonocoedbihfeaaGeo
import Derived.Test.YtonocoedbihfeaaLn
namespace Go.Proofs.Ytonocoedbihfeaa.Pure
open Go Go.RowKit Go.Proofs.Ytonocoedbihfeaa.PFnExactTurnRing Go.Proofs.YtonocoedbihfeaaW.PrintWords Go.Proofs.YtonocoedbihfeaaW.PrintLast Go.Proofs.YtonocoedbihfeaaW.PrintMore Go.Proofs.Ytonocoedbihfeaa.Base Go.Proofs.Ytonocoedbihfeaa.Lst Go.Proofs.Ytonocoedbihfeaa.Geo Go.Proofs.Ytonocoedbihfeaa.Ln
set_option linter.unusedVariables false
set_option linter.unusedSimpArgs false
def pts (l : List S37) : List Pt := l.map fun x => (x.f0, x.f1)
theorem pts_length (l : List S37) : (pts l).length = l.length := by simp [pts]
theorem at_pts (l : List S37) (i : Nat) : at_ (pts l) i = ((rd_T37 l (i : Int)).f0, (rd_T37 l (i : Int)).f1) := by
  unfold at_ pts rd_T37
  simp only [List.getD_eq_getElem?_getD, List.getElem?_map, Int.toNat_natCast]
  cases l[i]? <;> rfl
theorem rdP_get {l : List S37} {i : Nat} (h : i < l.length) : l[i]? = some (rd_T37 l (i : Int)) := by
  unfold rd_T37
  simp [List.getD_eq_getElem?_getD, h]
theorem rdP_drop {l : List S37} {i : Nat} (h : i < l.length) : l.drop i = rd_T37 l (i : Int) :: l.drop (i + 1) := by
  have e := rdP_get h
  rw [List.getElem?_eq_getElem h] at e
  rw [List.drop_eq_getElem_cons h, Option.some.inj e]
theorem pt_eta (x : S37) : (⟨x.f0, x.f1⟩ : S37) = x := rfl
theorem pt_ext {x y : S37} (h0 : x.f0 = y.f0) (h1 : x.f1 = y.f1) : x = y := by cases x; cases y; simp_all
theorem w64_pred {i : Nat} (h0 : 0 < i) (hn : i ≤ 140737488355328) : wrap64 ((i : Int) - 1) = ((i - 1 : Nat) : Int) := by
  rw [w64 (by omega) (by omega)]; omega
theorem laws_szPointS.eq (l : List S39) (n : Int) (hn : l.length ≤ 9223372036854775807) (h0 : 0 ≤ n) (h1 : n ≤ 1048576) : laws_szPointS.f l n = some (if n < (l.length : Int) then -1 else n - (l.length : Int)) := by
  unfold laws_szPointS.f
  rw [w64 (by omega) (by omega)]
  by_cases h : n < (l.length : Int)
  · rw [if_pos h, if_pos (by omega)]
  · rw [if_neg h, if_neg (by omega)]
theorem turn1_length (l : List S37) : (turn1 l).length = l.length := by
  unfold turn1
  rw [List.length_append, List.length_take, List.length_reverse, List.length_drop]; omega
theorem turn1_get (l : List S37) (i : Nat) (h : i < l.length) : (turn1 l)[i]? = l[if i = 0 then 0 else l.length - i]? := by
  cases l with
  | nil => simp at h
  | cons x r =>
    have e : turn1 (x :: r) = x :: r.reverse := rfl
    rw [e]
    cases i with
    | zero => rfl
    | succ i =>
      rw [List.length_cons] at h
      rw [if_neg (by omega), List.getElem?_cons_succ, List.getElem?_reverse (by omega), List.length_cons, show r.length + 1 - (i + 1) = (r.length - 1 - i) + 1 by omega, List.getElem?_cons_succ]
theorem spec_TurnRing.l0_ok (l : List S37) (hn : l.length ≤ 1048576) : ∀ (d k i : Nat), i + d = l.length → d < k → spec_TurnRing.l0 k l ((turn1 l).take i) (i : Int) = some (turn1 l) := by
  intro d
  induction d with
  | zero =>
    intro k i hi hk
    obtain ⟨k, rfl⟩ : ∃ m, k = m + 1 := ⟨k - 1, by omega⟩
    simp only [spec_TurnRing.l0]
    rw [if_neg (by omega), List.take_of_length_le (by rw [turn1_length]; omega)]
  | succ d ih =>
    intro k i hi hk
    obtain ⟨k, rfl⟩ : ∃ m, k = m + 1 := ⟨k - 1, by omega⟩
    simp only [spec_TurnRing.l0]
    obtain ⟨J, hJ⟩ : ∃ J : Nat, J = if i = 0 then 0 else l.length - i := ⟨_, rfl⟩
    have hJl : J < l.length := by rw [hJ]; split <;> omega
    have ht : Int.tmod ((l.length : Int) - (i : Int)) (l.length : Int) = (J : Int) := by
      rw [hJ]
      by_cases c : i = 0
      · rw [if_pos c, c]; simp
      · rw [if_neg c, Int.tmod_eq_of_lt (by omega) (by omega)]; omega
    rw [w64 (by omega) (by omega), ht, if_pos (by omega), if_neg (by omega), if_pos (by omega), if_pos (by omega), if_pos (by rw [List.length_take, turn1_length]; omega), w64_succ (n := l.length) (by omega) (by omega)]
    have g : (turn1 l).take i ++ [(⟨(rd_T37 l (J : Int)).f0, (rd_T37 l (J : Int)).f1⟩ : S37)] = (turn1 l).take (i + 1) := by
      rw [List.take_add_one, turn1_get l i (by omega), ← hJ, rdP_get hJl]
      rfl
    rw [g]
    exact ih k (i + 1) (by omega) (by omega)
theorem spec_TurnRing.ok (l : List S37) (hn : l.length ≤ 1048576) (k : Nat) (hk : l.length < k) : spec_TurnRing.f k l = some (turn1 l) := by
  unfold spec_TurnRing.f
  exact spec_TurnRing.l0_ok l hn l.length k 0 (by omega) hk
/-- The program's points, out of the law's own. -/
def toP (l : List S39) : List S37 := l.map fun x => ⟨x.f0, x.f1⟩
theorem toP_length (l : List S39) : (toP l).length = l.length := by simp [toP]
theorem toP_get {l : List S39} {i : Nat} (h : i < l.length) : (toP l)[i]? = some ⟨(rd_T39 l (i : Int)).f0, (rd_T39 l (i : Int)).f1⟩ := by
  unfold toP rd_T39
  simp [List.getD_eq_getElem?_getD, h]
theorem laws_toPointS.l0_ok (x0 : List S39) (hn : x0.length ≤ 1048576) : ∀ (d k i : Nat) (out : List S37), i + d = x0.length → out.length = x0.length → out.take i = (toP x0).take i → d < k → laws_toPointS.l0 k x0 out (i : Int) = some (toP x0) := by
  intro d
  induction d with
  | zero =>
    intro k i out hi hl ht hk
    obtain ⟨k, rfl⟩ : ∃ m, k = m + 1 := ⟨k - 1, by omega⟩
    simp only [laws_toPointS.l0]
    rw [if_neg (by omega), take_all ht (by omega) (by rw [toP_length]; omega)]
  | succ d ih =>
    intro k i out hi hl ht hk
    obtain ⟨k, rfl⟩ : ∃ m, k = m + 1 := ⟨k - 1, by omega⟩
    simp only [laws_toPointS.l0, laws_toPoint.f]
    rw [if_pos (by omega), if_pos (by omega)]
    simp only [Option.bind_some]
    rw [if_pos (by omega), w64_succ (n := x0.length) (by omega) (by omega)]
    refine ih k (i + 1) _ (by omega) (by simpa using hl) ?_ (by omega)
    exact take_set_succ (by rw [toP_length]; omega) (by rw [toP_length]; omega) ht (toP_get (by omega))
theorem laws_toPointS.ok (l : List S39) (hn : l.length ≤ 1048576) (k : Nat) (hk : l.length < k) : laws_toPointS.f k l = some (toP l) := by
  unfold laws_toPointS.f
  rw [if_pos (by omega), if_pos (by omega)]
  exact laws_toPointS.l0_ok l (by omega) l.length k 0 _ (by omega) (by simp) (by simp) hk
theorem impl_Point_21.ok (l : List S37) (hn : l.length ≤ 1048576) : impl_Point_21.f l = some l := by
  unfold impl_Point_21.f
  simp only [Option.bind_some, List.length_nil, Nat.zero_add, List.nil_append]
  rw [if_pos (by omega)]
theorem impl_Point_22.l0_ok (l : List S37) (hn : l.length ≤ 140737488355328) : ∀ (d k i : Nat) (x : List S37), x.length = l.length → (∀ p, p < l.length → x[p]? = if p < i ∨ l.length - i ≤ p then l[l.length - 1 - p]? else l[p]?) → l.length ≤ i + d → 2 * i ≤ l.length + 1 → d < k →
    impl_Point_22.l0 k x (i : Int) ((l.length : Int) - 1 - (i : Int)) = some l.reverse := by
  have fin : ∀ (i : Nat) (x : List S37), x.length = l.length → (∀ p, p < l.length → x[p]? = if p < i ∨ l.length - i ≤ p then l[l.length - 1 - p]? else l[p]?) → l.length ≤ 2 * i + 1 → x = l.reverse := by
    intro i x hl hx hi
    apply List.ext_getElem?
    intro p
    by_cases hp : p < l.length
    · rw [hx p hp, List.getElem?_reverse hp]
      by_cases c : p < i ∨ l.length - i ≤ p
      · rw [if_pos c]
      · rw [if_neg c, show l.length - 1 - p = p by omega]
    · rw [List.getElem?_eq_none (by omega), List.getElem?_eq_none (by rw [List.length_reverse]; omega)]
  intro d
  induction d with
  | zero =>
    intro k i x hl hx hd hi hk
    obtain ⟨k, rfl⟩ : ∃ m, k = m + 1 := ⟨k - 1, by omega⟩
    simp only [impl_Point_22.l0]
    rw [if_neg (by omega), fin i x hl hx (by omega)]
  | succ d ih =>
    intro k i x hl hx hd hi hk
    obtain ⟨k, rfl⟩ : ∃ m, k = m + 1 := ⟨k - 1, by omega⟩
    simp only [impl_Point_22.l0]
    by_cases c : (i : Int) < (l.length : Int) - 1 - (i : Int)
    · have ej : (l.length : Int) - 1 - (i : Int) = ((l.length - 1 - i : Nat) : Int) := by omega
      rw [if_pos c, if_pos (by omega), if_pos (by omega), if_pos (by omega), if_pos (by omega), w64 (n := (i : Int) + 1) (by omega) (by omega), w64 (n := (l.length : Int) - 1 - (i : Int) - 1) (by omega) (by omega)]
      rw [show (i : Int) + 1 = ((i + 1 : Nat) : Int) by omega, show (l.length : Int) - 1 - (i : Int) - 1 = (l.length : Int) - 1 - ((i + 1 : Nat) : Int) by omega, ej]
      refine ih k (i + 1) _ (by simpa using hl) ?_ (by omega) (by omega) (by omega)
      intro p hp
      have ei := hx i (by omega)
      have eJ := hx (l.length - 1 - i) (by omega)
      rw [if_neg (by omega), rdP_get (show i < x.length by omega)] at ei
      rw [if_neg (by omega), rdP_get (show l.length - 1 - i < x.length by omega)] at eJ
      rw [Int.toNat_natCast, Int.toNat_natCast]
      by_cases c1 : p = l.length - 1 - i
      · subst c1
        rw [List.getElem?_set_self (by rw [List.length_set]; omega), if_pos (by omega), show l.length - 1 - (l.length - 1 - i) = i by omega]
        exact ei
      · rw [List.getElem?_set_ne (by omega)]
        by_cases c2 : p = i
        · subst c2
          rw [List.getElem?_set_self (by omega), if_pos (by omega)]
          exact eJ
        · rw [List.getElem?_set_ne (by omega), hx p hp]
          by_cases c3 : p < i ∨ l.length - i ≤ p
          · rw [if_pos c3, if_pos (by omega)]
          · rw [if_neg c3, if_neg (by omega)]
    · rw [if_neg c, fin i x hl hx (by omega)]
theorem impl_Point_22.ok (l : List S37) (hn : l.length ≤ 1048576) (k : Nat) (hk : l.length < k) : impl_Point_22.f k l = some l.reverse := by
  unfold impl_Point_22.f
  rw [w64 (by omega) (by omega)]
  have h := impl_Point_22.l0_ok l (by omega) l.length k 0 l rfl (fun p hp => by rw [if_neg (by omega)]) (by omega) (by omega) hk
  simpa using h
theorem impl_TurnRing.ok (l : List S37) (hn : l.length ≤ 1048576) : impl_TurnRing.f l = some (turn1 l) := by
  unfold impl_TurnRing.f
  rw [impl_Point_21.ok l hn]
  rfl
theorem laws_eqPointS.l0_ok (x0 x1 : List S37) (hn : x0.length ≤ 140737488355328) (hl : x0.length = x1.length) : ∀ (d k i : Nat), i + d = x0.length → d < k → laws_eqPointS.l0 k x0 x1 (i : Int) = some (B (x0.drop i = x1.drop i)) := by
  intro d
  induction d with
  | zero =>
    intro k i hi hk
    obtain ⟨k, rfl⟩ : ∃ m, k = m + 1 := ⟨k - 1, by omega⟩
    simp only [laws_eqPointS.l0]
    rw [if_neg (by omega), List.drop_of_length_le (by omega), List.drop_of_length_le (by omega), B_pos rfl]
  | succ d ih =>
    intro k i hi hk
    obtain ⟨k, rfl⟩ : ∃ m, k = m + 1 := ⟨k - 1, by omega⟩
    simp only [laws_eqPointS.l0]
    rw [if_pos (by omega), if_pos (by omega), if_pos (by omega), rdP_drop (l := x0) (i := i) (by omega), rdP_drop (l := x1) (i := i) (by omega), w64_succ (n := x0.length) (by omega) (by omega), ih k (i + 1) (by omega) (by omega)]
    generalize rd_T37 x0 (i : Int) = a
    generalize rd_T37 x1 (i : Int) = b
    by_cases h0 : a.f0 = b.f0
    · by_cases h1 : a.f1 = b.f1
      · have e := pt_ext h0 h1
        subst e
        simp [laws_eqPoint.f]
      · rw [B_neg (P := a :: _ = b :: _) (fun e => h1 (by rw [(List.cons.inj e).1]))]
        simp [laws_eqPoint.f, h0, h1]
    · rw [B_neg (P := a :: _ = b :: _) (fun e => h0 (by rw [(List.cons.inj e).1]))]
      simp [laws_eqPoint.f, h0]
theorem laws_eqPointS.ok (a b : List S37) (hn : a.length ≤ 140737488355328) (k : Nat) (hk : a.length < k) : laws_eqPointS.f k a b = some (B (a = b)) := by
  unfold laws_eqPointS.f
  by_cases h : (a.length : Int) = (b.length : Int)
  · rw [if_pos h]
    exact laws_eqPointS.l0_ok a b hn (by omega) a.length k 0 (by omega) hk
  · rw [if_neg h, B_neg (fun e => h (by rw [e]))]
theorem laws_eqPointS.same (a : List S37) (hn : a.length ≤ 140737488355328) (k : Nat) (hk : a.length < k) : laws_eqPointS.f k a a = some true := by
  rw [laws_eqPointS.ok a a hn k hk, B_pos rfl]
/-- The marks that the law writes into n points, from 1 on. -/
def marksP (n : Nat) : List S37 := (List.range n).map fun j : Nat => ⟨1 + 2 * (j : Int), 1 + 2 * (j : Int) + 1⟩
theorem marksP_length (n : Nat) : (marksP n).length = n := by simp [marksP]
theorem marksP_get {n i : Nat} (h : i < n) : (marksP n)[i]? = some ⟨1 + 2 * (i : Int), 1 + 2 * (i : Int) + 1⟩ := by simp [marksP, h]
theorem rdP_some {xs : List S37} {i : Nat} {v : S37} (h : xs[i]? = some v) : rd_T37 xs (i : Int) = v := by
  unfold rd_T37
  simp [List.getD_eq_getElem?_getD, h]
theorem laws_markPointS.l0_ok (n : Nat) (hn : n ≤ 140737488355328) : ∀ (d k i : Nat) (out : List S37), i + d = n → out.length = n → out.take i = (marksP n).take i → d < k → laws_markPointS.l0 k out (1 + 2 * (i : Int)) (i : Int) = some (1 + 2 * (n : Int), marksP n) := by
  intro d
  induction d with
  | zero =>
    intro k i out hi hl ht hk
    obtain ⟨k, rfl⟩ : ∃ m, k = m + 1 := ⟨k - 1, by omega⟩
    simp only [laws_markPointS.l0]
    rw [if_neg (by omega), take_all ht (by omega) (by rw [marksP_length]; omega)]
    congr 2; omega
  | succ d ih =>
    intro k i out hi hl ht hk
    obtain ⟨k, rfl⟩ : ∃ m, k = m + 1 := ⟨k - 1, by omega⟩
    simp only [laws_markPointS.l0]
    rw [if_pos (by omega), if_pos (by omega)]
    simp only [Option.bind_some]
    rw [w64_succ (n := n) (by omega) (by omega), w64 (n := 1 + 2 * (i : Int) + 1) (by omega) (by omega), w64 (n := 1 + 2 * (i : Int) + 1 + 1) (by omega) (by omega), show (1 + 2 * (i : Int) + 1 + 1) = 1 + 2 * ((i + 1 : Nat) : Int) by omega, List.set_set]
    refine ih k (i + 1) _ (by omega) (by simpa using hl) ?_ (by omega)
    refine take_set_succ (by rw [marksP_length]; omega) (by rw [marksP_length]; omega) ht ?_
    rw [rdP_some (v := ⟨1 + 2 * (i : Int), (rd_T37 out (i : Int)).f1⟩) (by rw [Int.toNat_natCast, List.getElem?_set_self (by omega)])]
    exact marksP_get (by omega)
theorem laws_markPointS.ok (l : List S37) (hn : l.length ≤ 140737488355328) (k : Nat) (hk : l.length < k) : laws_markPointS.f k l 1 = some (1 + 2 * (l.length : Int), marksP l.length) := by
  unfold laws_markPointS.f
  exact laws_markPointS.l0_ok l.length hn l.length k 0 l (by omega) rfl (by simp) hk
theorem laws_heldPointS.l0_ok (n : Nat) (hn : n ≤ 140737488355328) : ∀ (d k i : Nat), i + d = n → d < k → laws_heldPointS.l0 k (marksP n) (1 + 2 * (i : Int)) (i : Int) = some (1 + 2 * (n : Int)) := by
  intro d
  induction d with
  | zero =>
    intro k i hi hk
    obtain ⟨k, rfl⟩ : ∃ m, k = m + 1 := ⟨k - 1, by omega⟩
    simp only [laws_heldPointS.l0]
    rw [if_neg (by rw [marksP_length]; omega)]
    congr 1; omega
  | succ d ih =>
    intro k i hi hk
    obtain ⟨k, rfl⟩ : ∃ m, k = m + 1 := ⟨k - 1, by omega⟩
    simp only [laws_heldPointS.l0]
    rw [if_pos (by rw [marksP_length]; omega), if_pos (by omega), rdP_some (marksP_get (by omega)), w64_succ (n := n) (by omega) (by omega), w64 (n := 1 + 2 * (i : Int) + 1) (by omega) (by omega), w64 (n := 1 + 2 * (i : Int) + 1 + 1) (by omega) (by omega), show (1 + 2 * (i : Int) + 1 + 1) = 1 + 2 * ((i + 1 : Nat) : Int) by omega, if_pos rfl, if_pos rfl]
    exact ih k (i + 1) (by omega) (by omega)
theorem laws_heldPointS.ok (n : Nat) (hn : n ≤ 140737488355328) (k : Nat) (hk : n < k) : laws_heldPointS.f k (marksP n) 1 = some (1 + 2 * (n : Int)) := by
  unfold laws_heldPointS.f
  exact laws_heldPointS.l0_ok n hn n k 0 (by omega) hk
theorem FnExactTurnRing (l : List S39) (hn : l.length ≤ 9223372036854775807) : ∃ k, laws_FnExactTurnRing.f k l = some true := by
  refine ⟨l.length + 30, ?_⟩
  unfold laws_FnExactTurnRing.f
  rw [laws_szPointS.eq l 1048576 hn (by omega) (by omega)]
  by_cases h : (1048576 : Int) < (l.length : Int)
  · rw [if_pos h]; rfl
  · rw [if_neg h]
    have hp := toP_length l
    have hr : (turn1 (toP l)).length = l.length := by rw [turn1_length, hp]
    have neg : ∀ m : Nat, ¬ (1 + 2 * (m : Int) < 0) := fun m => by omega
    simp only [Option.bind_some]
    rw [if_neg (by omega), laws_toPointS.ok l (by omega) _ (by omega)]
    generalize hP : toP l = P at hp hr ⊢
    simp only [Option.bind_some]
    rw [spec_TurnRing.ok P (by omega) _ (by omega), impl_TurnRing.ok P (by omega)]
    simp only [Option.bind_some]
    rw [laws_eqPointS.same (turn1 P) (by omega) _ (by omega)]
    simp only [Option.bind_some, if_true]
    rw [laws_eqPointS.same P (by omega) _ (by omega)]
    simp only [Option.bind_some, if_true]
    rw [laws_markPointS.ok P (by omega) _ (by omega)]
    simp only [Option.bind_some, neg, if_false, Bool.not_true]
    simp only [laws_FnExactTurnRing.j0]
    rw [if_neg (by simp), laws_markPointS.ok (turn1 P) (by omega) _ (by omega)]
    simp only [Option.bind_some]
    rw [laws_heldPointS.ok (turn1 P).length (by omega) _ (by omega)]
    simp only [Option.bind_some, neg, if_false, if_true]
    rw [laws_toPointS.ok l (by omega) _ (by omega), hP]
    simp only [Option.bind_some]
    rw [impl_TurnRing.ok P (by omega)]
    simp only [Option.bind_some]
    rw [laws_eqPointS.same (turn1 P) (by omega) _ (by omega)]
    simp only [Option.bind_some, if_true]

end Go.Proofs.Ytonocoedbihfeaa.Pure
