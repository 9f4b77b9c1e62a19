/- Rows of points, cell by cell, and what is proved by hand of functions of the library at them. -/
import Derived.Test.YtonocoedbihfeaaQFnExactTurnRingx0
import Derived.Shelf.SlicesQ.Reverse
import Derived.Lib.SliceRun
namespace Go.Proofs.Ytonocoedbihfeaa.PFnExactTurnRing
open Go.RowKit Go.Shelf Go.Proofs.YtonocoedbihfeaaW.PrintWords Go.Proofs.YtonocoedbihfeaaW.PrintLast Go.Proofs.YtonocoedbihfeaaW.PrintMore Go.Sort
set_option linter.unusedVariables false
set_option linter.unusedSimpArgs false
def Try.reverseP_ren : Go.Shelf.Ren := ⟨fun | 35 => 22 | n => n, fun | 22 => 24 | 23 => 37 | 3 => 3 | 4 => 4 | 0 => 0 | n => n, fun | n => n⟩
theorem Try.reverseP : Go.Proofs.SlLaysE0.n35 Try.prog Try.reverseP_ren := {
  mixed := by kernel_rfl
  f35 := ⟨Try.f22.name, by decide, Try.func22.trans (congrArg some (by kernel_rfl))⟩
  t0 := Try.underlying0
  a0 := Try.isAgg0
  z0 := Try.sizeOf0
  v0 := Try.zeroValue0
  t3 := Try.underlying3
  a3 := Try.isAgg3
  z3 := Try.sizeOf3
  v3 := Try.zeroValue3
  t4 := Try.underlying4
  a4 := Try.isAgg4
  z4 := Try.sizeOf4
  v4 := Try.zeroValue4
  t22 := Try.underlying24
  a22 := Try.isAgg24
  z22 := Try.sizeOf24
  v22 := Try.zeroValue24 }
/-- A point's two cells. -/
def encP (x : S37) : List Value := [.int .i64 x.f0, .int .i64 x.f1]
theorem encP_one (x : S37) : ∀ v ∈ encP x, v.oneCell' = true := by
  intro v hv
  simp only [encP, List.mem_cons, List.not_mem_nil, or_false] at hv
  rcases hv with rfl | rfl <;> rfl
instance : Inhabited S37 := ⟨z37⟩
/-- A row of points of one's own, cell by cell. -/
theorem own_cells {W : World} {base g n cap : Nat} {ok : Nat → Prop} {xs : List S37} (h : Kd.R k37 37 W base ok (.slice (some ⟨g, 0, none⟩) n cap) xs) :
    ∃ cur : Array Value, W.heap[g]? = some (.cells cur 37 (0, 0)) ∧ base ≤ g ∧ ok g ∧ n = xs.length ∧ n ≤ cap ∧ cap ≤ maxLen ∧ cur.size = cap * 2 ∧
      ∀ j x, xs[j]? = some x → cur[j * 2]? = some (.int .i64 x.f0) ∧ cur[j * 2 + 1]? = some (.int .i64 x.f1) := by
  have hn := (Kd.R_reads' h).1
  obtain ⟨hok, inner, ho, hr⟩ := h
  obtain ⟨ho1, ho2⟩ := ho
  rcases ho2 with ⟨hv, _⟩ | ⟨g', cap', cur, hv, hb, hh, hnc, hcm, hcs, ht⟩
  · cases hv
  injection hv with ha _ hc
  injection ha with ha
  injection ha with hg
  subst hg; subst hc
  have hz : (k37).sz = 2 := rfl
  rw [hz] at hcs ht hr
  refine ⟨cur, hh, hb, hok g rfl, hn, by omega, hcm, hcs, fun j x hj => ?_⟩
  have hM := hr.2 j x hj
  have hjl : j < xs.length := by
    rcases Nat.lt_or_ge j xs.length with h | h
    · exact h
    · rw [List.getElem?_eq_none h] at hj; cases hj
  have e := k37_openM hM
  have get : ∀ q, q < xs.length * 2 → cur[q]? = inner[q]? := fun q hq => by
    rw [← ht, List.getElem?_take, if_pos hq, Array.getElem?_toList]
  have e0 := congrArg (fun l => l[0]?) e
  have e1 := congrArg (fun l => l[1]?) e
  simp only [List.getElem?_take, List.getElem?_drop, List.getElem?_cons_zero, List.getElem?_cons_succ] at e0 e1
  rw [if_pos (by omega)] at e0 e1
  exact ⟨by rw [get _ (by omega)]; simpa using e0, by rw [get _ (by omega)]; simpa using e1⟩
/-- .. and back. -/
theorem own_mk {W : World} {base g n cap : Nat} {ok : Nat → Prop} {xs : List S37} {cur : Array Value} (hh : W.heap[g]? = some (.cells cur 37 (0, 0))) (hb : base ≤ g) (hok : ok g) (hn : n = xs.length) (hnc : n ≤ cap) (hcm : cap ≤ maxLen) (hcs : cur.size = cap * 2)
    (hc : ∀ j x, xs[j]? = some x → cur[j * 2]? = some (.int .i64 x.f0) ∧ cur[j * 2 + 1]? = some (.int .i64 x.f1)) : Kd.R k37 37 W base ok (.slice (some ⟨g, 0, none⟩) n cap) xs := by
  subst hn
  have hlen : cur.toList.length = cap * 2 := by rw [Array.length_toList]; exact hcs
  refine ⟨fun k hk => by simp only [Value.ownBlock, Option.some.injEq] at hk; exact hk ▸ hok, cur.toList.take (xs.length * 2), ⟨?_, .inr ⟨g, cap, cur, rfl, hb, hh, hnc, hcm, hcs, rfl⟩⟩, ?_, fun j x hj => ?_⟩
  · show (cur.toList.take (xs.length * 2)).length = xs.length * 2
    rw [List.length_take, hlen]; omega
  · show (cur.toList.take (xs.length * 2)).length = xs.length * 2
    rw [List.length_take, hlen]; omega
  · have hjl : j < xs.length := by
      rcases Nat.lt_or_ge j xs.length with h | h
      · exact h
      · rw [List.getElem?_eq_none h] at hj; cases hj
    obtain ⟨h0, h1⟩ := hc j x hj
    have e : ((cur.toList.take (xs.length * 2)).drop (j * 2)).take 2 = [.int .i64 x.f0, .int .i64 x.f1] := by
      apply List.ext_getElem?
      intro q
      rw [List.getElem?_take, List.getElem?_drop, List.getElem?_take, Array.getElem?_toList]
      match q with
      | 0 => rw [if_pos (by omega), if_pos (by omega)]; exact h0
      | 1 => rw [if_pos (by omega), if_pos (by omega)]; exact h1
      | q + 2 => rw [if_neg (by omega)]; rfl
    show (k37).M W base _ x (((cur.toList.take (xs.length * 2)).drop (j * 2)).take 2)
    rw [e]
    exact k37_mkM _ _ _ x
theorem revtail_holds {W : World} {base g n cap : Nat} {ok : Nat → Prop} {x : S37} {r : List S37} (h : Kd.R k37 37 W base ok (.slice (some ⟨g, 0, none⟩) n cap) (x :: r)) : HoldsK encP 2 W g 2 r.toArray := by
  obtain ⟨cur, hh, hb, hok, hn, hnc, hcm, hcs, hc⟩ := own_cells h
  intro j hj
  rw [size_flatK, List.size_toArray] at hj
  refine ⟨?_, blk_frozen hh _⟩
  rw [cell_of_row W g _ cur _ _ hh, get_flatK _ _ _ _ (by rw [List.size_toArray]; exact hj)]
  have hi : j / 2 < r.length := by omega
  obtain ⟨h0, h1⟩ := hc (j / 2 + 1) r[j / 2] (by rw [List.getElem?_cons_succ, List.getElem?_eq_getElem hi])
  have hg : r.toArray[j / 2]! = r[j / 2] := by
    rw [getElem!_pos r.toArray (j / 2) (by rw [List.size_toArray]; exact hi)]
    simp
  rw [hg]
  rcases Nat.mod_two_eq_zero_or_one j with c | c
  · rw [c, show 2 + j = (j / 2 + 1) * 2 by omega, h0]; rfl
  · rw [c, show 2 + j = (j / 2 + 1) * 2 + 1 by omega, h1]; rfl
theorem revtail_put {W : World} {base g n cap : Nat} {ok : Nat → Prop} {x : S37} {r s : List S37} (h : Kd.R k37 37 W base ok (.slice (some ⟨g, 0, none⟩) n cap) (x :: r)) (hs : s.length = r.length) (m : Nat) :
    Kd.R k37 37 (putRowK encP 2 (Sort.ahead W m) g 2 s.toArray) base ok (.slice (some ⟨g, 0, none⟩) n cap) (x :: s) := by
  obtain ⟨cur, hh, hb, hok, hn, hnc, hcm, hcs, hc⟩ := own_cells h
  have hh' : (putRowK encP 2 (Sort.ahead W m) g 2 s.toArray).heap[g]? = some (.cells (putCells id 2 (flatK encP 2 s.toArray) cur) 37 (0, 0)) := by
    show ((Sort.ahead W m).heap.modify g (onCells (putCells id 2 (flatK encP 2 s.toArray))))[g]? = _
    rw [Array.getElem?_modify, if_pos rfl]
    show (W.heap[g]?).map _ = _
    rw [hh]
    rfl
  have hl : n = s.length + 1 := by rw [hn, List.length_cons, hs]
  refine own_mk hh' hb hok (by rw [List.length_cons]; exact hl) hnc hcm (by rw [← hcs]; simp [putCells]) (fun j y hj => ?_)
  have get : ∀ q, q < cur.size → (putCells id 2 (flatK encP 2 s.toArray) cur)[q]? = if 2 ≤ q ∧ q < 2 + s.length * 2 then some ((flatK encP 2 s.toArray)[q - 2]!) else cur[q]? := fun q hq => by
    simp only [putCells, Array.getElem?_mapIdx, size_flatK, List.size_toArray, Array.getElem?_eq_getElem hq, Option.map_some]
    split <;> rfl
  cases j with
  | zero =>
    obtain rfl : x = y := by simpa using hj
    obtain ⟨h0, h1⟩ := hc 0 x rfl
    rw [get _ (by omega), get _ (by omega), if_neg (by omega), if_neg (by omega)]
    exact ⟨h0, h1⟩
  | succ j =>
    rw [List.getElem?_cons_succ] at hj
    have hjl : j < s.length := by
      rcases Nat.lt_or_ge j s.length with h | h
      · exact h
      · rw [List.getElem?_eq_none h] at hj; cases hj
    have hy : s.toArray[j]! = y := by
      rw [getElem!_pos s.toArray j (by rw [List.size_toArray]; exact hjl)]
      rw [List.getElem?_eq_getElem hjl] at hj
      simpa using hj
    rw [get _ (by omega), get _ (by omega), if_pos (by omega), if_pos (by omega), get_flatK _ _ _ _ (by rw [List.size_toArray]; omega), get_flatK _ _ _ _ (by rw [List.size_toArray]; omega)]
    rw [show ((j + 1) * 2 - 2) / 2 = j by omega, show ((j + 1) * 2 - 2) % 2 = 0 by omega, show ((j + 1) * 2 + 1 - 2) / 2 = j by omega, show ((j + 1) * 2 + 1 - 2) % 2 = 1 by omega, hy]
    exact ⟨rfl, rfl⟩
theorem revtail_below {B : Nat} {W0 W : World} {g : Nat} (h : Below B W0 W) (hg : B ≤ g) (s : Array S37) (m : Nat) : Below B W0 (putRowK encP 2 (Sort.ahead W m) g 2 s) := by
  refine h.trans ⟨rfl, rfl, rfl, ?_, fun k hk => ?_⟩
  · show W.heap.size ≤ ((Sort.ahead W m).heap.modify g _).size
    rw [Array.size_modify]; exact Nat.le_refl _
  · show ((Sort.ahead W m).heap.modify g _)[k]? = _
    rw [Array.getElem?_modify, if_neg (by omega)]; rfl
theorem cut_tail {P : Program} (t e : TypeId) {i : TypeInfo} (ht : P.underlying t = some (.slice e)) (hi : P.info? e = some i) (hsz : i.size = 2) (g n c : Nat) (h1 : 1 < n) (hc : n ≤ c) :
    ∀ W : World, (Instr.slice t (.slice (some ⟨g, 0, none⟩) n c) (some (.int .i64 1)) none none).run P W = .ok (.slice (some ⟨g, 2, none⟩) (n - 1) (c - 1)) W := by
  intro W
  have h := cut_from (P := P) t e .i64 ht hi 2 hsz (some ⟨g, 0, none⟩) n c 1 (by omega) (by omega) W
  rw [if_neg (by simp; omega)] at h
  simpa [Addr.add] using h
/-- The first point stays, the others come the other way round. -/
def turn1 (l : List S37) : List S37 := l.take 1 ++ (l.drop 1).reverse
theorem own_63 {W : World} {base n cap : Nat} {A : Option Addr} {ok : Nat → Prop} {t : List S37} (h : Kd.R k37 37 W base ok (.slice A n cap) t) : t.length ≤ 9223372036854775807 := by
  have h1 := (Kd.R_reads' h).2.2
  unfold Kd.C ReadsRow at h1
  exact h1.2.1
theorem rev_calls {W : World} {base g cap : Nat} {ok : Nat → Prop} (t : List S37) (ht : 0 < t.length) (h : Kd.R k37 37 W base ok (.slice (some ⟨g, 0, none⟩) t.length cap) t) (hsz : t.length ≤ 9223372036854775807) :
    Calls Try.prog 22 #[.slice (some ⟨g, 2, none⟩) (t.length - 1) (cap - 1)] W fun e w' => e = .returned (.tuple #[]) ∧ Kd.R k37 37 w' base ok (.slice (some ⟨g, 0, none⟩) t.length cap) (turn1 t) ∧ ∀ B W0, Below B W0 W → B ≤ g → Below B W0 w' := by
  obtain ⟨x, r, rfl⟩ : ∃ x r, t = x :: r := by
    cases t with
    | nil => simp at ht
    | cons x r => exact ⟨x, r, rfl⟩
  have c := AnyQ.slices_Reverse Try.reverseP 2 Try.isAgg37 Try.sizeOf37 encP (fun _ => rfl) encP_one g 2 (cap - 1) r.toArray W (revtail_holds h) (by rw [List.size_toArray]; rw [List.length_cons] at hsz; omega)
  rw [List.size_toArray] at c
  rw [show (x :: r).length - 1 = r.length from rfl]
  refine c.mono fun e w' he => ?_
  obtain ⟨he, m, hw⟩ := he
  rw [List.reverse_toArray] at hw
  subst hw
  exact ⟨he, revtail_put h (by rw [List.length_reverse]) m, fun B W0 hb hg => revtail_below hb hg _ m⟩
end Go.Proofs.Ytonocoedbihfeaa.PFnExactTurnRing
