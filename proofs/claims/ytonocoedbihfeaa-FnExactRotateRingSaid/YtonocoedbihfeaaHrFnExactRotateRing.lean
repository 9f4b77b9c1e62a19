/- Rows of points, cell by cell, and what is proved by hand of functions of the library at them. -/
import Derived.Test.YtonocoedbihfeaaQFnExactRotateRingx0
import Derived.Test.YtonocoedbihfeaaSh
import Derived.Shelf.Spec.SlicesGrow
import Derived.Lib.SliceRun
namespace Go.Proofs.Ytonocoedbihfeaa.PFnExactRotateRing
open Go.RowKit Go.Shelf Go.Proofs.YtonocoedbihfeaaW.PrintWords Go.Proofs.YtonocoedbihfeaaW.PrintLast Go.Proofs.YtonocoedbihfeaaW.PrintMore 
set_option linter.unusedVariables false
set_option linter.unusedSimpArgs false
def Try.growP_ren : Go.Shelf.Ren := ⟨fun | 4 => 29 | n => n, fun | 22 => 24 | 25 => 37 | 3 => 3 | 4 => 4 | 9 => 9 | 20 => 20 | 0 => 0 | 2 => 3 | n => n, fun | n => n⟩
theorem Try.growP : Go.Proofs.Lays8.n4 Try.prog Try.growP_ren := {
  mixed := by kernel_rfl
  f4 := ⟨Try.f29.name, by decide, Try.func29.trans (congrArg some (by kernel_rfl))⟩
  t0 := Try.underlying0
  a0 := Try.isAgg0
  z0 := Try.sizeOf0
  v0 := Try.zeroValue0
  t3 := Try.underlying3
  a3 := Try.isAgg3
  z3 := Try.sizeOf3
  v3 := Try.zeroValue3
  t4 := Try.underlying4
  a4 := Try.isAgg4
  z4 := Try.sizeOf4
  v4 := Try.zeroValue4
  t9 := Try.underlying9
  a9 := Try.isAgg9
  z9 := Try.sizeOf9
  v9 := Try.zeroValue9
  t20 := Try.underlying20
  a20 := Try.isAgg20
  z20 := Try.sizeOf20
  v20 := Try.zeroValue20
  t22 := Try.underlying24
  a22 := Try.isAgg24
  z22 := Try.sizeOf24
  v22 := Try.zeroValue24 }
/-- A point's two cells. -/
def encP (x : S37) : List Value := [.int .i64 x.f0, .int .i64 x.f1]
theorem encP_one (x : S37) : ∀ v ∈ encP x, v.oneCell' = true := by
  intro v hv
  simp only [encP, List.mem_cons, List.not_mem_nil, or_false] at hv
  rcases hv with rfl | rfl <;> rfl
instance : Inhabited S37 := ⟨z37⟩
/-- A row of points of one's own, cell by cell. -/
theorem own_cells {W : World} {base g n cap : Nat} {ok : Nat → Prop} {xs : List S37} (h : Kd.R k37 37 W base ok (.slice (some ⟨g, 0, none⟩) n cap) xs) :
    ∃ cur : Array Value, W.heap[g]? = some (.cells cur 37 (0, 0)) ∧ base ≤ g ∧ ok g ∧ n = xs.length ∧ n ≤ cap ∧ cap ≤ maxLen ∧ cur.size = cap * 2 ∧
      ∀ j x, xs[j]? = some x → cur[j * 2]? = some (.int .i64 x.f0) ∧ cur[j * 2 + 1]? = some (.int .i64 x.f1) := by
  have hn := (Kd.R_reads' h).1
  obtain ⟨hok, inner, ho, hr⟩ := h
  obtain ⟨ho1, ho2⟩ := ho
  rcases ho2 with ⟨hv, _⟩ | ⟨g', cap', cur, hv, hb, hh, hnc, hcm, hcs, ht⟩
  · cases hv
  injection hv with ha _ hc
  injection ha with ha
  injection ha with hg
  subst hg; subst hc
  have hz : (k37).sz = 2 := rfl
  rw [hz] at hcs ht hr
  refine ⟨cur, hh, hb, hok g rfl, hn, by omega, hcm, hcs, fun j x hj => ?_⟩
  have hM := hr.2 j x hj
  have hjl : j < xs.length := by
    rcases Nat.lt_or_ge j xs.length with h | h
    · exact h
    · rw [List.getElem?_eq_none h] at hj; cases hj
  have e := k37_openM hM
  have get : ∀ q, q < xs.length * 2 → cur[q]? = inner[q]? := fun q hq => by
    rw [← ht, List.getElem?_take, if_pos hq, Array.getElem?_toList]
  have e0 := congrArg (fun l => l[0]?) e
  have e1 := congrArg (fun l => l[1]?) e
  simp only [List.getElem?_take, List.getElem?_drop, List.getElem?_cons_zero, List.getElem?_cons_succ] at e0 e1
  rw [if_pos (by omega)] at e0 e1
  exact ⟨by rw [get _ (by omega)]; simpa using e0, by rw [get _ (by omega)]; simpa using e1⟩
/-- .. and back. -/
theorem own_mk {W : World} {base g n cap : Nat} {ok : Nat → Prop} {xs : List S37} {cur : Array Value} (hh : W.heap[g]? = some (.cells cur 37 (0, 0))) (hb : base ≤ g) (hok : ok g) (hn : n = xs.length) (hnc : n ≤ cap) (hcm : cap ≤ maxLen) (hcs : cur.size = cap * 2)
    (hc : ∀ j x, xs[j]? = some x → cur[j * 2]? = some (.int .i64 x.f0) ∧ cur[j * 2 + 1]? = some (.int .i64 x.f1)) : Kd.R k37 37 W base ok (.slice (some ⟨g, 0, none⟩) n cap) xs := by
  subst hn
  have hlen : cur.toList.length = cap * 2 := by rw [Array.length_toList]; exact hcs
  refine ⟨fun k hk => by simp only [Value.ownBlock, Option.some.injEq] at hk; exact hk ▸ hok, cur.toList.take (xs.length * 2), ⟨?_, .inr ⟨g, cap, cur, rfl, hb, hh, hnc, hcm, hcs, rfl⟩⟩, ?_, fun j x hj => ?_⟩
  · show (cur.toList.take (xs.length * 2)).length = xs.length * 2
    rw [List.length_take, hlen]; omega
  · show (cur.toList.take (xs.length * 2)).length = xs.length * 2
    rw [List.length_take, hlen]; omega
  · have hjl : j < xs.length := by
      rcases Nat.lt_or_ge j xs.length with h | h
      · exact h
      · rw [List.getElem?_eq_none h] at hj; cases hj
    obtain ⟨h0, h1⟩ := hc j x hj
    have e : ((cur.toList.take (xs.length * 2)).drop (j * 2)).take 2 = [.int .i64 x.f0, .int .i64 x.f1] := by
      apply List.ext_getElem?
      intro q
      rw [List.getElem?_take, List.getElem?_drop, List.getElem?_take, Array.getElem?_toList]
      match q with
      | 0 => rw [if_pos (by omega), if_pos (by omega)]; exact h0
      | 1 => rw [if_pos (by omega), if_pos (by omega)]; exact h1
      | q + 2 => rw [if_neg (by omega)]; rfl
    show (k37).M W base _ x (((cur.toList.take (xs.length * 2)).drop (j * 2)).take 2)
    rw [e]
    exact k37_mkM _ _ _ x
/-- slices.Grow of no slice at all: an empty row of one's own. -/
theorem grow_calls (n : Nat) (hn : 0 < n) (hm : n ≤ 1048576) (w : World) :
    Calls Try.prog 29 #[.slice none 0 0, .int .i64 (n : Int)] w fun e w' => ∃ v, e = .returned v ∧ Kd.R k37 37 w' w.heap.size (fun _ => True) v [] ∧ Below w.heap.size w w' := by
  obtain ⟨i0, hi0, hz0, hsz0, hbytes⟩ := info_parts info37
  have c := Any8.slices_Grow_grow Try.growP i0 _ hi0 hz0 (by omega) none 0 0 n [] w (Nat.le_refl _) (by omega) (by rw [hbytes]; omega) (by omega) (by simp) (fun _ => rfl) (fun a h => by cases h)
  refine c.mono fun e w' he => ?_
  obtain ⟨he, hw⟩ := he
  rw [show Try.growP_ren.t 25 = 37 from rfl] at he hw
  rw [Nat.zero_add] at he hw
  have hg := grownCap_ge w n 0 37
  have hcap : grownCap w n 0 37 ≤ maxLen := grownCap_le_maxLen w n 0 37 (by unfold maxLen; omega)
  subst hw
  refine ⟨_, he, ?_, below_alloc (below_drew1 (Below.refl _ _)) _⟩
  generalize grownCap w n 0 37 = G at hg hcap ⊢
  refine own_mk (cur := _) (heap_alloc_new w.drew _) (Nat.le_refl _) trivial rfl (Nat.zero_le _) hcap ?_ (fun j x hj => by simp at hj)
  simp [Builtin.zeroCells, Value.cells]
  omega
/-- The loop that adds the lengths. -/
def CatSum (n1 n2 : Nat) (s t : Value) : Prop := (t = .int .i64 0 ∧ s = .int .i64 0) ∨ (t = .int .i64 1 ∧ s = .int .i64 (n1 : Int)) ∨ (t = .int .i64 2 ∧ s = .int .i64 ((n1 + n2 : Nat) : Int))
/-- The loop that appends. -/
def CatRows (w : World) (l1 l2 : List S37) (k : Nat) (s t : Value) (w' : World) : Prop :=
  (k = 2 ∧ t = .int .i64 0 ∧ Kd.R k37 37 w' w.heap.size (fun _ => True) s [] ∧ Below w.heap.size w w') ∨
  (k = 1 ∧ t = .int .i64 1 ∧ Kd.R k37 37 w' w.heap.size (fun _ => True) s l1 ∧ Below w.heap.size w w') ∨
  (k = 0 ∧ t = .int .i64 2 ∧ Kd.R k37 37 w' w.heap.size (fun _ => True) s (l1 ++ l2) ∧ Below w.heap.size w w')
set_option maxHeartbeats 8000000 in
set_option maxRecDepth 100000 in
/-- slices.Concat of two slices that are read. -/
theorem concat_calls (g : Nat) (A1 A2 : Option Addr) (n1 n2 c1 c2 : Nat) (l1 l2 : List S37) (w : World) (hb : w.heap[g]? = some (.cells #[.slice A1 n1 c1, .slice A2 n2 c2] 24 (0, 0)))
    (h1 : Kd.C k37 w A1 n1 l1) (hc1 : n1 ≤ c1) (h2 : Kd.C k37 w A2 n2 l2) (hc2 : n2 ≤ c2) (hn : n1 + n2 ≤ 1048576) (hp : 0 < n1 + n2) :
    Calls Try.prog 25 #[.slice (some ⟨g, 0, none⟩) 2 2] w fun e w' => ∃ v0_ : Value, e = .returned v0_ ∧ Kd.R k37 37 w' w.heap.size (fun _ => True) v0_ (l1 ++ l2) ∧ Below w.heap.size w w' := by
  have x0 : w.cell? ⟨g, 0, none⟩ = some (.slice A1 n1 c1) := by rw [cell_of_row w g _ _ _ _ hb]; rfl
  have x1 : w.cell? ⟨g, 1, none⟩ = some (.slice A2 n2 c2) := by rw [cell_of_row w g _ _ _ _ hb]; rfl
  have hlt : g < w.heap.size := blk_lt hb
  have e1 : l1.length = n1 := by obtain ⟨e, _⟩ := h1; exact e
  have e2 : l2.length = n2 := by obtain ⟨e, _⟩ := h2; exact e
  have X0 := Aside0.mk x0
  have X1 := Aside0.mk x1
  have H1 := Aside0.mk h1
  have H2 := Aside0.mk h2
  have HN := Aside0.mk (And.intro hn hp)
  have HL := Aside0.mk hlt
  have HE := Aside0.mk (And.intro e1 e2)
  have d1 : decide ((n1 : Int) < 0) = false := decide_eq_false (by omega)
  have d2 : decide ((n1 : Int) + (n2 : Int) < 0) = false := decide_eq_false (by omega)
  have w0 : wrap64 (n1 : Int) = (n1 : Int) := by unfold wrap64; omega
  have w1 : wrap64 (0 + (n1 : Int)) = (n1 : Int) := by unfold wrap64; omega
  have w2 : wrap64 ((n1 : Int) + (n2 : Int)) = (n1 : Int) + (n2 : Int) := by unfold wrap64; omega
  clear hb h1 h2 hn hp hlt e1 e2 hc1 hc2
  go_enter Try.func25, Try.ntmps25
  go_wp2
  go_loop [3, 11] (fun s t => CatSum n1 n2 s t) (fun _ t => (2 - intOf t).toNat)
  case atStart => exact .inl ⟨rfl, rfl⟩
  case round =>
    rcases hrel with ⟨rfl, rfl⟩ | ⟨rfl, rfl⟩ | ⟨rfl, rfl⟩
    · go_wp2
      go_round
      case rel => exact .inr (.inl ⟨rfl, by first | rfl | (simp; done) | go_num⟩)
      case measure => simp [intOf]
    · go_wp2
      go_round
      case rel => exact .inr (.inr ⟨rfl, by first | rfl | (simp; done) | go_num⟩)
      case measure => simp [intOf]
    · have G := fun W => grow_calls (n1 + n2) HN.out.2 HN.out.1 W
      rw [Int.natCast_add] at G
      have HG := Aside0.mk G
      clear G
      go_wp2_with (first | ((with_reducible refine gate_callee (f := 29) rfl ?_); refine goesL_ (some 24) rfl rfl Try.func29 (by kernel_rfl) rfl #[.slice none 0 0, .int .i64 ((n1 : Int) + (n2 : Int))] rfl (by (try simp only [List.map_toArray, List.map_cons, List.map_nil]); first | done | rfl) ?_; (with_reducible refine (HG.out _).mono ?_); rintro e w3 ⟨v0, rfl, ho0, hb⟩; refine ⟨_, rfl, ?_⟩; have HO := Aside0.mk ho0; have HB := Aside0.mk hb; clear ho0 hb))
      go_loopg [6, 27] 2 (fun k s t w' => CatRows w l1 l2 k s t w')
      case atStart => exact .inl ⟨rfl, rfl, HO.out, HB.out⟩
      case round =>
        clear HO HB
        rcases hrel with ⟨rfl, rfl, ho, hb⟩ | ⟨rfl, rfl, ho, hb⟩ | ⟨rfl, rfl, ho, hb⟩
        · have y0 : wr.cell? ⟨g, 0, none⟩ = some (.slice A1 n1 c1) := (hb.cell HL.out).trans X0.out
          have HO := Aside0.mk ho
          have HB := Aside0.mk hb
          clear ho hb
          go_wp2_with ((first | ((with_reducible refine gate_builtin (b := .append) (xs := #[.tmp 31, .tmp 32]) rfl ?_); at_builtin; refine Kd.R_append_rows k37 (w0 := w) w.heap.size rfl (.tmp 31) (.tmp 32) 24 37 (.agg #[(.int .i64 0), (.int .i64 0)]) 16 rfl Try.underlying24 info37 rfl (by decide) (by omega) _ [] l1 _ _ _ (fun _ => True) (fun _ => False) rfl rfl ?aO ?aR (fun _ _ h => h) (fun _ h => h.elim) ?aF ?aB ?aS ?aL ?_; (case aR => exact Kd.C_below H1.out (Below.mono HB.out (Nat.le_refl _))); (case aB => exact HB.out); (case aF => exact (fun _ _ => trivial)); (case aO => exact HO.out); (case aS => exact HB.out.size); (case aL => have := HN.out.1; simp; omega); intro v5 w5 ho hb hg hat; have HO5 := Aside0.mk ho; have HB5 := Aside0.mk hb; clear ho hb hg hat)))
          go_roundg 1
          case measure => omega
          case rel => exact .inr (.inl ⟨rfl, rfl, HO5.out, HB5.out⟩)
        · have y1 : wr.cell? ⟨g, 1, none⟩ = some (.slice A2 n2 c2) := (hb.cell HL.out).trans X1.out
          have HO := Aside0.mk ho
          have HB := Aside0.mk hb
          clear ho hb
          go_wp2_with ((first | ((with_reducible refine gate_builtin (b := .append) (xs := #[.tmp 31, .tmp 32]) rfl ?_); at_builtin; refine Kd.R_append_rows k37 (w0 := w) w.heap.size rfl (.tmp 31) (.tmp 32) 24 37 (.agg #[(.int .i64 0), (.int .i64 0)]) 16 rfl Try.underlying24 info37 rfl (by decide) (by omega) _ l1 l2 _ _ _ (fun _ => True) (fun _ => False) rfl rfl ?aO ?aR (fun _ _ h => h) (fun _ h => h.elim) ?aF ?aB ?aS ?aL ?_; (case aR => exact Kd.C_below H2.out (Below.mono HB.out (Nat.le_refl _))); (case aB => exact HB.out); (case aF => exact (fun _ _ => trivial)); (case aO => exact HO.out); (case aS => exact HB.out.size); (case aL => have h3 := HN.out.1; have h4 := HE.out.1; omega); intro v5 w5 ho hb hg hat; have HO5 := Aside0.mk ho; have HB5 := Aside0.mk hb; clear ho hb hg hat)))
          go_roundg 0
          case measure => omega
          case rel => exact .inr (.inr ⟨rfl, rfl, HO5.out, HB5.out⟩)
        · have HO := Aside0.mk ho
          have HB := Aside0.mk hb
          clear ho hb
          go_wp2
          go_ret
          exact ⟨_, rfl, HO.out, HB.out⟩
end Go.Proofs.Ytonocoedbihfeaa.PFnExactRotateRing
