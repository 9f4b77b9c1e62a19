/- A line turned is as much a line, as simple, as long; turned twice it is the same; lines meet alike in both orders and turned; its segments are as they should be: the law returns true for every slice of bytes that it draws from. -/
import Derived.Test.YtomkdfpcckgajaaQFnLinesx11
import Derived.Test.YtomkdfpcckgajaaBase
import Derived.Test.YtomkdfpcckgajaaGeo
import Derived.Test.YtomkdfpcckgajaaHw
import Derived.Test.YtomkdfpcckgajaaLn
import Derived.Test.YtomkdfpcckgajaaLst
import Derived.Test.YtomkdfpcckgajaaRv
namespace Go.Proofs.Ytomkdfpcckgajaa.Pure
open Go Go.RowKit Go.Proofs.Ytomkdfpcckgajaa.PFnLines Go.Proofs.YtomkdfpcckgajaaW.PrintWords Go.Proofs.YtomkdfpcckgajaaW.PrintLast Go.Proofs.YtomkdfpcckgajaaW.PrintMore Go.Proofs.Ytomkdfpcckgajaa.Base Go.Proofs.Ytomkdfpcckgajaa.Geo Go.Proofs.Ytomkdfpcckgajaa.Hw Go.Proofs.Ytomkdfpcckgajaa.Ln Go.Proofs.Ytomkdfpcckgajaa.Lst Go.Proofs.Ytomkdfpcckgajaa.Rv
set_option linter.unusedVariables false
set_option linter.unusedSimpArgs false
def pts (l : List S36) : List Pt := l.map fun x => (x.f0, x.f1)
theorem pts_length (l : List S36) : (pts l).length = l.length := by simp [pts]
theorem at_pts (l : List S36) (i : Nat) : at_ (pts l) i = ((rd_T36 l (i : Int)).f0, (rd_T36 l (i : Int)).f1) := by
  unfold at_ pts rd_T36
  simp only [List.getD_eq_getElem?_getD, List.getElem?_map, Int.toNat_natCast]
  cases l[i]? <;> rfl
theorem rdP_get {l : List S36} {i : Nat} (h : i < l.length) : l[i]? = some (rd_T36 l (i : Int)) := by
  unfold rd_T36
  simp [List.getD_eq_getElem?_getD, h]
theorem rdP_drop {l : List S36} {i : Nat} (h : i < l.length) : l.drop i = rd_T36 l (i : Int) :: l.drop (i + 1) := by
  have e := rdP_get h
  rw [List.getElem?_eq_getElem h] at e
  rw [List.drop_eq_getElem_cons h, Option.some.inj e]
theorem pt_eta (x : S36) : (⟨x.f0, x.f1⟩ : S36) = x := rfl
theorem pt_ext {x y : S36} (h0 : x.f0 = y.f0) (h1 : x.f1 = y.f1) : x = y := by cases x; cases y; simp_all
theorem w64_pred {i : Nat} (h0 : 0 < i) (hn : i ≤ 140737488355328) : wrap64 ((i : Int) - 1) = ((i - 1 : Nat) : Int) := by
  rw [w64 (by omega) (by omega)]; omega
def sgs (l : List S38) : List Sg := l.map fun x => ((x.f0.f0, x.f0.f1), (x.f1.f0, x.f1.f1))
theorem sgs_length (l : List S38) : (sgs l).length = l.length := by simp [sgs]
theorem at_sgs (l : List S38) (i : Nat) : sgAt (sgs l) i = (((rd_T38 l (i : Int)).f0.f0, (rd_T38 l (i : Int)).f0.f1), ((rd_T38 l (i : Int)).f1.f0, (rd_T38 l (i : Int)).f1.f1)) := by
  unfold sgAt sgs rd_T38
  simp only [List.getD_eq_getElem?_getD, List.getElem?_map, Int.toNat_natCast]
  cases l[i]? <;> rfl
theorem rdG_get {l : List S38} {i : Nat} (h : i < l.length) : l[i]? = some (rd_T38 l (i : Int)) := by
  unfold rd_T38
  simp [List.getD_eq_getElem?_getD, h]
theorem rdG_drop {l : List S38} {i : Nat} (h : i < l.length) : l.drop i = rd_T38 l (i : Int) :: l.drop (i + 1) := by
  have e := rdG_get h
  rw [List.getElem?_eq_getElem h] at e
  rw [List.drop_eq_getElem_cons h, Option.some.inj e]
theorem sgs_drop {l : List S38} {i : Nat} (h : i < l.length) : (sgs l).drop i = (((rd_T38 l (i : Int)).f0.f0, (rd_T38 l (i : Int)).f0.f1), ((rd_T38 l (i : Int)).f1.f0, (rd_T38 l (i : Int)).f1.f1)) :: (sgs l).drop (i + 1) := by
  unfold sgs
  rw [← List.map_drop, ← List.map_drop, rdG_drop h]
  rfl
/-- The segments of a line, as the program lays them. -/
def segL (l : List S36) : List S38 := (List.range (l.length - 1)).map fun j => ⟨⟨(rd_T36 l ((j : Nat) : Int)).f0, (rd_T36 l ((j : Nat) : Int)).f1⟩, ⟨(rd_T36 l ((j + 1 : Nat) : Int)).f0, (rd_T36 l ((j + 1 : Nat) : Int)).f1⟩⟩
theorem segL_length (l : List S36) : (segL l).length = l.length - 1 := by simp [segL]
theorem sgs_segL (l : List S36) : sgs (segL l) = segsOf (pts l) := by
  unfold sgs segL segsOf
  rw [List.map_map, pts_length]
  apply List.map_congr_left
  intro j _
  simp [at_pts]
theorem segL_take {l : List S36} {i : Nat} (h0 : 1 ≤ i) (h : i < l.length) : (segL l).take i = (segL l).take (i - 1) ++ [⟨⟨(rd_T36 l ((i - 1 : Nat) : Int)).f0, (rd_T36 l ((i - 1 : Nat) : Int)).f1⟩, ⟨(rd_T36 l (i : Int)).f0, (rd_T36 l (i : Int)).f1⟩⟩] := by
  obtain ⟨j, rfl⟩ : ∃ j, i = j + 1 := ⟨i - 1, by omega⟩
  rw [List.take_add_one]
  congr 1
  have hj : j < l.length - 1 := by omega
  simp [segL, hj]
theorem laws_big.eq (l : List Int) : laws_big.f l = some (decide ((l.length : Int) > 1048576)) := rfl
theorem spec_l1New.l0_ok (l : List Int) (hn : l.length ≤ 140737488355328) : ∀ (d k i : Nat) (h : Int), i + d = l.length → d < k → ∃ h', spec_l1New.l0 k l h (i : Int) = some (l, 0, h') := by
  intro d
  induction d with
  | zero =>
    intro k i h hi hk
    obtain ⟨k, rfl⟩ : ∃ m, k = m + 1 := ⟨k - 1, by omega⟩
    simp only [spec_l1New.l0]
    rw [if_neg (by omega)]
    exact ⟨_, rfl⟩
  | succ d ih =>
    intro k i h hi hk
    obtain ⟨k, rfl⟩ : ∃ m, k = m + 1 := ⟨k - 1, by omega⟩
    simp only [spec_l1New.l0]
    rw [if_pos (by omega)]
    by_cases h4 : (i : Int) < 4000
    · rw [if_pos h4, if_pos (by omega), w64_succ (n := l.length) (by omega) (by omega)]
      exact ih k (i + 1) _ (by omega) (by omega)
    · rw [if_neg h4]
      exact ⟨_, rfl⟩
theorem spec_l1New.ok (l : List Int) (hn : l.length ≤ 140737488355328) (k : Nat) (hk : l.length < k) : ∃ h', spec_l1New.f k l = some (l, 0, h') := by
  unfold spec_l1New.f
  exact spec_l1New.l0_ok l hn l.length k 0 _ (by omega) hk
theorem spec_l1Byte.ok (b : List Int) (i h : Int) (hi : 0 ≤ i) : ∃ v i' h', spec_l1Byte.f b i h = some (v, i', h') ∧ 0 ≤ v ∧ v ≤ 255 ∧ (b.length ≤ 140737488355328 → 0 ≤ i') := by
  unfold spec_l1Byte.f
  by_cases hc : i < (b.length : Int)
  · rw [if_pos hc, if_pos hi]
    exact ⟨_, _, _, rfl, (mask255 _).1, (mask255 _).2, fun hb => by rw [w64 (by omega) (by omega)]; omega⟩
  · rw [if_neg hc]
    exact ⟨_, _, _, rfl, (mask255 _).1, (mask255 _).2, fun _ => hi⟩
theorem spec_l1Below.ok (b : List Int) (hb : b.length ≤ 140737488355328) (i h n : Int) (hi : 0 ≤ i) : ∃ v i' h', spec_l1Below.f b i h n = some (v, i', h') ∧ 0 ≤ i' ∧ 0 ≤ v ∧ (0 < n → v < n) ∧ (n ≤ 0 → v = 0) := by
  unfold spec_l1Below.f
  by_cases h0 : n ≤ 0
  · rw [if_pos h0]
    exact ⟨_, _, _, rfl, hi, by omega, by omega, fun _ => rfl⟩
  · rw [if_neg h0]
    obtain ⟨v, i1, h1, e1, g0, g1, g2⟩ := spec_l1Byte.ok b i h hi
    rw [e1]
    simp only [Option.bind_some]
    by_cases hc : n ≤ 256
    · rw [if_pos hc, if_neg (by omega), Int.tmod_eq_emod_of_nonneg g0]
      exact ⟨_, _, _, rfl, g2 hb, Int.emod_nonneg _ (by omega), fun _ => Int.emod_lt_of_pos _ (by omega), by omega⟩
    · rw [if_neg hc]
      obtain ⟨v2, i2, h2, e2, k0, k1, k2⟩ := spec_l1Byte.ok b i1 h1 (g2 hb)
      rw [e2]
      simp only [Option.bind_some]
      obtain ⟨v3, i3, h3, e3, m0, m1, m2⟩ := spec_l1Byte.ok b i2 h2 (k2 hb)
      rw [e3]
      simp only [Option.bind_some]
      rw [if_neg (by omega), w64 (n := v * 65536) (by omega) (by omega), w64 (n := v2 * 256) (by omega) (by omega), w64 (n := v * 65536 + v2 * 256) (by omega) (by omega), w64 (by omega) (by omega), Int.tmod_eq_emod_of_nonneg (by omega)]
      exact ⟨_, _, _, rfl, m2 hb, Int.emod_nonneg _ (by omega), fun _ => Int.emod_lt_of_pos _ (by omega), by omega⟩
theorem spec_l4Draw.ok (b : List Int) (hb : b.length ≤ 140737488355328) (i h : Int) (hi : 0 ≤ i) : ∃ x y i' h', spec_l4Draw.f b i h = some (x, y, i', h') ∧ 0 ≤ i' ∧ (0 ≤ x ∧ x ≤ 11) ∧ (0 ≤ y ∧ y ≤ 11) := by
  unfold spec_l4Draw.f
  obtain ⟨v, i1, h1, e1, g0, g1, g2, _⟩ := spec_l1Below.ok b hb i h 12 hi
  rw [e1]
  simp only [Option.bind_some]
  obtain ⟨v2, i2, h2, e2, k0, k1, k2, _⟩ := spec_l1Below.ok b hb i1 h1 12 g0
  rw [e2]
  simp only [Option.bind_some]
  have g2 := g2 (by omega)
  have k2 := k2 (by omega)
  exact ⟨_, _, _, _, rfl, k0, ⟨g1, by omega⟩, ⟨k1, by omega⟩⟩
theorem spec_l1Int.ok (b : List Int) (hb : b.length ≤ 140737488355328) (i h : Int) (hi : 0 ≤ i) (l : List Int) (hl : 0 < l.length) : ∃ v i' h', spec_l1Int.f b i h l = some (v, i', h') ∧ 0 ≤ i' ∧ v ∈ l := by
  unfold spec_l1Int.f
  obtain ⟨v, i1, h1, e1, g0, g1, g2, _⟩ := spec_l1Below.ok b hb i h (l.length : Int) hi
  have g2 := g2 (by omega)
  rw [e1]
  simp only [Option.bind_some]
  rw [if_pos g1, if_pos g2]
  refine ⟨_, _, _, rfl, g0, ?_⟩
  have e : v = ((v.toNat : Nat) : Int) := by omega
  rw [e, rd_get (show v.toNat < l.length by omega)]
  exact List.getElem_mem _
theorem spec_l4Raw.ok (b : List Int) (hb : b.length ≤ 140737488355328) (i h : Int) (hi : 0 ≤ i) : ∃ v i' h', spec_l4Raw.f b i h = some (v, i', h') ∧ 0 ≤ i' ∧ -9223372036854775808 ≤ v ∧ v ≤ 9223372036854775807 := by
  unfold spec_l4Raw.f
  obtain ⟨v2, i2, h2, e2, k0, k1⟩ := spec_l1Int.ok b hb i h hi ([(-1), 0, 200, 201, 1000, 1001, 9223372036854775807, (-9223372036854775808)] : List Int) (by simp)
  rw [e2]
  simp only [Option.bind_some]
  simp only [List.mem_cons, List.not_mem_nil, or_false] at k1
  exact ⟨_, _, _, rfl, k0, by omega, by omega⟩
theorem spec_l4Any.ok (b : List Int) (hb : b.length ≤ 140737488355328) (i h : Int) (hi : 0 ≤ i) : ∃ x y i' h', spec_l4Any.f b i h = some (x, y, i', h') ∧ 0 ≤ i' ∧ (-9223372036854775808 ≤ x ∧ x ≤ 9223372036854775807) ∧ (-9223372036854775808 ≤ y ∧ y ≤ 9223372036854775807) := by
  unfold spec_l4Any.f
  obtain ⟨x, y, i1, h1, e1, g0, gx, gy⟩ := spec_l4Draw.ok b hb i h hi
  rw [e1]
  simp only [Option.bind_some]
  obtain ⟨v, i2, h2, e2, k0, _⟩ := spec_l1Below.ok b hb i1 h1 12 g0
  rw [e2]
  simp only [Option.bind_some]
  by_cases c0 : v = 0
  · rw [if_pos c0]
    obtain ⟨z, i3, h3, e3, m0, m1, m2⟩ := spec_l4Raw.ok b hb i2 h2 k0
    rw [e3]
    simp only [Option.bind_some]
    exact ⟨_, _, _, _, rfl, m0, ⟨m1, m2⟩, ⟨by omega, by omega⟩⟩
  · rw [if_neg c0]
    by_cases c1 : v = 1
    · rw [if_pos c1]
      obtain ⟨z, i3, h3, e3, m0, m1, m2⟩ := spec_l4Raw.ok b hb i2 h2 k0
      rw [e3]
      simp only [Option.bind_some]
      exact ⟨_, _, _, _, rfl, m0, ⟨by omega, by omega⟩, ⟨m1, m2⟩⟩
    · rw [if_neg c1]
      exact ⟨_, _, _, _, rfl, k0, ⟨by omega, by omega⟩, ⟨by omega, by omega⟩⟩
theorem spec_Min.eq (a b : Int) : spec_Min.f a b = some (min a b) := by
  unfold spec_Min.f
  by_cases h : b < a
  · rw [if_pos h]; congr 1; omega
  · rw [if_neg h]; congr 1; omega
theorem spec_l6Draw.l0_ok (b : List Int) (hb : b.length ≤ 140737488355328) : ∀ (d k : Nat) (x3 : List S36) (i h : Int), 0 ≤ i → 1 ≤ x3.length → x3.length + d ≤ 50 → d < k →
    ∃ l i' h', spec_l6Draw.l0 k x3 (d : Int) b i h = some (l, i', h') ∧ 0 ≤ i' ∧ 1 ≤ l.length ∧ l.length ≤ 50 := by
  intro d
  induction d with
  | zero =>
    intro k x3 i h hi h0 h1 hk
    obtain ⟨k, rfl⟩ : ∃ m, k = m + 1 := ⟨k - 1, by omega⟩
    simp only [spec_l6Draw.l0]
    rw [if_neg (by omega)]
    exact ⟨_, _, _, rfl, hi, h0, by omega⟩
  | succ d ih =>
    intro k x3 i h hi h0 h1 hk
    obtain ⟨k, rfl⟩ : ∃ m, k = m + 1 := ⟨k - 1, by omega⟩
    simp only [spec_l6Draw.l0]
    rw [w64 (n := (x3.length : Int) - 1) (by omega) (by omega), if_pos (by omega), if_pos (by omega), if_pos (by omega)]
    obtain ⟨v, i1, h1', e1, g0, g1, g2, _⟩ := spec_l1Below.ok b hb i h 14 hi
    rw [e1]
    simp only [Option.bind_some]
    obtain ⟨u, i2, h2', e2, m0, m1, m2, _⟩ := spec_l1Below.ok b hb i1 h1' 4 g0
    rw [e2]
    simp only [Option.bind_some]
    rw [spec_Min.eq]
    simp only [Option.bind_some]
    rw [w64 (n := ((d + 1 : Nat) : Int) - 1) (by omega) (by omega), show ((d + 1 : Nat) : Int) - 1 = (d : Int) by omega]
    split
    · rw [if_pos (by omega)]
      exact ih k _ i2 h2' m0 (by simp) (by simp; omega) (by omega)
    · rw [if_pos (by omega)]
      exact ih k _ i2 h2' m0 (by simp) (by simp; omega) (by omega)
theorem spec_l6Draw.ok (b : List Int) (hb : b.length ≤ 140737488355328) (i h : Int) (hi : 0 ≤ i) (k : Nat) (hk : 20 < k) : ∃ l i' h', spec_l6Draw.f k b i h = some (l, i', h') ∧ 0 ≤ i' ∧ 1 ≤ l.length ∧ l.length ≤ 50 := by
  unfold spec_l6Draw.f
  obtain ⟨x, y, i1, h1, e1, g0, _⟩ := spec_l4Draw.ok b hb i h hi
  rw [e1]
  simp only [Option.bind_some]
  obtain ⟨n, i2, h2, e2, m0, m1, m2, _⟩ := spec_l1Below.ok b hb i1 h1 5 g0
  have m2 := m2 (by omega)
  rw [e2]
  simp only [Option.bind_some]
  rw [w64 (n := 1 + n) (by omega) (by omega)]
  obtain ⟨d, hd⟩ : ∃ d : Nat, 1 + n = (d : Int) := ⟨(1 + n).toNat, by omega⟩
  rw [hd]
  exact spec_l6Draw.l0_ok b hb d k _ i2 h2 m0 (by simp) (by simp; omega) (by omega)
theorem spec_l6Any.l0_ok (b : List Int) : ∀ (d k : Nat) (x3 : List S36) (i h : Int), 11 ≤ x3.length + d → x3.length ≤ 60 → x3.length + d ≤ 60 → d < k → ∃ l, spec_l6Any.l0 k x3 b i h = some (l, i, h) ∧ l.length ≤ 60 := by
  intro d
  induction d with
  | zero =>
    intro k x3 i h h0 h1 h2 hk
    obtain ⟨k, rfl⟩ : ∃ m, k = m + 1 := ⟨k - 1, by omega⟩
    simp only [spec_l6Any.l0]
    rw [if_neg (by omega)]
    exact ⟨_, rfl, h1⟩
  | succ d ih =>
    intro k x3 i h h0 h1 h2 hk
    obtain ⟨k, rfl⟩ : ∃ m, k = m + 1 := ⟨k - 1, by omega⟩
    simp only [spec_l6Any.l0]
    by_cases c : (x3.length : Int) < 11
    · rw [if_pos c, if_pos (by omega)]
      exact ih k _ i h (by simp; omega) (by simp; omega) (by simp; omega) (by omega)
    · rw [if_neg c]
      exact ⟨_, rfl, h1⟩
theorem spec_l6Any.ok (b : List Int) (hb : b.length ≤ 140737488355328) (i h : Int) (hi : 0 ≤ i) (k : Nat) (hk : 70 < k) : ∃ l i' h', spec_l6Any.f k b i h = some (l, i', h') ∧ 0 ≤ i' ∧ l.length ≤ 60 := by
  unfold spec_l6Any.f
  obtain ⟨l, i1, h1, e1, g0, g1, g2⟩ := spec_l6Draw.ok b hb i h hi k (by omega)
  rw [e1]
  simp only [Option.bind_some]
  obtain ⟨v, i2, h2, e2, m0, _⟩ := spec_l1Below.ok b hb i1 h1 12 g0
  rw [e2]
  simp only [Option.bind_some]
  by_cases c0 : v = 0
  · rw [if_pos c0]
    obtain ⟨x, y, i3, h3, e3, n0⟩ := spec_l4Any.ok b hb i2 h2 m0
    rw [e3]
    simp only [Option.bind_some]
    rw [if_pos (by omega)]
    exact ⟨_, _, _, rfl, n0.1, by rw [List.length_set]; omega⟩
  · rw [if_neg c0]
    by_cases c1 : v = 1
    · rw [if_pos c1, w64 (n := (l.length : Int) - 1) (by omega) (by omega), if_pos (by omega), if_pos (by omega), if_pos (by omega)]
      exact ⟨_, _, _, rfl, m0, by simp; omega⟩
    · rw [if_neg c1]
      by_cases c2 : v = 2
      · rw [if_pos c2, if_pos (by omega)]
        exact ⟨_, _, _, rfl, m0, by rw [List.length_take]; omega⟩
      · rw [if_neg c2]
        by_cases c3 : v = 3
        · rw [if_pos c3]
          by_cases c4 : l.length ≤ 11
          · obtain ⟨o, e5, q⟩ := spec_l6Any.l0_ok b (11 - l.length) k l i2 h2 (by omega) (by omega) (by omega) (by omega)
            exact ⟨_, _, _, e5, m0, q⟩
          · obtain ⟨o, e5, q⟩ := spec_l6Any.l0_ok b 0 k l i2 h2 (by omega) (by omega) (by omega) (by omega)
            exact ⟨_, _, _, e5, m0, q⟩
        · rw [if_neg c3]
          exact ⟨_, _, _, rfl, m0, by omega⟩
theorem spec_DrawIsLine.ok (l : List Int) (hn : l.length ≤ 1048576) (k : Nat) (hk : l.length + 80 < k) : ∃ p, spec_DrawIsLine.f k l = some p ∧ p.length ≤ 60 := by
  unfold spec_DrawIsLine.f
  obtain ⟨h, e⟩ := spec_l1New.ok l (by omega) k (by omega)
  rw [e]
  simp only [Option.bind_some]
  obtain ⟨p, i1, h1, e1, g0, g1⟩ := spec_l6Any.ok l (by omega) 0 h (by omega) k (by omega)
  rw [e1]
  simp only [Option.bind_some]
  exact ⟨_, rfl, g1⟩
theorem impl_Point_38.ok (l : List S36) (hn : l.length ≤ 1048576) : impl_Point_38.f l = some l := by
  unfold impl_Point_38.f
  simp only [Option.bind_some, List.length_nil, Nat.zero_add, List.nil_append]
  rw [if_pos (by omega)]
theorem impl_Point_39.l0_ok (l : List S36) (hn : l.length ≤ 140737488355328) : ∀ (d k i : Nat) (x : List S36), x.length = l.length → (∀ p, p < l.length → x[p]? = if p < i ∨ l.length - i ≤ p then l[l.length - 1 - p]? else l[p]?) → l.length ≤ i + d → 2 * i ≤ l.length + 1 → d < k →
    impl_Point_39.l0 k x (i : Int) ((l.length : Int) - 1 - (i : Int)) = some l.reverse := by
  have fin : ∀ (i : Nat) (x : List S36), x.length = l.length → (∀ p, p < l.length → x[p]? = if p < i ∨ l.length - i ≤ p then l[l.length - 1 - p]? else l[p]?) → l.length ≤ 2 * i + 1 → x = l.reverse := by
    intro i x hl hx hi
    apply List.ext_getElem?
    intro p
    by_cases hp : p < l.length
    · rw [hx p hp, List.getElem?_reverse hp]
      by_cases c : p < i ∨ l.length - i ≤ p
      · rw [if_pos c]
      · rw [if_neg c, show l.length - 1 - p = p by omega]
    · rw [List.getElem?_eq_none (by omega), List.getElem?_eq_none (by rw [List.length_reverse]; omega)]
  intro d
  induction d with
  | zero =>
    intro k i x hl hx hd hi hk
    obtain ⟨k, rfl⟩ : ∃ m, k = m + 1 := ⟨k - 1, by omega⟩
    simp only [impl_Point_39.l0]
    rw [if_neg (by omega), fin i x hl hx (by omega)]
  | succ d ih =>
    intro k i x hl hx hd hi hk
    obtain ⟨k, rfl⟩ : ∃ m, k = m + 1 := ⟨k - 1, by omega⟩
    simp only [impl_Point_39.l0]
    by_cases c : (i : Int) < (l.length : Int) - 1 - (i : Int)
    · have ej : (l.length : Int) - 1 - (i : Int) = ((l.length - 1 - i : Nat) : Int) := by omega
      rw [if_pos c, if_pos (by omega), if_pos (by omega), if_pos (by omega), if_pos (by omega), w64 (n := (i : Int) + 1) (by omega) (by omega), w64 (n := (l.length : Int) - 1 - (i : Int) - 1) (by omega) (by omega)]
      rw [show (i : Int) + 1 = ((i + 1 : Nat) : Int) by omega, show (l.length : Int) - 1 - (i : Int) - 1 = (l.length : Int) - 1 - ((i + 1 : Nat) : Int) by omega, ej]
      refine ih k (i + 1) _ (by simpa using hl) ?_ (by omega) (by omega) (by omega)
      intro p hp
      have ei := hx i (by omega)
      have eJ := hx (l.length - 1 - i) (by omega)
      rw [if_neg (by omega), rdP_get (show i < x.length by omega)] at ei
      rw [if_neg (by omega), rdP_get (show l.length - 1 - i < x.length by omega)] at eJ
      rw [Int.toNat_natCast, Int.toNat_natCast]
      by_cases c1 : p = l.length - 1 - i
      · subst c1
        rw [List.getElem?_set_self (by rw [List.length_set]; omega), if_pos (by omega), show l.length - 1 - (l.length - 1 - i) = i by omega]
        exact ei
      · rw [List.getElem?_set_ne (by omega)]
        by_cases c2 : p = i
        · subst c2
          rw [List.getElem?_set_self (by omega), if_pos (by omega)]
          exact eJ
        · rw [List.getElem?_set_ne (by omega), hx p hp]
          by_cases c3 : p < i ∨ l.length - i ≤ p
          · rw [if_pos c3, if_pos (by omega)]
          · rw [if_neg c3, if_neg (by omega)]
    · rw [if_neg c, fin i x hl hx (by omega)]
theorem impl_Point_39.ok (l : List S36) (hn : l.length ≤ 1048576) (k : Nat) (hk : l.length < k) : impl_Point_39.f k l = some l.reverse := by
  unfold impl_Point_39.f
  rw [w64 (by omega) (by omega)]
  have h := impl_Point_39.l0_ok l (by omega) l.length k 0 l rfl (fun p hp => by rw [if_neg (by omega)]) (by omega) (by omega) hk
  simpa using h
theorem impl_TurnLine.ok (l : List S36) (hn : l.length ≤ 1048576) (k : Nat) (hk : l.length < k) : impl_TurnLine.f k l = some l.reverse := by
  unfold impl_TurnLine.f
  rw [impl_Point_38.ok l hn]
  simp only [Option.bind_some]
  rw [impl_Point_39.ok l hn k hk]
  rfl
theorem impl_InRange.eq (a b c : Int) : impl_InRange.f a b c = some (decide (b ≤ a ∧ a ≤ c)) := by
  unfold impl_InRange.f
  by_cases h : b ≤ a
  · rw [if_pos h]; simp [h]
  · rw [if_neg h]; simp [h]
theorem impl_IsPoint.eq (x y : Int) : impl_IsPoint.f x y = some (isPt x y) := isPt_bind x y (impl_InRange.eq ..) (impl_InRange.eq ..)
theorem impl_IsLine.l0_ok (l : List S36) (hn : l.length ≤ 140737488355328) : ∀ (d k i : Nat), i + d = l.length → d < k → impl_IsLine.l0 k l l (l.length : Int) (i : Int) = some (B (∀ j, i ≤ j → j < l.length → good (pts l) j)) := by
  intro d
  induction d with
  | zero =>
    intro k i hi hk
    obtain ⟨k, rfl⟩ : ∃ m, k = m + 1 := ⟨k - 1, by omega⟩
    simp only [impl_IsLine.l0]
    rw [if_neg (by omega), B_pos (fun j h1 h2 => by omega)]
  | succ d ih =>
    intro k i hi hk
    obtain ⟨k, rfl⟩ : ∃ m, k = m + 1 := ⟨k - 1, by omega⟩
    simp only [impl_IsLine.l0]
    rw [if_pos (by omega), if_pos (by omega), if_pos (by omega), impl_IsPoint.eq]
    simp only [Option.bind_some]
    have e1 := at_pts l i
    have step : good (pts l) i → impl_IsLine.l0 k l l (l.length : Int) (wrap64 ((i : Int) + 1)) = some (B (∀ j, i ≤ j → j < l.length → good (pts l) j)) := by
      intro g
      rw [w64_succ (n := l.length) (by omega) (by omega), ih k (i + 1) (by omega) (by omega)]
      congr 1
      exact B_congr (by rw [good_step g])
    have stop : ¬ good (pts l) i → B (∀ j, i ≤ j → j < l.length → good (pts l) j) = false := fun g => B_neg (fun x => g (x i (Nat.le_refl _) (by omega)))
    have g1 : good (pts l) i ↔ (isPt (rd_T36 l (i : Int)).f0 (rd_T36 l (i : Int)).f1 = true ∧ (0 < i → at_ (pts l) (i - 1) ≠ ((rd_T36 l (i : Int)).f0, (rd_T36 l (i : Int)).f1))) := by unfold good; rw [e1]
    by_cases hp : isPt (rd_T36 l (i : Int)).f0 (rd_T36 l (i : Int)).f1 = true
    · rw [if_pos hp]
      by_cases h0 : (i : Int) > 0
      · have e2 := at_pts l (i - 1)
        rw [if_pos h0, w64_pred (by omega) (by omega), if_pos (by omega), if_pos (by omega)]
        rw [e2] at g1
        by_cases hq : ((rd_T36 l (i : Int)).f0 == (rd_T36 l ((i - 1 : Nat) : Int)).f0 && (rd_T36 l (i : Int)).f1 == (rd_T36 l ((i - 1 : Nat) : Int)).f1) = true
        · rw [if_pos hq, stop (fun x => (g1.mp x).2 (by omega) (by simp only [Bool.and_eq_true, beq_iff_eq] at hq; rw [hq.1, hq.2]))]
        · rw [if_neg hq]
          exact step (g1.mpr ⟨hp, fun _ e => hq (by simp only [Prod.ext_iff] at e; simp [e.1, e.2])⟩)
      · rw [if_neg h0]
        exact step (g1.mpr ⟨hp, fun h => absurd h (by omega)⟩)
    · rw [if_neg hp, stop (fun x => hp (g1.mp x).1)]
theorem impl_IsLine.ok (l : List S36) (k : Nat) (hk : 12 ≤ k) : impl_IsLine.f k l = some (B (lineP (pts l))) := by
  unfold impl_IsLine.f
  obtain ⟨k, rfl⟩ : ∃ m, k = m + 1 := ⟨k - 1, by omega⟩
  by_cases h : (l.length : Int) < 2
  · rw [if_pos h, B_neg (fun x => by have := x.1; rw [pts_length] at this; omega)]
    simp [impl_IsLine.j0]
  · rw [if_neg h]
    by_cases h2 : (l.length : Int) > 10
    · rw [decide_eq_true h2, B_neg (fun x => by have := x.2.1; rw [pts_length] at this; omega)]
      simp [impl_IsLine.j0]
    · rw [decide_eq_false h2]
      simp only [impl_IsLine.j0]
      rw [if_neg (by simp), show (0 : Int) = ((0 : Nat) : Int) from rfl, impl_IsLine.l0_ok l (by omega) l.length k 0 (by omega) (by omega)]
      congr 1
      refine B_congr ?_
      unfold lineP
      rw [pts_length]
      exact ⟨fun h => ⟨by omega, by omega, fun j hj => h j (by omega) hj⟩, fun h j _ hj => h.2.2 j hj⟩
theorem impl_SegmentsOf.l0_ok (l : List S36) (hn : l.length ≤ 10) : ∀ (d k i : Nat), 1 ≤ i → i + d = l.length → d < k → impl_SegmentsOf.l0 k l ((segL l).take (i - 1)) (i : Int) = some (segL l) := by
  intro d
  induction d with
  | zero =>
    intro k i h1 hi hk
    obtain ⟨k, rfl⟩ : ∃ m, k = m + 1 := ⟨k - 1, by omega⟩
    simp only [impl_SegmentsOf.l0]
    rw [if_neg (by omega), List.take_of_length_le (by rw [segL_length]; omega)]
  | succ d ih =>
    intro k i h1 hi hk
    obtain ⟨k, rfl⟩ : ∃ m, k = m + 1 := ⟨k - 1, by omega⟩
    simp only [impl_SegmentsOf.l0]
    rw [if_pos (by omega), w64_pred (by omega) (by omega), if_pos (by omega), if_pos (by omega), if_pos (by omega), if_pos (by rw [List.length_take, segL_length]; omega), w64_succ (n := l.length) (by omega) (by omega), ← segL_take h1 (by omega)]
    exact ih k (i + 1) (by omega) (by omega) (by omega)
/-- The segments of a line, or none. -/
noncomputable def segI (l : List S36) : List S38 := if B (lineP (pts l)) = true then segL l else []
theorem segI_sgs (l : List S36) : sgs (segI l) = segs (pts l) := by
  unfold segs segI
  by_cases h : B (lineP (pts l)) = true
  · rw [if_pos h, if_pos h, sgs_segL]
  · rw [if_neg h, if_neg h]; rfl
theorem segI_length (l : List S36) : (segI l).length ≤ 9 := by
  unfold segI
  by_cases h : B (lineP (pts l)) = true
  · have := (B_iff.mp h).2.1
    rw [pts_length] at this
    rw [if_pos h, segL_length]; omega
  · rw [if_neg h]; simp
theorem impl_SegmentsOf.ok (l : List S36) (k : Nat) (hk : 12 ≤ k) : impl_SegmentsOf.f k l = some (segI l) := by
  unfold impl_SegmentsOf.f segI
  simp only [Option.bind_some]
  rw [impl_IsLine.ok l k hk]
  simp only [Option.bind_some]
  by_cases hl : lineP (pts l)
  · have h2 := hl.1
    have h3 := hl.2.1
    rw [pts_length] at h2 h3
    rw [B_pos hl, if_pos rfl, if_pos rfl]
    exact impl_SegmentsOf.l0_ok l (by omega) (l.length - 1) k 1 (by omega) (by omega) (by omega)
  · rw [B_neg hl, if_neg (by simp), if_neg (by simp)]
theorem impl_IsSegment.eq (a b c d : Int) : impl_IsSegment.f a b c d = some (isSg a b c d) := by
  unfold impl_IsSegment.f isSg
  rw [impl_IsPoint.eq, impl_IsPoint.eq]
  cases isPt a b <;> cases isPt c d <;> simp
theorem cmp_Compare_int.eq (a b : Int) : cmp_Compare_int.f a b = some (if a < b then -1 else if a > b then 1 else 0) := by
  unfold cmp_Compare_int.f cmp_isNaN_int.f
  simp
  split
  · rfl
  · split <;> rfl
theorem impl_cross.eq (a b c d e f : Int) : impl_cross.f a b c d e f = some (crossW a b c d e f) := rfl
theorem impl_SideOf.eq (k : Nat) (a b c d e f : Int) : impl_SideOf.f (k + 1) a b c d e f = some (sideOf a b c d e f) := by
  unfold impl_SideOf.f sideOf
  rw [impl_IsPoint.eq, impl_IsPoint.eq, impl_IsPoint.eq]
  cases isPt a b <;> cases isPt c d <;> cases isPt e f <;> simp [impl_SideOf.j0, impl_cross.eq, cmp_Compare_int.eq]
theorem impl_IsOn.eq (k : Nat) (a b c d e f : Int) : impl_IsOn.f (k + 1) a b c d e f = some (onW a b c d e f) := by
  rw [← onW_of (z := sideOf a b c d e f) side_zero]
  unfold impl_IsOn.f
  simp only [impl_IsSegment.eq, impl_IsPoint.eq, impl_SideOf.eq, impl_InRange.eq, Option.bind_some, mx, mn, mx_max, mn_min]
theorem impl_BeforePoint.eq (a b c d : Int) : impl_BeforePoint.f a b c d = some (decide (b < d ∨ (b = d ∧ a < c))) := by
  unfold impl_BeforePoint.f
  by_cases h : b < d
  · rw [if_pos h]; simp [h]
  · rw [if_neg h]
    by_cases h1 : b = d
    · rw [if_pos h1]; simp [h1]
    · rw [if_neg h1]; simp [h, h1]
theorem impl_forward.eq (a b c d : Int) : impl_forward.f a b c d = some ((lo (a, b) (c, d)).1, (lo (a, b) (c, d)).2, (hi (a, b) (c, d)).1, (hi (a, b) (c, d)).2) := by
  unfold impl_forward.f lo hi
  rw [impl_BeforePoint.eq]
  simp only [Option.bind_some]
  by_cases h : before (c, d) (a, b)
  · rw [if_pos (decide_eq_true (show d < b ∨ (d = b ∧ c < a) from h)), if_pos h, if_pos h]
    rfl
  · rw [if_neg (by rw [decide_eq_true_eq]; exact h), if_neg h, if_neg h]
theorem impl_HowMeet.j3_ok (k : Nat) (a b c d : Int) : impl_HowMeet.j3 (k + 1) a b c d = some (if before (c, d) (a, b) then 0 else if ((a, b) : Pt) = (c, d) then 1 else 3) := by
  simp only [impl_HowMeet.j3]
  rw [impl_BeforePoint.eq]
  simp only [Option.bind_some]
  by_cases h : before (c, d) (a, b)
  · rw [if_pos (decide_eq_true (show d < b ∨ (d = b ∧ c < a) from h)), if_pos h]
  · rw [if_neg (by rw [decide_eq_true_eq]; exact h), if_neg h, eq_pt]
    by_cases g : ((a, b) : Pt) = (c, d)
    · rw [if_pos (decide_eq_true g), if_pos g]
    · rw [if_neg (by rw [decide_eq_true_eq]; exact g), if_neg g]
theorem impl_HowMeet.j2_ok (k : Nat) (t0 t1 c d l0 l1 e f : Int) : impl_HowMeet.j2 (k + 2) t0 t1 c d l0 l1 e f =
    some (let high : Pt := if before (c, d) (e, f) then (c, d) else (e, f); if before high (l0, l1) then 0 else if ((l0, l1) : Pt) = high then 1 else 3) := by
  simp only [impl_HowMeet.j2]
  rw [impl_BeforePoint.eq]
  simp only [Option.bind_some]
  by_cases h : before (c, d) (e, f)
  · rw [if_pos (decide_eq_true (show d < f ∨ (d = f ∧ c < e) from h)), if_pos h, impl_HowMeet.j3_ok]
  · rw [if_neg (by rw [decide_eq_true_eq]; exact h), if_neg h, impl_HowMeet.j3_ok]
theorem impl_HowMeet.line_ok (k : Nat) (x y : Int) (a b c d e f g h : Int) : impl_HowMeet.j1 (k + 3) x y true a b c d e f g h = some (hmLine (a, b) (c, d) (e, f) (g, h)) := by
  simp only [impl_HowMeet.j1]
  rw [if_pos trivial, impl_forward.eq, impl_forward.eq]
  simp only [Option.bind_some]
  rw [impl_BeforePoint.eq, hmLine_lo]
  simp only [Option.bind_some]
  by_cases q : before (lo (a, b) (c, d)) (lo (e, f) (g, h))
  · rw [if_pos (decide_eq_true (show (lo (a, b) (c, d)).2 < (lo (e, f) (g, h)).2 ∨ ((lo (a, b) (c, d)).2 = (lo (e, f) (g, h)).2 ∧ (lo (a, b) (c, d)).1 < (lo (e, f) (g, h)).1) from q)), if_pos q, impl_HowMeet.j2_ok]
  · rw [if_neg (by rw [decide_eq_true_eq]; exact q), if_neg q, impl_HowMeet.j2_ok]
theorem impl_HowMeet.j4_ok (k : Nat) (t : Bool) (a b c d e f g h : Int) (hs : isSg a b c d = true) (ht : isSg e f g h = true) : impl_HowMeet.j4 (k + 2) t a b c d e f g h =
    some (if t = true then 2 else if on (a, b) (c, d) (e, f) ∨ on (a, b) (c, d) (g, h) ∨ on (e, f) (g, h) (a, b) ∨ on (e, f) (g, h) (c, d) then 1 else 0) := by
  obtain ⟨p0, p1, _⟩ := isSg_iff.mp hs
  obtain ⟨p2, p3, _⟩ := isSg_iff.mp ht
  simp only [impl_HowMeet.j4]
  by_cases h0 : t = true
  · rw [if_pos h0, if_pos h0]
  · rw [if_neg h0, if_neg h0, impl_IsOn.eq, impl_IsOn.eq, impl_IsOn.eq, impl_IsOn.eq, onW_on hs p2, onW_on hs p3, onW_on ht p0, onW_on ht p1]
    simp only [Option.bind_some, decide_eq_true_eq]
    by_cases h1 : on (a, b) (c, d) (e, f)
    · rw [if_pos h1, if_pos (Or.inl h1)]
    · by_cases h2 : on (a, b) (c, d) (g, h)
      · rw [if_neg h1, if_pos h2, if_pos (Or.inr (Or.inl h2))]
      · by_cases h3 : on (e, f) (g, h) (a, b)
        · rw [if_neg h1, if_neg h2, if_pos h3, if_pos (Or.inr (Or.inr (Or.inl h3)))]
        · by_cases h4 : on (e, f) (g, h) (c, d)
          · rw [if_neg h1, if_neg h2, if_neg h3, if_pos h4, if_pos (Or.inr (Or.inr (Or.inr h4)))]
          · rw [if_neg h1, if_neg h2, if_neg h3, if_neg h4, if_neg (by simp [h1, h2, h3, h4])]
theorem impl_HowMeet.ok (a b c d e f g h : Int) (k : Nat) (hk : 8 ≤ k) : impl_HowMeet.f k a b c d e f g h = some (hmS ((a, b), (c, d)) ((e, f), (g, h))) := by
  unfold impl_HowMeet.f
  obtain ⟨k, rfl⟩ : ∃ m, k = m + 8 := ⟨k - 8, by omega⟩
  rw [impl_IsSegment.eq, impl_IsSegment.eq]
  simp only [Option.bind_some]
  by_cases hs : isSg a b c d = true
  · by_cases ht : isSg e f g h = true
    · obtain ⟨p0, p1, n0⟩ := isSg_iff.mp hs
      obtain ⟨p2, p3, n1⟩ := isSg_iff.mp ht
      rw [if_pos hs, ht, hmS_ok hs ht]
      simp only [impl_HowMeet.j0]
      rw [if_neg (by simp), impl_SideOf.eq, impl_SideOf.eq, sideOf_sgn p0 p1 p2, sideOf_sgn p0 p1 p3]
      simp only [Option.bind_some]
      have cross : ¬ (cr (a, b) (c, d) (e, f) = 0 ∧ cr (a, b) (c, d) (g, h) = 0) → impl_HowMeet.j1 (k + 7) (sgn (cr (a, b) (c, d) (e, f))) (sgn (cr (a, b) (c, d) (g, h))) false a b c d e f g h = some (hm (a, b) (c, d) (e, f) (g, h)) := by
        intro hn
        simp only [impl_HowMeet.j1]
        rw [if_neg (by simp), sgn_prod, ← hm_cross n0 n1 hn]
        have hx := crossing_sgn (a, b) (c, d) (e, f) (g, h)
        by_cases q : sgn (cr (a, b) (c, d) (e, f)) * sgn (cr (a, b) (c, d) (g, h)) < 0
        · rw [if_pos q, impl_SideOf.eq, impl_SideOf.eq, sideOf_sgn p2 p3 p0, sideOf_sgn p2 p3 p1]
          simp only [Option.bind_some]
          rw [sgn_prod, impl_HowMeet.j4_ok _ _ _ _ _ _ _ _ _ _ hs ht]
          by_cases q2 : sgn (cr (e, f) (g, h) (a, b)) * sgn (cr (e, f) (g, h) (c, d)) < 0
          · rw [if_pos (decide_eq_true q2), if_pos (hx.mpr ⟨q, q2⟩)]
          · rw [if_neg (by rw [decide_eq_true_eq]; exact q2), if_neg (fun x => q2 (hx.mp x).2)]
        · rw [if_neg q, impl_HowMeet.j4_ok _ _ _ _ _ _ _ _ _ _ hs ht, if_neg (by simp), if_neg (fun x => q (hx.mp x).1)]
      by_cases z : cr (a, b) (c, d) (e, f) = 0
      · rw [if_pos (sgn_zero.mpr z)]
        by_cases z2 : cr (a, b) (c, d) (g, h) = 0
        · rw [show (sgn (cr (a, b) (c, d) (g, h)) == 0) = true by rw [beq_iff_eq]; exact sgn_zero.mpr z2, impl_HowMeet.line_ok, hm_line n0 n1 z z2]
        · rw [show (sgn (cr (a, b) (c, d) (g, h)) == 0) = false by rw [beq_eq_false_iff_ne]; exact fun x => z2 (sgn_zero.mp x)]
          exact cross (fun x => z2 x.2)
      · rw [if_neg (fun x => z (sgn_zero.mp x))]
        exact cross (fun x => z x.1)
    · rw [if_pos hs, hmS_not (fun x => ht x.2), show isSg e f g h = false by simpa using ht]
      simp [impl_HowMeet.j0]
  · rw [if_neg hs, hmS_not (fun x => hs x.1)]
    simp [impl_HowMeet.j0]
theorem impl_IsSimple.l1_ok (s : List S38) (hn : s.length ≤ 10) (i : Nat) (hi : i < s.length) (R : Bool) (Kmin : Nat) (hR : ∀ k, Kmin ≤ k → impl_IsSimple.l0 k s (s.length : Int) ((i + 1 : Nat) : Int) = some R) (hK : 60 ≤ Kmin) :
    ∀ (d k j : Nat), j + d = i → Kmin + d + 1 ≤ k → impl_IsSimple.l1 k s (i : Int) (s.length : Int) (i : Int) (i : Int) (j : Int) = some (B (restOk (okPair (sgs s)) i j) && R) := by
  intro d
  induction d with
  | zero =>
    intro k j hj hk
    obtain ⟨k, rfl⟩ : ∃ m, k = m + 1 := ⟨k - 1, by omega⟩
    have hji : j = i := by omega
    subst hji
    simp only [impl_IsSimple.l1]
    rw [if_neg (by omega), w64_succ (n := s.length) (by omega) (by omega), hR k (by omega), B_pos rest_end]
    rfl
  | succ d ih =>
    intro k j hj hk
    obtain ⟨k, rfl⟩ : ∃ m, k = m + 1 := ⟨k - 1, by omega⟩
    have step : okPair (sgs s) i j → impl_IsSimple.l1 k s (i : Int) (s.length : Int) (i : Int) (i : Int) (wrap64 ((j : Int) + 1)) = some (B (restOk (okPair (sgs s)) i j) && R) := by
      intro g
      rw [w64_succ (n := s.length) (by omega) (by omega), ih k (j + 1) (by omega) (by omega)]
      congr 2
      exact B_congr (by rw [rest_step (show j < i by omega)]; exact ⟨fun h => ⟨g, h⟩, fun h => h.2⟩)
    have stop : ¬ okPair (sgs s) i j → some false = some (B (restOk (okPair (sgs s)) i j) && R) := by
      intro g
      rw [B_neg (fun h => g ((rest_step (show j < i by omega)).mp h).1)]
      rfl
    unfold okPair at step stop
    simp only [impl_IsSimple.l1]
    rw [if_pos (by omega)]
    have e1 := at_sgs s i
    have e2 := at_sgs s j
    by_cases h1 : j + 1 = i
    · rw [if_pos h1, e1, e2] at step stop
      rw [if_pos (by rw [w64 (by omega) (by omega)]; omega), if_pos (by omega), if_pos (by omega), if_pos (by omega), if_pos (by omega), impl_HowMeet.ok _ _ _ _ _ _ _ _ k (by omega)]
      simp only [Option.bind_some]
      generalize hmS _ _ = t at step stop ⊢
      by_cases h2 : t = 1
      · rw [if_pos h2]; exact step h2
      · rw [if_neg h2]; exact stop h2
    · rw [if_neg h1, e1, e2] at step stop
      rw [if_neg (by rw [w64 (by omega) (by omega)]; omega), if_pos (by omega), if_pos (by omega), if_pos (by omega), if_pos (by omega), impl_HowMeet.ok _ _ _ _ _ _ _ _ k (by omega)]
      simp only [Option.bind_some]
      generalize hmS _ _ = t at step stop ⊢
      by_cases h2 : t = 0
      · rw [if_pos h2]; exact step h2
      · rw [if_neg h2]; exact stop h2
theorem impl_IsSimple.l0_ok (s : List S38) (hn : s.length ≤ 10) : ∀ (d k i : Nat), i + d = s.length → 20 * d + 61 ≤ k → impl_IsSimple.l0 k s (s.length : Int) (i : Int) = some (B (rowsOk (okPair (sgs s)) (fun _ => True) s.length i ∧ True)) := by
  intro d
  induction d with
  | zero =>
    intro k i hi hk
    obtain ⟨k, rfl⟩ : ∃ m, k = m + 1 := ⟨k - 1, by omega⟩
    have hie : i = s.length := by omega
    subst hie
    simp only [impl_IsSimple.l0]
    rw [if_neg (by omega), B_pos ⟨rows_end, trivial⟩]
  | succ d ih =>
    intro k i hi hk
    obtain ⟨k, rfl⟩ : ∃ m, k = m + 1 := ⟨k - 1, by omega⟩
    simp only [impl_IsSimple.l0]
    rw [if_pos (by omega), show (0 : Int) = ((0 : Nat) : Int) from rfl, impl_IsSimple.l1_ok s hn i (by omega) _ (20 * d + 61) (fun k hk => ih k (i + 1) (by omega) hk) (by omega) i k 0 (by omega) (by omega)]
    congr 1
    rw [Bool.eq_iff_iff, Bool.and_eq_true, B_iff, B_iff, B_iff, rows_step (show i < s.length by omega)]
    constructor
    · rintro ⟨h1, h2, h3⟩; exact ⟨⟨trivial, h1, h2⟩, h3⟩
    · rintro ⟨⟨_, h1, h2⟩, h3⟩; exact ⟨h1, h2, h3⟩
theorem impl_IsSimple.ok (l : List S36) (k : Nat) (hk : 400 ≤ k) : impl_IsSimple.f k l = some (B (simpleP (pts l))) := by
  unfold impl_IsSimple.f
  rw [impl_IsLine.ok l k (by omega)]
  simp only [Option.bind_some]
  by_cases hl : lineP (pts l)
  · rw [B_pos hl, if_pos rfl, impl_SegmentsOf.ok l k (by omega)]
    simp only [Option.bind_some]
    have h9 := segI_length l
    have := impl_IsSimple.l0_ok (segI l) (by omega) (segI l).length k 0 (by omega) (by omega)
    rw [show (0 : Int) = ((0 : Nat) : Int) from rfl]
    refine Eq.trans this ?_
    congr 1
    refine B_congr ?_
    unfold simpleP
    rw [segI_sgs, simpleS_rows, ← segI_sgs, sgs_length]
    exact ⟨fun h => ⟨hl, h.1⟩, fun h => ⟨h.2, trivial⟩⟩
  · rw [B_neg hl, if_neg (by simp), B_neg (fun h => hl h.1)]
theorem impl_StepsBetween.eq (a b c d : Int) : impl_StepsBetween.f a b c d = some (steps a b c d) := by
  unfold impl_StepsBetween.f steps
  rw [impl_IsPoint.eq, impl_IsPoint.eq]
  have e : ∀ x y : Int, mx x y = max x y := fun x y => by unfold mx; split <;> omega
  cases isPt a b <;> cases isPt c d <;> simp [e]
theorem impl_LineSteps.l0_ok (s : List S38) (hn : s.length ≤ 1048576) : ∀ (d k i : Nat) (n : Int), i + d = s.length → d + 1 < k → impl_LineSteps.l0 k n s (s.length : Int) (i : Int) = some (stepsFrom n ((sgs s).drop i)) := by
  intro d
  induction d with
  | zero =>
    intro k i n hi hk
    obtain ⟨k, rfl⟩ : ∃ m, k = m + 1 := ⟨k - 1, by omega⟩
    simp only [impl_LineSteps.l0]
    rw [if_neg (by omega), List.drop_of_length_le (by rw [sgs_length]; omega)]
    rfl
  | succ d ih =>
    intro k i n hi hk
    obtain ⟨k, rfl⟩ : ∃ m, k = m + 1 := ⟨k - 1, by omega⟩
    simp only [impl_LineSteps.l0]
    rw [if_pos (by omega), if_pos (by omega), if_pos (by omega), impl_StepsBetween.eq, sgs_drop (show i < s.length by omega), w64_succ (n := s.length) (by omega) (by omega)]
    simp only [Option.bind_some]
    exact ih k (i + 1) _ (by omega) (by omega)
theorem impl_LineSteps.ok (l : List S36) (k : Nat) (hk : 20 ≤ k) : impl_LineSteps.f k l = some (lineSteps (pts l)) := by
  unfold impl_LineSteps.f
  rw [impl_SegmentsOf.ok l k (by omega)]
  simp only [Option.bind_some]
  have h := segI_length l
  rw [show (0 : Int) = ((0 : Nat) : Int) from rfl, impl_LineSteps.l0_ok _ (by omega) (segI l).length k 0 _ (by omega) (by omega), segI_sgs]
  rfl
theorem impl_Point_42.l0_ok (x0 x1 : List S36) (hn : x0.length ≤ 140737488355328) (hl : x0.length = x1.length) : ∀ (d k i : Nat), i + d = x0.length → d < k → impl_Point_42.l0 k x0 x1 (x0.length : Int) (i : Int) = some (B (x0.drop i = x1.drop i)) := by
  intro d
  induction d with
  | zero =>
    intro k i hi hk
    obtain ⟨k, rfl⟩ : ∃ m, k = m + 1 := ⟨k - 1, by omega⟩
    simp only [impl_Point_42.l0]
    rw [if_neg (by omega), List.drop_of_length_le (by omega), List.drop_of_length_le (by omega), B_pos rfl]
  | succ d ih =>
    intro k i hi hk
    obtain ⟨k, rfl⟩ : ∃ m, k = m + 1 := ⟨k - 1, by omega⟩
    simp only [impl_Point_42.l0]
    rw [if_pos (by omega), if_pos (by omega), if_pos (by omega), if_pos (by omega), rdP_drop (l := x0) (i := i) (by omega), rdP_drop (l := x1) (i := i) (by omega), w64_succ (n := x0.length) (by omega) (by omega), ih k (i + 1) (by omega) (by omega)]
    generalize rd_T36 x0 (i : Int) = a
    generalize rd_T36 x1 (i : Int) = b
    by_cases h0 : a.f0 = b.f0
    · by_cases h1 : a.f1 = b.f1
      · have e := pt_ext h0 h1
        subst e
        simp
      · rw [B_neg (P := a :: _ = b :: _) (fun e => h1 (by rw [(List.cons.inj e).1]))]
        simp [h0, h1]
    · rw [B_neg (P := a :: _ = b :: _) (fun e => h0 (by rw [(List.cons.inj e).1]))]
      simp [h0]
theorem impl_Point_42.ok (a b : List S36) (hn : a.length ≤ 140737488355328) (k : Nat) (hk : a.length < k) : impl_Point_42.f k a b = some (B (a = b)) := by
  unfold impl_Point_42.f
  by_cases h : (a.length : Int) = (b.length : Int)
  · rw [if_pos h]
    exact impl_Point_42.l0_ok a b hn (by omega) a.length k 0 (by omega) hk
  · rw [if_neg h, B_neg (fun e => h (by rw [e]))]
theorem impl_EqualLines.ok (a b : List S36) (hn : a.length ≤ 140737488355328) (k : Nat) (hk : a.length < k) : impl_EqualLines.f k a b = some (B (a = b)) := by
  unfold impl_EqualLines.f
  rw [impl_Point_42.ok a b hn k hk]
  rfl
theorem spec_DrawLinesMeet.ok (l : List Int) (hn : l.length ≤ 1048576) (k : Nat) (hk : l.length + 80 < k) : ∃ p q, spec_DrawLinesMeet.f k l = some (p, q) ∧ p.length ≤ 60 ∧ q.length ≤ 60 := by
  unfold spec_DrawLinesMeet.f
  obtain ⟨h, e⟩ := spec_l1New.ok l (by omega) k (by omega)
  rw [e]
  simp only [Option.bind_some]
  obtain ⟨p, i1, h1, e1, g0, g1⟩ := spec_l6Any.ok l (by omega) 0 h (by omega) k (by omega)
  rw [e1]
  simp only [Option.bind_some]
  obtain ⟨q, i2, h2, e2, m0, m1⟩ := spec_l6Any.ok l (by omega) i1 h1 g0 k (by omega)
  rw [e2]
  simp only [Option.bind_some]
  exact ⟨_, _, rfl, g1, m1⟩
theorem impl_greatest.l1_ok (s t : List S38) (hn : s.length ≤ 10) (hm : t.length ≤ 10) (i : Nat) (hi : i < s.length) (R : Int → Int) (Kmin : Nat) (hR : ∀ m k, Kmin ≤ k → impl_greatest.l0 k t m s (s.length : Int) ((i + 1 : Nat) : Int) = some (R m)) (hK : 60 ≤ Kmin) :
    ∀ (d k j : Nat) (m : Int), j + d = t.length → Kmin + d + 1 ≤ k → impl_greatest.l1 k t m s (s.length : Int) (i : Int) t (t.length : Int) (j : Int) ((rd_T38 s (i : Int)).f0.f0) ((rd_T38 s (i : Int)).f0.f1) ((rd_T38 s (i : Int)).f1.f0) ((rd_T38 s (i : Int)).f1.f1) = some (R (rowMost m (sgAt (sgs s) i) ((sgs t).drop j))) := by
  intro d
  induction d with
  | zero =>
    intro k j m hj hk
    obtain ⟨k, rfl⟩ : ∃ m, k = m + 1 := ⟨k - 1, by omega⟩
    simp only [impl_greatest.l1]
    rw [if_neg (by omega), w64_succ (n := s.length) (by omega) (by omega), hR m k (by omega), List.drop_of_length_le (by rw [sgs_length]; omega)]
    rfl
  | succ d ih =>
    intro k j m hj hk
    obtain ⟨k, rfl⟩ : ∃ m, k = m + 1 := ⟨k - 1, by omega⟩
    simp only [impl_greatest.l1]
    rw [if_pos (by omega), if_pos (by omega), if_pos (by omega), impl_HowMeet.ok _ _ _ _ _ _ _ _ k (by omega)]
    simp only [Option.bind_some]
    rw [w64_succ (n := t.length) (by omega) (by omega), ih k (j + 1) _ (by omega) (by omega), sgs_drop (l := t) (i := j) (by omega), at_sgs s i]
    unfold mx
    rw [mx_max]
    rfl
theorem impl_greatest.ok (s t : List S38) (hn : s.length ≤ 10) (hm : t.length ≤ 10) : ∀ (d k i : Nat) (m : Int), i + d = s.length → 20 * d + 61 ≤ k → impl_greatest.l0 k t m s (s.length : Int) (i : Int) = some (most m ((sgs s).drop i) (sgs t)) := by
  intro d
  induction d with
  | zero =>
    intro k i m hi hk
    obtain ⟨k, rfl⟩ : ∃ m, k = m + 1 := ⟨k - 1, by omega⟩
    simp only [impl_greatest.l0]
    rw [if_neg (by omega), List.drop_of_length_le (by rw [sgs_length]; omega)]
    rfl
  | succ d ih =>
    intro k i m hi hk
    obtain ⟨k, rfl⟩ : ∃ m, k = m + 1 := ⟨k - 1, by omega⟩
    simp only [impl_greatest.l0]
    rw [if_pos (by omega), if_pos (by omega), if_pos (by omega), show (0 : Int) = ((0 : Nat) : Int) from rfl, impl_greatest.l1_ok s t hn hm i (by omega) (fun m => most m ((sgs s).drop (i + 1)) (sgs t)) (20 * d + 61) (fun m k hk => ih k (i + 1) m (by omega) hk) (by omega) t.length k 0 m (by omega) (by omega), sgs_drop (l := s) (i := i) (by omega), List.drop_zero, at_sgs s i]
    rfl
theorem impl_LinesMeet.ok (l m : List S36) (k : Nat) (hk : 400 ≤ k) : impl_LinesMeet.f k l m = some (linesMeet (pts l) (pts m)) := by
  unfold impl_LinesMeet.f impl_greatest.f
  rw [impl_SegmentsOf.ok l k (by omega), impl_SegmentsOf.ok m k (by omega)]
  simp only [Option.bind_some]
  have h1 := segI_length l
  have h2 := segI_length m
  have := impl_greatest.ok (segI l) (segI m) (by omega) (by omega) (segI l).length k 0 0 (by omega) (by omega)
  rw [segI_sgs, segI_sgs, List.drop_zero] at this
  rw [show (0 : Int) = ((0 : Nat) : Int) from rfl] at *
  rw [this]
  rfl
theorem pts_reverse (l : List S36) : pts l.reverse = (pts l).reverse := by unfold pts; rw [List.map_reverse]
theorem segI_len (l : List S36) : (segI l).length = (segs (pts l)).length := by rw [← segI_sgs, sgs_length]
theorem segI_first (l : List S36) (hl : lineP (pts l)) : (rd_T38 (segI l) 0).f0.f0 = (rd_T36 l 0).f0 ∧ (rd_T38 (segI l) 0).f0.f1 = (rd_T36 l 0).f1 := by
  have h := at_sgs (segI l) 0
  have h2 := hl.1
  rw [segI_sgs, segs_line hl, segsOf_at (by omega), at_pts] at h
  have h3 := congrArg (fun s => s.1) h
  exact ⟨(congrArg Prod.fst h3).symm, (congrArg Prod.snd h3).symm⟩
theorem j1_true (l : List S36) (hn : l.length ≤ 60) (k : Nat) (hk : 400 ≤ k) : laws_FnLines.j1 (k + 1) l false = some true := by
  simp only [laws_FnLines.j1]
  rw [if_neg (by simp), impl_SegmentsOf.ok l k (by omega)]
  simp only [Option.bind_some]
  rw [impl_IsLine.ok l k (by omega)]
  simp only [Option.bind_some]
  by_cases hl : lineP (pts l)
  · have hlen := hl.1
    rw [pts_length] at hlen
    have h1 : (segI l).length = l.length - 1 := by rw [segI_len, segs_line hl, segsOf_length, pts_length]
    rw [B_pos hl, if_pos rfl, if_pos (by rw [h1, w64 (by omega) (by omega)]; omega), if_pos (by omega), if_pos (by omega)]
    have e := segI_first l hl
    rw [e.1, e.2]
    simp
  · have h1 : (segI l).length = 0 := by rw [segI_len, segs_none hl]; rfl
    rw [B_neg hl, if_neg (by simp), if_neg (by simp), if_pos (by omega), impl_IsSimple.ok l k (by omega)]
    simp only [Option.bind_some]
    rw [B_neg (fun h => hl h.1)]
    rfl
theorem FnLines : laws_FnLines.Pure := by
  intro l _ _ hb
  obtain ⟨K, hK⟩ : ∃ K, K = l.length + 900 := ⟨_, rfl⟩
  refine ⟨K + 2, ?_⟩
  unfold laws_FnLines.f
  rw [laws_big.eq]
  simp only [Option.bind_some]
  by_cases h : (l.length : Int) > 1048576
  · rw [if_pos (by simpa using h)]
  · rw [if_neg (by simpa using h)]
    obtain ⟨p, e, gp⟩ := spec_DrawIsLine.ok l (by omega) (K + 2) (by omega)
    rw [e]
    simp only [Option.bind_some]
    rw [impl_TurnLine.ok p (by omega) _ (by omega)]
    simp only [Option.bind_some]
    have hr : p.reverse.length = p.length := List.length_reverse
    rw [impl_IsLine.ok p _ (by omega), impl_IsLine.ok p.reverse _ (by omega), impl_IsSimple.ok p _ (by omega), impl_IsSimple.ok p.reverse _ (by omega), impl_LineSteps.ok p _ (by omega), impl_LineSteps.ok p.reverse _ (by omega), pts_reverse, B_congr (lineP_rev (pts p)), B_congr (simpleP_rev (pts p)), lineSteps_rev]
    simp only [Option.bind_some, bne_self_eq_false, Bool.false_eq_true, if_false, if_true]
    rw [impl_TurnLine.ok p.reverse (by omega) _ (by omega), List.reverse_reverse]
    simp only [Option.bind_some]
    rw [impl_EqualLines.ok p p (by omega) _ (by omega), B_pos rfl]
    simp only [Option.bind_some, Bool.not_true]
    simp only [laws_FnLines.j0]
    rw [if_neg (by simp)]
    obtain ⟨a, b, e2, ga, gb⟩ := spec_DrawLinesMeet.ok l (by omega) (K + 1) (by omega)
    rw [e2]
    simp only [Option.bind_some]
    rw [impl_LinesMeet.ok a b _ (by omega)]
    simp only [Option.bind_some]
    rw [impl_LinesMeet.ok b a _ (by omega), linesMeet_swap (pts b) (pts a)]
    simp only [Option.bind_some, if_true]
    rw [impl_TurnLine.ok a (by omega) _ (by omega)]
    simp only [Option.bind_some]
    rw [impl_LinesMeet.ok a.reverse b _ (by omega), pts_reverse, linesMeet_rev]
    simp only [Option.bind_some, bne_self_eq_false]
    exact j1_true p gp K (by omega)

end Go.Proofs.Ytomkdfpcckgajaa.Pure
