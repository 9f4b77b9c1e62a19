/- Plain laws on varints: what is written is read again, and what is read is what is written; hashes part where one value does; no program. -/
import Derived.Test.YtonocoedbihfeaaDoorLst
namespace Go.Proofs.YtonocoedbihfeaaDoor.Vr
open Go Go.RowKit Go.Proofs.YtonocoedbihfeaaDoorW.PrintWords Go.Proofs.YtonocoedbihfeaaDoor.Base Go.Proofs.YtonocoedbihfeaaDoor.Lst
set_option linter.unusedVariables false
set_option linter.unusedSimpArgs false

theorem drop_head {l : List Int} {m : Nat} {x : Int} {r : List Int} (h : l.drop m = x :: r) : m < l.length ∧ rd l (m : Int) = x ∧ l.drop (m + 1) = r := by
  have hm : m < l.length := by
    rcases Nat.lt_or_ge m l.length with g | g
    · exact g
    · rw [List.drop_of_length_le g] at h; cases h
  rw [rd_drop hm] at h
  exact ⟨hm, (List.cons.inj h).1, (List.cons.inj h).2⟩

theorem pow_group (j : Nat) : (2 : Int) ^ (7 * (j + 1)) = 128 * 2 ^ (7 * j) := by
  rw [show 7 * (j + 1) = 7 * j + 7 by omega, Int.pow_add]
  omega
theorem group_sum (n P : Int) : n % 128 * P + n / 128 * (128 * P) = n * P := by
  have h := Int.emod_add_mul_ediv n 128
  have h2 : n * P = (n % 128 + 128 * (n / 128)) * P := by rw [h]
  rw [h2, Int.add_mul]
  congr 1
  rw [← Int.mul_assoc]
  congr 1
  omega

/-- A varint of n that begins j bytes behind p is read: its value and its end. -/
theorem dec_uvf : ∀ (f : Nat) (n : Int) (d j p : Nat) (acc : Int) (l s : List Int), 0 ≤ n → n < 128 ^ f → (0 < j → 0 < n) → 1 ≤ d → f ≤ d → j + d = 6 → 0 ≤ acc → acc + n * 2 ^ (7 * j) ≤ 1000000000000 → l.drop (p + j) = uvf f n ++ s →
    dec l (p : Int) d acc j = (acc + n * 2 ^ (7 * j), (p : Int) + j + (uvf f n).length, true) := by
  intro f
  induction f with
  | zero =>
    intro n d j p acc l s h0 h1 h2 h3 h4 h5 h6 h7 h8
    have hn : n = 0 := by simp at h1; omega
    subst hn
    obtain ⟨d, rfl⟩ : ∃ m, d = m + 1 := ⟨d - 1, by omega⟩
    simp only [uvf, List.cons_append, List.nil_append] at h8
    obtain ⟨g0, g1, g2⟩ := drop_head h8
    unfold dec
    rw [show (p : Int) + (j : Int) = ((p + j : Nat) : Int) by omega, if_neg (by omega), g1, if_pos (by decide), if_neg (by have : ¬ 0 < j := fun x => absurd (h2 x) (by omega); simp; omega)]
    simp [uvf]
  | succ f ih =>
    intro n d j p acc l s h0 h1 h2 h3 h4 h5 h6 h7 h8
    obtain ⟨d, rfl⟩ : ∃ m, d = m + 1 := ⟨d - 1, by omega⟩
    by_cases hn : n > 127
    · simp only [uvf, if_pos hn, List.cons_append] at h8
      obtain ⟨g0, g1, g2⟩ := drop_head h8
      have hq : n / 128 < 128 ^ f := by rw [Int.pow_succ] at h1; omega
      have hf : 1 ≤ f := by
        rcases Nat.eq_zero_or_pos f with e | e
        · subst e; simp at hq; omega
        · exact e
      unfold dec
      rw [show (p : Int) + (j : Int) = ((p + j : Nat) : Int) by omega, if_neg (by omega), g1, if_neg (by omega), show (n % 128 + 128) % 128 = n % 128 by omega]
      have hs := group_sum n (2 ^ (7 * j))
      have hp : (0 : Int) ≤ 2 ^ (7 * j) := Int.pow_nonneg (by decide)
      have hm : 0 ≤ n % 128 * 2 ^ (7 * j) := Int.mul_nonneg (by omega) hp
      rw [ih (n / 128) d (j + 1) p (acc + n % 128 * 2 ^ (7 * j)) l s (by omega) hq (fun _ => by omega) (by omega) (by omega) (by omega) (by omega) (by rw [pow_group]; omega) (by rw [← Nat.add_assoc]; exact g2)]
      rw [pow_group]
      simp only [uvf, if_pos hn, List.length_cons]
      refine Prod.ext ?_ (Prod.ext ?_ rfl)
      · simp only; omega
      · simp only; omega
    · simp only [uvf, if_neg hn, List.cons_append, List.nil_append] at h8
      obtain ⟨g0, g1, g2⟩ := drop_head h8
      rw [show n % 256 = n by omega] at g1
      unfold dec
      rw [show (p : Int) + (j : Int) = ((p + j : Nat) : Int) by omega, if_neg (by omega), g1, if_pos (by omega), show n % 128 = n by omega, if_neg (by
        rintro (⟨x, y⟩ | x)
        · have := h2 x; omega
        · omega)]
      simp only [uvf, if_neg hn, List.length_cons, List.length_nil]
      refine Prod.ext rfl (Prod.ext ?_ rfl)
      simp only; omega
theorem readUv_uv (p s : List Int) {n : Int} (h0 : 0 ≤ n) (h1 : n ≤ 1000000000000) : readUv (p ++ uv n ++ s) (p.length : Int) = (n, (p.length : Int) + (uv n).length, true) := by
  have hu := uv_length n
  unfold readUv
  rw [if_neg (by simp only [List.length_append]; omega)]
  have := dec_uvf 6 n 6 0 p.length 0 (p ++ uv n ++ s) s h0 (by omega) (fun h => by omega) (by omega) (by omega) (by omega) (by omega) (by omega) (by simp [uv])
  rw [this]
  simp [uv]

theorem uvf_bytes : ∀ (f : Nat) (n : Int), isBytes (uvf f n) := by
  intro f
  induction f with
  | zero => intro n x hx; simp only [uvf, List.mem_singleton] at hx; subst hx; omega
  | succ f ih =>
    intro n x hx
    unfold uvf at hx
    by_cases h : n > 127
    · rw [if_pos h] at hx
      rcases List.mem_cons.mp hx with rfl | hx
      · omega
      · exact ih _ x hx
    · rw [if_neg h] at hx
      simp only [List.mem_singleton] at hx; subst hx; omega
theorem uv_bytes (n : Int) : isBytes (uv n) := uvf_bytes 6 n
theorem uvOf_bytes (n : Int) : isBytes (uvOf n) := by
  unfold uvOf
  split
  · exact uv_bytes n
  · intro x hx; simp at hx
theorem bytes_append {a b : List Int} (ha : isBytes a) (hb : isBytes b) : isBytes (a ++ b) := by
  intro x hx
  rcases List.mem_append.mp hx with h | h
  · exact ha x h
  · exact hb x h
theorem encInts_bytes (l : List Int) : isBytes (encInts l) := by
  induction l with
  | nil => intro x hx; simp [encInts] at hx
  | cons v l ih => rw [encInts_cons]; exact bytes_append (uvOf_bytes v) ih

/-- What was read is what its value is written as. -/
theorem dec_back : ∀ (d : Nat) (l : List Int) (p j : Nat) (acc v e : Int), isBytes l → j + d = 6 → dec l (p : Int) d acc j = (v, e, true) →
    ∃ n : Int, 0 ≤ n ∧ (0 < j → 0 < n) ∧ n < 128 ^ d ∧ v = acc + n * 2 ^ (7 * j) ∧ (p : Int) + j < e ∧ e ≤ l.length ∧ ∀ f, d ≤ f → (l.take e.toNat).drop (p + j) = uvf f n := by
  intro d
  induction d with
  | zero => intro l p j acc v e hb hj h; simp [dec] at h
  | succ d ih =>
    intro l p j acc v e hb hj h
    have hr := bytes_rd hb ((p : Int) + j)
    unfold dec at h
    by_cases hl : (l.length : Int) ≤ (p : Int) + j
    · rw [if_pos hl] at h; simp at h
    · rw [if_neg hl] at h
      have hm : p + j < l.length := by omega
      have hd := rd_drop hm
      rw [show ((p + j : Nat) : Int) = (p : Int) + j by omega] at hd
      by_cases h2 : rd l ((p : Int) + j) < 128
      · rw [if_pos h2] at h
        by_cases h3 : (0 < j ∧ rd l ((p : Int) + j) = 0) ∨ acc + rd l ((p : Int) + j) % 128 * 2 ^ (7 * j) > 1000000000000
        · rw [if_pos h3] at h; simp at h
        · rw [if_neg h3] at h
          simp only [Prod.mk.injEq, and_true] at h
          refine ⟨rd l ((p : Int) + j) % 128, by omega, fun hj => by omega, ?_, h.1.symm, by omega, by omega, fun f hf => ?_⟩
          · rw [Int.pow_succ]
            have : (1 : Int) ≤ 128 ^ d := Int.pow_pos (by decide)
            omega
          · obtain ⟨f, rfl⟩ : ∃ m, f = m + 1 := ⟨f - 1, by omega⟩
            have ee : e.toNat = p + j + 1 := by omega
            rw [ee, uvf, if_neg (by omega), List.drop_take, show p + j + 1 - (p + j) = 1 by omega, hd]
            simp only [List.take_succ_cons, List.take_zero]
            congr 1
            omega
      · rw [if_neg h2] at h
        obtain ⟨n, g0, g1, g2, g3, g4, g5, g6⟩ := ih l p (j + 1) _ v e hb (by omega) h
        have g1' := g1 (by omega)
        refine ⟨rd l ((p : Int) + j) % 128 + 128 * n, by omega, fun _ => by omega, ?_, ?_, by omega, g5, fun f hf => ?_⟩
        · rw [Int.pow_succ]; omega
        · rw [g3, pow_group]
          have := group_sum (rd l ((p : Int) + j) % 128 + 128 * n) (2 ^ (7 * j))
          rw [show (rd l ((p : Int) + j) % 128 + 128 * n) % 128 = rd l ((p : Int) + j) % 128 by omega, show (rd l ((p : Int) + j) % 128 + 128 * n) / 128 = n by omega] at this
          omega
        · obtain ⟨f, rfl⟩ : ∃ m, f = m + 1 := ⟨f - 1, by omega⟩
          rw [uvf, if_pos (by omega), show (rd l ((p : Int) + j) % 128 + 128 * n) / 128 = n by omega, ← g6 f (by omega)]
          have hm2 : p + j < (l.take e.toNat).length := by rw [List.length_take]; omega
          rw [List.drop_eq_getElem_cons hm2, List.getElem_take]
          rw [show p + j + 1 = p + (j + 1) by omega]
          congr 1
          have := rd_get hm
          rw [show ((p + j : Nat) : Int) = (p : Int) + j by omega] at this
          rw [← this]
          omega
theorem readUv_back {l : List Int} {a : Int} (hb : isBytes l) (h : (readUv l a).2.2 = true) : 0 ≤ (readUv l a).1 ∧ (readUv l a).1 ≤ 1000000000000 ∧ (l.take (readUv l a).2.1.toNat).drop a.toNat = uv (readUv l a).1 := by
  have hr := readUv_range hb h
  have e : readUv l a = ((readUv l a).1, (readUv l a).2.1, true) := Prod.ext rfl (Prod.ext rfl h)
  generalize (readUv l a).1 = v at *
  generalize (readUv l a).2.1 = w at *
  unfold readUv at e
  rw [if_neg (by omega), show a = ((a.toNat : Nat) : Int) by omega] at e
  obtain ⟨n, g0, g1, g2, g3, g4, g5, g6⟩ := dec_back 6 l a.toNat 0 0 v w hb (by omega) e
  refine ⟨hr.1, hr.2.1, ?_⟩
  have := g6 6 (by omega)
  rw [Nat.add_zero] at this
  rw [this]
  unfold uv
  congr 1
  omega
theorem dec_not : ∀ (d : Nat) (l : List Int) (a acc : Int) (j : Nat), (dec l a d acc j).2.2 = false → dec l a d acc j = (0, 0, false) := by
  intro d
  induction d with
  | zero => intro l a acc j _; rfl
  | succ d ih =>
    intro l a acc j
    unfold dec
    by_cases hl : (l.length : Int) ≤ a + j
    · rw [if_pos hl]; intro _; rfl
    · rw [if_neg hl]
      by_cases h2 : rd l (a + j) < 128
      · rw [if_pos h2]
        split
        · intro _; rfl
        · intro h; simp at h
      · rw [if_neg h2]; exact ih _ _ _ _
theorem readUv_not {l : List Int} {a : Int} (h : (readUv l a).2.2 = false) : readUv l a = (0, 0, false) := by
  unfold readUv at h ⊢
  by_cases h0 : a < 0 ∨ (l.length : Int) ≤ a
  · rw [if_pos h0]
  · rw [if_neg h0] at h ⊢; exact dec_not _ _ _ _ _ h

/-! ### Lists of varints, decoded -/
def decInts (b : List Int) : Nat → Int → List Int → List Int × Int × Bool
  | 0, a, out => (out, a, true)
  | n + 1, a, out => if (readUv b a).2.2 = true then decInts b n (readUv b a).2.1 (out ++ [(readUv b a).1]) else ([], 0, false)
def readL (b : List Int) (a c : Int) : List Int × Int × Bool := if (0 ≤ c ∧ c ≤ 100) ∧ (0 ≤ a ∧ a ≤ b.length) then decInts b c.toNat a [] else ([], 0, false)
theorem decInts_length (b : List Int) : ∀ (n : Nat) (a : Int) (out : List Int), (decInts b n a out).1.length ≤ out.length + n := by
  intro n
  induction n with
  | zero => intro a out; simp [decInts]
  | succ n ih =>
    intro a out
    unfold decInts
    split
    · have := ih (readUv b a).2.1 (out ++ [(readUv b a).1])
      simp only [List.length_append, List.length_cons, List.length_nil] at this
      omega
    · simp
theorem readL_length (b : List Int) (a c : Int) : (readL b a c).1.length ≤ 100 := by
  unfold readL
  split
  · have := decInts_length b c.toNat a []
    simp only [List.length_nil] at this
    omega
  · simp
/-- The values that were written are read. -/
theorem decInts_enc : ∀ (l p out : List Int), (∀ v ∈ l, 0 ≤ v ∧ v ≤ 1000000000000) → decInts (p ++ encInts l) l.length (p.length : Int) out = (out ++ l, ((p ++ encInts l).length : Int), true) := by
  intro l
  induction l with
  | nil => intro p out _; simp [decInts, encInts]
  | cons v l ih =>
    intro p out h
    have hv := h v (by simp)
    have hu : uvOf v = uv v := by unfold uvOf; rw [if_pos hv]
    have e := readUv_uv p (encInts l) hv.1 hv.2
    rw [encInts_cons, hu, ← List.append_assoc, List.length_cons]
    unfold decInts
    rw [e]
    simp only [if_true]
    have := ih (p ++ uv v) (out ++ [v]) (fun x hx => h x (by simp [hx]))
    rw [show (p.length : Int) + ((uv v).length : Int) = ((p ++ uv v).length : Int) by simp only [List.length_append]; omega, this]
    simp
/-- .. and no more than they. -/
theorem decInts_more : ∀ (l p out : List Int), (∀ v ∈ l, 0 ≤ v ∧ v ≤ 1000000000000) → (decInts (p ++ encInts l) (l.length + 1) (p.length : Int) out).2.2 = false := by
  intro l
  induction l with
  | nil =>
    intro p out _
    unfold decInts readUv
    simp [encInts]
  | cons v l ih =>
    intro p out h
    have hv := h v (by simp)
    have hu : uvOf v = uv v := by unfold uvOf; rw [if_pos hv]
    have e := readUv_uv p (encInts l) hv.1 hv.2
    rw [encInts_cons, hu, ← List.append_assoc, List.length_cons]
    unfold decInts
    rw [e]
    simp only [if_true]
    have := ih (p ++ uv v) (out ++ [v]) (fun x hx => h x (by simp [hx]))
    rw [show (p.length : Int) + ((uv v).length : Int) = ((p ++ uv v).length : Int) by simp only [List.length_append]; omega, this]

/-- A byte string that was written is read, and not where its length may not be so great. -/
theorem readB_whole (p m : List Int) (hm : m.length ≤ 1000000000000) : readB (p ++ uv (m.length : Int) ++ m) (p.length : Int) (m.length : Int) = (m, ((p ++ uv (m.length : Int) ++ m).length : Int), true) := by
  have e := readUv_uv p m (n := (m.length : Int)) (by omega) (by omega)
  unfold readB
  rw [e]
  simp only [if_true]
  rw [if_neg (by omega), if_neg (by simp only [List.length_append]; omega)]
  refine Prod.ext ?_ (Prod.ext ?_ rfl)
  · simp only
    rw [show ((p.length : Int) + ((uv (m.length : Int)).length : Int) + (m.length : Int)).toNat = (p ++ uv (m.length : Int) ++ m).length by simp only [List.length_append]; omega, List.take_length]
    rw [show ((p.length : Int) + ((uv (m.length : Int)).length : Int)).toNat = (p ++ uv (m.length : Int)).length by simp only [List.length_append]; omega, List.drop_left]
  · simp only [List.length_append]; omega
theorem readB_short (p m : List Int) (hm : m.length ≤ 1000000000000) : (readB (p ++ uv (m.length : Int) ++ m) (p.length : Int) ((m.length : Int) - 1)).2.2 = false := by
  have e := readUv_uv p m (n := (m.length : Int)) (by omega) (by omega)
  unfold readB
  rw [e]
  simp only [if_true]
  rw [if_pos (by omega)]

/-! ### Hashes that part -/
theorem bezout {D Q : Int} (h : D * 1000003 = 2147483647 * Q) : D = 2147483647 * (1523789695 * Q - 709572 * D) := by
  have h2 : D * 1000003 * 1523789695 = 2147483647 * Q * 1523789695 := by rw [h]
  clear h
  omega
theorem small_mul {D t : Int} (h : D = 2147483647 * t) (h0 : -2147483647 < D) (h1 : D < 2147483647) : D = 0 := by omega
theorem fold_inj {a b v : Int} (ha0 : 0 ≤ a) (ha1 : a < 2147483647) (hb0 : 0 ≤ b) (hb1 : b < 2147483647) (h : fold a v = fold b v) : a = b := by
  have d0 : -2147483647 < a - b := by clear h; omega
  have d1 : a - b < 2147483647 := by clear h; omega
  rw [fold_range ha0 ha1, fold_range hb0 hb1] at h
  have e : (a - b) * 1000003 = 2147483647 * ((a * 1000003 + v % 2147483647 + 13) / 2147483647 - (b * 1000003 + v % 2147483647 + 13) / 2147483647) := by
    have h1 := Int.emod_add_mul_ediv (a * 1000003 + v % 2147483647 + 13) 2147483647
    have h2 := Int.emod_add_mul_ediv (b * 1000003 + v % 2147483647 + 13) 2147483647
    rw [h] at h1
    generalize (b * 1000003 + v % 2147483647 + 13) % 2147483647 = r at *
    generalize (a * 1000003 + v % 2147483647 + 13) / 2147483647 = q1 at *
    generalize (b * 1000003 + v % 2147483647 + 13) / 2147483647 = q2 at *
    generalize v % 2147483647 = x at *
    clear h
    omega
  have e2 := small_mul (bezout e) d0 d1
  clear e h d0 d1
  omega
theorem fold_part {a v w : Int} (ha0 : 0 ≤ a) (ha1 : a < 2147483647) (h : fold a v = fold a w) : v % 2147483647 = w % 2147483647 := by
  rw [fold_range ha0 ha1, fold_range ha0 ha1] at h
  omega
theorem hash_inj (l : List Int) : ∀ a b, 0 ≤ a → a < 2147483647 → 0 ≤ b → b < 2147483647 → hashFrom a l = hashFrom b l → a = b := by
  induction l with
  | nil => intro a b _ _ _ _ h; exact h
  | cons v l ih =>
    intro a b ha0 ha1 hb0 hb1 h
    have h1 := fold_bound (v := v) ha0 ha1
    have h2 := fold_bound (v := v) hb0 hb1
    exact fold_inj ha0 ha1 hb0 hb1 (ih _ _ h1.1 h1.2 h2.1 h2.2 h)
/-- One value is another modulo the modulus: the hash is another. -/
theorem hash_set (l : List Int) : ∀ (a : Int) (i : Nat) (w : Int), 0 ≤ a → a < 2147483647 → i < l.length → rd l (i : Int) % 2147483647 ≠ w % 2147483647 → hashFrom a (l.set i w) ≠ hashFrom a l := by
  induction l with
  | nil => intro a i w _ _ hi; simp at hi
  | cons v l ih =>
    intro a i w h0 h1 hi hne
    have hb := fold_bound (v := v) h0 h1
    have hw := fold_bound (v := w) h0 h1
    cases i with
    | zero =>
      intro h
      simp only [List.set_cons_zero] at h
      have e : fold a w = fold a v := hash_inj l _ _ hw.1 hw.2 hb.1 hb.2 h
      exact hne (fold_part h0 h1 e).symm
    | succ i =>
      simp only [List.set_cons_succ]
      refine ih (fold a v) i w hb.1 hb.2 (by simpa using hi) ?_
      have e : rd (v :: l) ((i + 1 : Nat) : Int) = rd l (i : Int) := by
        unfold rd; simp only [Int.toNat_natCast]; rfl
      rw [← e]; exact hne
theorem keyed_set (key : Int) (l : List Int) (i : Nat) (w : Int) (hi : i < l.length) (hne : rd l (i : Int) % 2147483647 ≠ w % 2147483647) : keyed key (l.set i w) ≠ keyed key l := by
  rw [keyed_eq, keyed_eq]
  have h0 := fold_bound (acc := 11) (v := key) (by decide) (by decide)
  have h1 := hash_bound l _ h0.1 h0.2
  have h2 := hash_bound (l.set i w) _ h0.1 h0.2
  intro h
  exact hash_set l _ i w h0.1 h0.2 hi hne (fold_inj h2.1 h2.2 h1.1 h1.2 h)

end Go.Proofs.YtonocoedbihfeaaDoor.Vr
