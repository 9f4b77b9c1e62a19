/- Plain laws on lists of numbers, marks, varints and hashes: what this seat's pure proofs share. -/
import Derived.Laws.BitsLemmas
import Derived.Test.YtonocoedbihfeaaWWords
import Derived.Test.YtonocoedbihfeaaWMore
import Derived.Test.YtonocoedbihfeaaBase
namespace Go.Proofs.Ytonocoedbihfeaa.Lst
open Go Go.RowKit Go.Proofs.YtonocoedbihfeaaW.PrintWords Go.Proofs.Ytonocoedbihfeaa.Base
set_option linter.unusedVariables false
set_option linter.unusedSimpArgs false

/-! ### Reading and copying -/
theorem rd_get {xs : List Int} {i : Nat} (h : i < xs.length) : rd xs (i : Int) = xs[i] := by
  unfold rd
  simp [List.getD_eq_getElem?_getD, h]
theorem rd_drop {xs : List Int} {i : Nat} (h : i < xs.length) : xs.drop i = rd xs (i : Int) :: xs.drop (i + 1) := by
  rw [rd_get h]; exact List.drop_eq_getElem_cons h
theorem take_set_succ {α : Type} {xs out : List α} {i : Nat} {v : α} (hi : i < xs.length) (hl : out.length = xs.length) (ht : out.take i = xs.take i) (hv : xs[i]? = some v) : (out.set i v).take (i + 1) = xs.take (i + 1) := by
  rw [List.take_add_one, List.take_add_one, List.getElem?_set_self (by omega), hv, ← ht]
  congr 1
  exact List.take_set_of_le (Nat.le_refl i)
theorem take_all {α : Type} {xs out : List α} {n : Nat} (h : out.take n = xs.take n) (h1 : out.length = n) (h2 : xs.length = n) : out = xs := by
  rw [List.take_of_length_le (by omega), List.take_of_length_le (by omega)] at h
  exact h
theorem succ_cast (i : Nat) : ((i : Int) + 1) = ((i + 1 : Nat) : Int) := by omega
theorem w64_succ {i n : Nat} (h : i < n) (hn : n ≤ 140737488355328) : wrap64 ((i : Int) + 1) = ((i + 1 : Nat) : Int) := by
  rw [w64 (by omega) (by omega)]; omega

/-! ### Marks -/
/-- The marks that the laws write into n bytes, from c on. -/
def marksB (c : Int) (n : Nat) : List Int := (List.range n).map fun j : Nat => (c + (j : Int)) % 256
/-- .. and into n whole numbers. -/
def marksI (c : Int) (n : Nat) : List Int := (List.range n).map fun j : Nat => c + (j : Int)
theorem marksB_length (c : Int) (n : Nat) : (marksB c n).length = n := by simp [marksB]
theorem marksI_length (c : Int) (n : Nat) : (marksI c n).length = n := by simp [marksI]
theorem marksB_get {c : Int} {n i : Nat} (h : i < n) : (marksB c n)[i]? = some ((c + (i : Int)) % 256) := by simp [marksB, h]
theorem marksI_get {c : Int} {n i : Nat} (h : i < n) : (marksI c n)[i]? = some (c + (i : Int)) := by simp [marksI, h]
theorem rd_some {xs : List Int} {i : Nat} {v : Int} (h : xs[i]? = some v) : rd xs (i : Int) = v := by
  unfold rd
  simp [List.getD_eq_getElem?_getD, h]

/-! ### Bits -/
theorem wraps_i64 (n : Int) (h₀ : 0 ≤ n) (h₁ : n < 2 ^ 63) : IntKind.i64.wrap n = n := by rw [IntKind.wrap_i64]; omega
theorem and127 {x : Int} (h0 : 0 ≤ x) (h1 : x < 9223372036854775808) : Go.bits .and .i64 x 127 = x % 128 := by
  have := bits_mask .i64 63 (by decide) wraps_i64 7 (by decide) x h0 (by omega)
  simpa using this
theorem and127u {x : Int} (h0 : 0 ≤ x) (h1 : x < 256) : Go.bits .and .u8 x 127 = x % 128 := by
  have := bits_mask .u8 8 (by decide) wraps_u8 7 (by decide) x h0 (by omega)
  simpa using this
theorem and255 {x : Int} (h0 : 0 ≤ x) (h1 : x < 9223372036854775808) : Go.bits .and .i64 x 255 = x % 256 := by
  have := bits_mask .i64 63 (by decide) wraps_i64 8 (by decide) x h0 (by omega)
  simpa using this
theorem bits_or_comm (k : IntKind) (x y : Int) : Go.bits .or k x y = Go.bits .or k y x := by
  unfold Go.bits
  simp only [BitVec.or_comm]
theorem or128 {x : Int} (h0 : 0 ≤ x) (h1 : x < 128) : Go.bits .or .i64 x 128 = x + 128 := by
  rw [bits_or_comm, bits_join .i64 63 (by decide) wraps_i64 7 128 x (by decide) (by decide) (by decide) h0 (by omega) (by omega)]
  omega
theorem or128u {x : Int} (h0 : 0 ≤ x) (h1 : x < 128) : Go.bits .or .u8 x 128 = x + 128 := by
  rw [bits_or_comm, bits_join .u8 8 (by decide) wraps_u8 7 128 x (by decide) (by decide) (by decide) h0 (by omega) (by omega)]
  omega
/-- Whatever is masked with 255 lies from 0 to 255. -/
theorem mask255 (x : Int) : 0 ≤ Go.bits .and .i64 x 255 ∧ Go.bits .and .i64 x 255 ≤ 255 := by
  unfold Go.bits
  have h : (BitVec.ofInt IntKind.i64.bits x &&& BitVec.ofInt IntKind.i64.bits 255).toNat ≤ 255 := by
    rw [BitVec.toNat_and]
    exact Nat.le_trans Nat.and_le_right (by decide)
  have h2 := wraps_i64 (((BitVec.ofInt IntKind.i64.bits x &&& BitVec.ofInt IntKind.i64.bits 255).toNat : Nat) : Int) (by omega) (by omega)
  simp only [h2]
  omega

/-! ### Varints -/
/-- The groups of seven bits of n, at most f + 1 of them. -/
def uvf : Nat → Int → List Int
  | 0, n => [n % 256]
  | f + 1, n => if n > 127 then (n % 128 + 128) :: uvf f (n / 128) else [n % 256]
/-- The varint of a number up to 10^12. -/
def uv (n : Int) : List Int := uvf 6 n
/-- .. or nothing, for a number that has none. -/
def uvOf (n : Int) : List Int := if 0 ≤ n ∧ n ≤ 1000000000000 then uv n else []
theorem uvf_length (f : Nat) : ∀ n, 1 ≤ (uvf f n).length ∧ (uvf f n).length ≤ f + 1 := by
  induction f with
  | zero => intro n; simp [uvf]
  | succ f ih =>
    intro n
    unfold uvf
    by_cases h : n > 127
    · rw [if_pos h]
      have := ih (n / 128)
      simp only [List.length_cons]; omega
    · rw [if_neg h]; simp
theorem uv_length (n : Int) : 1 ≤ (uv n).length ∧ (uv n).length ≤ 7 := uvf_length 6 n

theorem uvOf_length (n : Int) : (uvOf n).length ≤ 7 := by
  unfold uvOf
  split
  · exact (uv_length n).2
  · simp

/-- One group more of a varint that is read: the groups so far, and the next one's seven bits. -/
theorem or_group {acc b : Int} (j : Nat) (hj : j ≤ 5) (h0 : 0 ≤ acc) (h1 : acc < 2 ^ (7 * j)) (hb0 : 0 ≤ b) (hb1 : b < 128) :
    Go.bits .or .i64 acc (shl .i64 b (7 * (j : Int))) = acc + b * 2 ^ (7 * j) := by
  have hs : shl .i64 b (7 * (j : Int)) = b * 2 ^ (7 * j) := by
    unfold shl
    have e : (7 * (j : Int)).toNat = 7 * j := by omega
    rw [e]
    have hm : min (7 * j) IntKind.i64.bits = 7 * j := by
      show min (7 * j) 64 = 7 * j
      omega
    rw [hm]
    match j, hj with
    | 0, _ => exact wraps_i64 _ (by omega) (by omega)
    | 1, _ => exact wraps_i64 _ (by omega) (by omega)
    | 2, _ => exact wraps_i64 _ (by omega) (by omega)
    | 3, _ => exact wraps_i64 _ (by omega) (by omega)
    | 4, _ => exact wraps_i64 _ (by omega) (by omega)
    | 5, _ => exact wraps_i64 _ (by omega) (by omega)
  rw [hs, bits_or_comm, bits_join .i64 63 (by decide) wraps_i64 (7 * j) _ acc (Int.mul_nonneg hb0 (Int.pow_nonneg (by decide))) (Int.mul_emod_left _ _) ?_ h0 h1 ?_]
  · omega
  · match j, hj with
    | 0, _ => omega
    | 1, _ => omega
    | 2, _ => omega
    | 3, _ => omega
    | 4, _ => omega
    | 5, _ => omega
  · match j, hj with
    | 0, _ => omega
    | 1, _ => omega
    | 2, _ => omega
    | 3, _ => omega
    | 4, _ => omega
    | 5, _ => omega

/-- What reading a varint comes to: d groups may still follow, the ones so far make acc, 'at' bytes in. -/
def dec (l : List Int) (a : Int) : Nat → Int → Nat → Int × Int × Bool
  | 0, _, _ => (0, 0, false)
  | d + 1, acc, j =>
    if (l.length : Int) ≤ a + j then (0, 0, false)
    else if rd l (a + j) < 128 then
      (if (0 < j ∧ rd l (a + j) = 0) ∨ acc + rd l (a + j) % 128 * 2 ^ (7 * j) > 1000000000000 then (0, 0, false) else (acc + rd l (a + j) % 128 * 2 ^ (7 * j), a + j + 1, true))
    else dec l a d (acc + rd l (a + j) % 128 * 2 ^ (7 * j)) (j + 1)
/-- Reading a varint. -/
def readUv (l : List Int) (a : Int) : Int × Int × Bool := if a < 0 ∨ (l.length : Int) ≤ a then (0, 0, false) else dec l a 6 0 0
/-- Bytes are from 0 to 255. -/
def isBytes (l : List Int) : Prop := ∀ x ∈ l, 0 ≤ x ∧ x ≤ 255
theorem bytes_wf {l : List Int} (h : ∀ x ∈ l, (Lit.int .u8 x).wf = true) : isBytes l := fun x hx => bounds_u8 (h x hx)
theorem bytes_rd {l : List Int} (h : isBytes l) (i : Int) : 0 ≤ rd l i ∧ rd l i ≤ 255 := by
  unfold rd
  rw [List.getD_eq_getElem?_getD]
  cases e : l[i.toNat]? with
  | none => simp
  | some v => exact h v (List.mem_of_getElem? e)
theorem group_bound {acc b : Int} (j : Nat) (hj : j ≤ 5) (h0 : 0 ≤ acc) (h1 : acc < 2 ^ (7 * j)) (hb0 : 0 ≤ b) (hb1 : b < 128) : 0 ≤ acc + b * 2 ^ (7 * j) ∧ acc + b * 2 ^ (7 * j) < 2 ^ (7 * (j + 1)) := by
  match j, hj with
  | 0, _ => omega
  | 1, _ => omega
  | 2, _ => omega
  | 3, _ => omega
  | 4, _ => omega
  | 5, _ => omega

/-! ### Hashes -/
/-- One more value into a hash. -/
def fold (acc v : Int) : Int := Int.tmod (wrap64 (wrap64 (wrap64 (acc * 1000003) + v % 2147483647) + 13)) 2147483647
def hashFrom (acc : Int) (l : List Int) : Int := l.foldl fold acc
theorem hashFrom_drop {l : List Int} {i : Nat} (acc : Int) (h : i < l.length) : hashFrom acc (l.drop i) = hashFrom (fold acc (rd l (i : Int))) (l.drop (i + 1)) := by
  unfold hashFrom; rw [rd_drop h]; rfl
theorem fold_range {acc v : Int} (h0 : 0 ≤ acc) (h1 : acc < 2147483647) : fold acc v = (acc * 1000003 + v % 2147483647 + 13) % 2147483647 := by
  unfold fold
  have h2 : 0 ≤ v % 2147483647 := Int.emod_nonneg _ (by decide)
  have h3 : v % 2147483647 < 2147483647 := Int.emod_lt_of_pos _ (by decide)
  rw [w64 (n := acc * 1000003) (by omega) (by omega), w64 (n := acc * 1000003 + v % 2147483647) (by omega) (by omega), w64 (by omega) (by omega), Int.tmod_eq_emod_of_nonneg (by omega)]
theorem fold_bound {acc v : Int} (h0 : 0 ≤ acc) (h1 : acc < 2147483647) : 0 ≤ fold acc v ∧ fold acc v < 2147483647 := by
  rw [fold_range h0 h1]; omega
theorem hash_bound (l : List Int) : ∀ acc, 0 ≤ acc → acc < 2147483647 → 0 ≤ hashFrom acc l ∧ hashFrom acc l < 2147483647 := by
  induction l with
  | nil => intro acc h0 h1; exact ⟨h0, h1⟩
  | cons v l ih =>
    intro acc h0 h1
    have := fold_bound (v := v) h0 h1
    exact ih _ this.1 this.2

/-- The hash of a key, the values, and the key again. -/
def keyed (key : Int) (l : List Int) : Int := hashFrom 11 ([key] ++ l ++ [key])
theorem keyed_eq (key : Int) (l : List Int) : keyed key l = fold (hashFrom (fold 11 key) l) key := by
  unfold keyed hashFrom
  simp [List.foldl_append]
theorem keyed_bound (key : Int) (l : List Int) : 0 ≤ keyed key l ∧ keyed key l < 2147483647 := hash_bound _ 11 (by decide) (by decide)


/-! ### The cipher -/
def encr (key : Int) : Nat → List Int → List Int
  | _, [] => []
  | i, b :: bs => (b + keyed key [(i : Int)]) % 256 :: encr key (i + 1) bs
def decr (key : Int) : Nat → List Int → List Int
  | _, [] => []
  | i, b :: bs => (b - keyed key [(i : Int)]) % 256 :: decr key (i + 1) bs
theorem encr_length (key : Int) (l : List Int) : ∀ i, (encr key i l).length = l.length := by
  induction l with
  | nil => intro i; rfl
  | cons b bs ih => intro i; simp [encr, ih]
theorem decr_length (key : Int) (l : List Int) : ∀ i, (decr key i l).length = l.length := by
  induction l with
  | nil => intro i; rfl
  | cons b bs ih => intro i; simp [decr, ih]
theorem encr_bytes (key : Int) (l : List Int) : ∀ i, isBytes (encr key i l) := by
  induction l with
  | nil => intro i x hx; simp [encr] at hx
  | cons b bs ih =>
    intro i x hx
    simp only [encr, List.mem_cons] at hx
    rcases hx with rfl | hx
    · omega
    · exact ih (i + 1) x hx
theorem decr_bytes (key : Int) (l : List Int) : ∀ i, isBytes (decr key i l) := by
  induction l with
  | nil => intro i x hx; simp [decr] at hx
  | cons b bs ih =>
    intro i x hx
    simp only [decr, List.mem_cons] at hx
    rcases hx with rfl | hx
    · omega
    · exact ih (i + 1) x hx
theorem decr_encr (key : Int) (l : List Int) : ∀ i, isBytes l → decr key i (encr key i l) = l := by
  induction l with
  | nil => intro i _; rfl
  | cons b bs ih =>
    intro i hb
    have h0 := hb b (by simp)
    simp only [encr, decr]
    rw [ih (i + 1) (fun x hx => hb x (by simp [hx]))]
    congr 1
    omega
theorem encr_decr (key : Int) (l : List Int) : ∀ i, isBytes l → encr key i (decr key i l) = l := by
  induction l with
  | nil => intro i _; rfl
  | cons b bs ih =>
    intro i hb
    have h0 := hb b (by simp)
    simp only [encr, decr]
    rw [ih (i + 1) (fun x hx => hb x (by simp [hx]))]
    congr 1
    omega

/-! ### Lists of varints -/
def encInts (l : List Int) : List Int := l.flatMap uvOf
theorem encInts_cons (v : Int) (l : List Int) : encInts (v :: l) = uvOf v ++ encInts l := by simp [encInts]
theorem encInts_length (l : List Int) : (encInts l).length ≤ 7 * l.length := by
  induction l with
  | nil => simp [encInts]
  | cons v l ih =>
    rw [encInts_cons]
    have := uvOf_length v
    simp only [List.length_append, List.length_cons]; omega

/-- Reading a byte string: the bytes, what is behind them, and whether there is one. -/
def readB (l : List Int) (a m : Int) : List Int × Int × Bool :=
  if (readUv l a).2.2 = true then (if (readUv l a).1 > m then ([], 0, false) else if (readUv l a).1 > (l.length : Int) - (readUv l a).2.1 then ([], 0, false) else
    ((l.take ((readUv l a).2.1 + (readUv l a).1).toNat).drop (readUv l a).2.1.toNat, (readUv l a).2.1 + (readUv l a).1, true)) else ([], 0, false)
theorem dec_range (l : List Int) (a : Int) (ha : 0 ≤ a) (hb : isBytes l) : ∀ (d : Nat) (acc : Int) (j : Nat), j + d = 6 → 0 ≤ acc → acc < 2 ^ (7 * j) → (dec l a d acc j).2.2 = true → 0 ≤ (dec l a d acc j).1 ∧ (dec l a d acc j).1 ≤ 1000000000000 ∧ a < (dec l a d acc j).2.1 ∧ (dec l a d acc j).2.1 ≤ l.length := by
  intro d
  induction d with
  | zero => intro acc j _ _ _ h; simp [dec] at h
  | succ d ih =>
    intro acc j hj h0 h1
    have hr := bytes_rd hb (a + (j : Int))
    have hbd := group_bound (acc := acc) (b := rd l (a + (j : Int)) % 128) j (by omega) h0 h1 (by omega) (by omega)
    unfold dec
    by_cases hl : (l.length : Int) ≤ a + j
    · rw [if_pos hl]; intro h; simp at h
    · rw [if_neg hl]
      by_cases h2 : rd l (a + j) < 128
      · rw [if_pos h2]
        by_cases h3 : (0 < j ∧ rd l (a + j) = 0) ∨ acc + rd l (a + j) % 128 * 2 ^ (7 * j) > 1000000000000
        · rw [if_pos h3]; intro h; simp at h
        · rw [if_neg h3]
          intro _
          refine ⟨hbd.1, ?_, ?_, ?_⟩ <;> simp only <;> omega
      · rw [if_neg h2]
        exact ih _ (j + 1) (by omega) hbd.1 hbd.2
theorem readUv_range {l : List Int} {a : Int} (hb : isBytes l) (h : (readUv l a).2.2 = true) : 0 ≤ (readUv l a).1 ∧ (readUv l a).1 ≤ 1000000000000 ∧ 0 ≤ a ∧ a < (readUv l a).2.1 ∧ (readUv l a).2.1 ≤ l.length := by
  unfold readUv at h ⊢
  by_cases h0 : a < 0 ∨ (l.length : Int) ≤ a
  · rw [if_pos h0] at h; simp at h
  · rw [if_neg h0] at h ⊢
    have := dec_range l a (by omega) hb 6 0 0 (by omega) (by omega) (by omega) h
    exact ⟨this.1, this.2.1, by omega, this.2.2.1, this.2.2.2⟩

end Go.Proofs.Ytonocoedbihfeaa.Lst
