/- Plain laws on the library's decimal numeral, as a list of digits; no program. -/
import Derived.Test.YtonocoedbihfeaaDoorPn
import Derived.Lib.ItoaNum
namespace Go.Proofs.YtonocoedbihfeaaDoor.It
open Go Go.RowKit Go.Proofs.YtonocoedbihfeaaDoorW.PrintWords Go.Proofs.YtonocoedbihfeaaDoor.Base Go.Proofs.YtonocoedbihfeaaDoor.Lst Go.Proofs.YtonocoedbihfeaaDoor.Pn
set_option linter.unusedVariables false
set_option linter.unusedSimpArgs false

theorem dig_nat {d : Nat} (h : d < 10) : (((UInt8.ofNat (48 + d)).toNat : Nat) : Int) = 48 + (d : Int) := by
  have : (UInt8.ofNat (48 + d)).toNat = 48 + d := by
    rw [UInt8.toNat_ofNat']
    omega
  rw [this]; omega
theorem dec_fmtF : ∀ (f u : Nat) (a : List Int), 0 < u → u < 10 ^ f → fmtF f (u : Int) a = ((Lib.decDigits u).map fun b => (b.toNat : Int)) ++ a := by
  intro f
  induction f with
  | zero => intro u a h0 h1; simp at h1; omega
  | succ f ih =>
    intro u a h0 h1
    unfold fmtF
    rw [if_neg (by omega), Lib.decDigits]
    by_cases h : u < 10
    · rw [dif_pos h, show (u : Int) / 10 = 0 by omega, fmtF_zero, show (u : Int) % 10 = (u : Int) by omega]
      simp only [List.map_cons, List.map_nil, List.cons_append, List.nil_append]
      rw [dig_nat h]
    · have h2 := ih (u / 10) ((48 + (u : Int) % 10) :: a) (by omega) (by rw [Nat.pow_succ] at h1; omega)
      rw [dif_neg h, show (u : Int) / 10 = ((u / 10 : Nat) : Int) by omega, h2, List.map_append, List.append_assoc]
      congr 1
      simp only [List.map_cons, List.map_nil, List.cons_append, List.nil_append]
      rw [dig_nat (show u % 10 < 10 by omega)]
      congr 1
/-- What a number is written as. -/
def fmtZ (n : Int) : List Int := if n < 0 then 45 :: fmt (-n) else fmt n
theorem dec_fmt (u : Nat) (h : u < 10 ^ 20) : ((Lib.decDigits u).map fun b => (b.toNat : Int)) = fmt (u : Int) := by
  unfold fmt
  by_cases h0 : u = 0
  · subst h0
    rw [if_pos (show ((0 : Nat) : Int) = 0 from rfl), Lib.decDigits]
    rfl
  · rw [if_neg (by omega), dec_fmtF 20 u [] (by omega) h, List.append_nil]
theorem itoa_fmtZ (n : Int) (h0 : -9223372036854775808 ≤ n) (h1 : n ≤ 9223372036854775807) : ((Lib.itoa n).map fun b => (b.toNat : Int)) = fmtZ n := by
  unfold Lib.itoa fmtZ
  by_cases h : n < 0
  · rw [if_pos h, if_pos h, List.map_cons, dec_fmt n.natAbs (by omega), show ((n.natAbs : Nat) : Int) = -n by omega]
    rfl
  · rw [if_neg h, if_neg h, dec_fmt n.toNat (by omega), show ((n.toNat : Nat) : Int) = n by omega]
theorem bytesOf_itoa (n : Int) (h0 : -9223372036854775808 ≤ n) (h1 : n ≤ 9223372036854775807) : bytesOf (⟨(Lib.itoa n).toArray⟩ : ByteArray) = fmtZ n := by
  rw [← itoa_fmtZ n h0 h1]; rfl
theorem fmtZ_bytes (n : Int) : isBytes (fmtZ n) := by
  unfold fmtZ
  split
  · intro x hx
    rcases List.mem_cons.mp hx with rfl | hx
    · omega
    · exact fmt_bytes _ x hx
  · exact fmt_bytes n
theorem itoa_str (n : Int) (h0 : -9223372036854775808 ≤ n) (h1 : n ≤ 9223372036854775807) : (⟨(Lib.itoa n).toArray⟩ : ByteArray).toList = (strOfNums (fmtZ n)).toList :=
  (toList_iff _ _).mpr (by rw [bytesOf_itoa n h0 h1, bytesOf_str (fmtZ_bytes n)])
theorem fmtF_digs : ∀ (f : Nat) (n : Int) (a : List Int), isDigs a → isDigs (fmtF f n a) := by
  intro f
  induction f with
  | zero => intro n a h; exact h
  | succ f ih =>
    intro n a h
    unfold fmtF
    split
    · exact h
    · refine ih _ _ (fun d hd => ?_)
      rcases List.mem_cons.mp hd with rfl | hd
      · omega
      · exact h d hd
theorem fmt_digs (n : Int) : isDigs (fmt n) := by
  unfold fmt
  split
  · intro d hd
    have : d = 48 := by simpa using hd
    omega
  · exact fmtF_digs _ _ _ (fun d hd => by simp at hd)
theorem valF_fmtF : ∀ (f : Nat) (n : Int) (a : List Int), 0 ≤ n → n < 10 ^ f → valF 0 (fmtF f n a) = valF n a := by
  intro f
  induction f with
  | zero => intro n a h0 h1; have : n = 0 := by simp at h1; omega
            rw [this]; rfl
  | succ f ih =>
    intro n a h0 h1
    unfold fmtF
    by_cases h : n = 0
    · rw [if_pos h, h]
    · rw [if_neg h, ih (n / 10) _ (by omega) (by rw [Int.pow_succ] at h1; omega)]
      show valF (dig (n / 10) (48 + n % 10)) a = valF n a
      rw [show dig (n / 10) (48 + n % 10) = n by unfold dig; omega]
theorem val_fmt (n : Int) (h0 : 0 ≤ n) (h1 : n ≤ 9223372036854775807) : valF 0 (fmt n) = n := by
  unfold fmt
  by_cases h : n = 0
  · rw [if_pos h, h]; rfl
  · rw [if_neg h, valF_fmtF 20 n [] h0 (by omega)]; rfl
theorem fmtF_fuel : ∀ (f : Nat) (n : Int) (a : List Int), 0 ≤ n → n < 10 ^ f → ∀ g, f ≤ g → fmtF g n a = fmtF f n a := by
  intro f
  induction f with
  | zero => intro n a h0 h1 g _; have : n = 0 := by simp at h1; omega
            rw [this, fmtF_zero, fmtF_zero]
  | succ f ih =>
    intro n a h0 h1 g hg
    obtain ⟨g, rfl⟩ : ∃ m, g = m + 1 := ⟨g - 1, by omega⟩
    unfold fmtF
    by_cases h : n = 0
    · rw [if_pos h, if_pos h]
    · rw [if_neg h, if_neg h]
      exact ih _ _ (by omega) (by rw [Int.pow_succ] at h1; omega) g (by omega)
theorem fmt_len13 (n : Int) (h0 : 0 ≤ n) (h1 : n ≤ 1000000000000) : (fmt n).length ≤ 13 := by
  unfold fmt
  by_cases h : n = 0
  · rw [if_pos h]; simp
  · rw [if_neg h, fmtF_fuel 13 n [] h0 (by omega) 20 (by omega)]
    simpa using fmtF_length 13 n []
theorem fmt_first (n : Int) (h0 : 0 ≤ n) (h1 : n ≤ 9223372036854775807) : 1 ≤ (fmt n).length ∧ ¬ (1 < (fmt n).length ∧ rd (fmt n) 0 = 48) := by
  unfold fmt
  by_cases h : n = 0
  · rw [if_pos h]; simp
  · rw [if_neg h]
    obtain ⟨x, t, e, e1, e2⟩ := fmtF_head 20 n [] (by omega) (by omega)
    rw [e]
    refine ⟨by simp, fun hh => ?_⟩
    have : rd (x :: t) 0 = x := rfl
    omega
end Go.Proofs.YtonocoedbihfeaaDoor.It
