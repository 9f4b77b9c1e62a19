/- Plain laws on decimal digits: what a number is written as, what a list of digits tells; no program. -/
import Derived.Test.YtonocoedbihfeaaDoorLst
import Derived.Laws.BytesArg
import Derived.WideShapes
import Derived.Lib.Strings
namespace Go.Proofs.YtonocoedbihfeaaDoor.Pn
open Go Go.RowKit Go.Proofs.YtonocoedbihfeaaDoorW.PrintWords Go.Proofs.YtonocoedbihfeaaDoor.Base Go.Proofs.YtonocoedbihfeaaDoor.Lst
set_option linter.unusedVariables false
set_option linter.unusedSimpArgs false

/-- The digits of x ahead of those that are there. -/
def fmtF : Nat → Int → List Int → List Int
  | 0, _, a => a
  | f + 1, x, a => if x = 0 then a else fmtF f (x / 10) ((48 + x % 10) :: a)
/-- What a number from 0 on is written as. -/
def fmt (n : Int) : List Int := if n = 0 then [48] else fmtF 20 n []
/-- One digit more. -/
def dig (a d : Int) : Int := 10 * a + (d - 48)
def valF (a : Int) (l : List Int) : Int := l.foldl dig a
def isDigs (l : List Int) : Prop := ∀ d ∈ l, 48 ≤ d ∧ d ≤ 57
theorem fmtF_zero (f : Nat) (a : List Int) : fmtF f 0 a = a := by cases f <;> simp [fmtF]
theorem fmtF_app (f : Nat) (v d : Int) (a : List Int) (hv : 0 ≤ v) (hd : 48 ≤ d ∧ d ≤ 57) (hn : 10 * v + (d - 48) ≠ 0) : fmtF (f + 1) (10 * v + (d - 48)) a = fmtF f v (d :: a) := by
  unfold fmtF
  rw [if_neg hn]
  have e1 : (10 * v + (d - 48)) / 10 = v := by omega
  have e2 : 48 + (10 * v + (d - 48)) % 10 = d := by omega
  rw [e1, e2]
  cases f <;> rfl
theorem valF_mono (l : List Int) : ∀ a, 0 ≤ a → isDigs l → a ≤ valF a l := by
  induction l with
  | nil => intro a _ _; exact Int.le_refl _
  | cons d l ih =>
    intro a ha hd
    have h := hd d (by simp)
    have := ih (dig a d) (by unfold dig; omega) (fun x hx => hd x (by simp [hx]))
    show a ≤ valF (dig a d) l
    unfold dig at *
    omega
theorem valF_pos {d : Int} {l : List Int} (hd : isDigs (d :: l)) (h : d ≠ 48) : 0 < valF 0 (d :: l) := by
  have h0 := hd d (by simp)
  have := valF_mono l (dig 0 d) (by unfold dig; omega) (fun x hx => hd x (by simp [hx]))
  show 0 < valF (dig 0 d) l
  unfold dig at *
  omega
theorem valF_snoc (a : Int) (l : List Int) (d : Int) : valF a (l ++ [d]) = 10 * valF a l + (d - 48) := by
  unfold valF
  rw [List.foldl_append]
  rfl
/-- Digits without a zero at the head are what their number is written as. -/
theorem fmtF_val : ∀ (n : Nat) (l : List Int) (f : Nat) (a : List Int), l.length = n → n ≤ f → isDigs l → l.head? ≠ some 48 → fmtF f (valF 0 l) a = l ++ a := by
  intro n
  induction n with
  | zero =>
    intro l f a hl _ _ _
    have : l = [] := List.length_eq_zero_iff.mp hl
    subst this
    exact fmtF_zero f a
  | succ n ih =>
    intro l f a hl hf hd hh
    obtain ⟨f, rfl⟩ : ∃ m, f = m + 1 := ⟨f - 1, by omega⟩
    have hne : l ≠ [] := by intro e; rw [e] at hl; simp at hl
    have hsplit := List.dropLast_concat_getLast hne
    generalize l.dropLast = m at hsplit
    generalize l.getLast hne = d at hsplit
    subst hsplit
    have hm : m.length = n := by simpa using hl
    have hd1 : 48 ≤ d ∧ d ≤ 57 := hd d (by simp)
    have hdm : isDigs m := fun x hx => hd x (by simp [hx])
    rw [valF_snoc]
    cases m with
    | nil =>
      have h48 : d ≠ 48 := fun e => hh (by simp [e])
      have hz : valF 0 ([] : List Int) = 0 := rfl
      rw [hz, fmtF_app f 0 d a (by omega) hd1 (by omega), fmtF_zero]
      rfl
    | cons c m =>
      have hc : c ≠ 48 := fun e => hh (by simp [e])
      have hp := valF_pos hdm hc
      rw [fmtF_app f _ d a (by omega) hd1 (by omega), ih (c :: m) f (d :: a) hm (by omega) hdm (by simpa using hc)]
      simp
theorem fmtF_head : ∀ (f : Nat) (n : Int) (a : List Int), 0 < n → n < 10 ^ f → ∃ h t, fmtF f n a = h :: t ∧ 49 ≤ h ∧ h ≤ 57 := by
  intro f
  induction f with
  | zero => intro n a h0 h1; simp at h1; omega
  | succ f ih =>
    intro n a h0 h1
    unfold fmtF
    rw [if_neg (by omega)]
    by_cases hn : n < 10
    · rw [show n / 10 = 0 by omega, fmtF_zero]
      exact ⟨_, _, rfl, by omega, by omega⟩
    · exact ih (n / 10) _ (by omega) (by rw [Int.pow_succ] at h1; omega)
/-- A list of digits is what its number is written as unless it has a zero ahead of others. -/
theorem fmt_iff {l : List Int} (hd : isDigs l) (h1 : 1 ≤ l.length) (h13 : l.length ≤ 13) (hv : valF 0 l ≤ 1000000000000) : fmt (valF 0 l) = l ↔ ¬ (1 < l.length ∧ rd l 0 = 48) := by
  cases l with
  | nil => simp at h1
  | cons c m =>
    have hr : rd (c :: m) 0 = c := rfl
    have h0 := valF_mono (c :: m) 0 (by omega) hd
    by_cases hc : c = 48
    · subst hc
      cases m with
      | nil =>
        have hz : valF 0 [48] = 0 := rfl
        rw [hz]
        simp [fmt]
      | cons b m =>
        constructor
        · intro h
          exfalso
          unfold fmt at h
          by_cases hz : valF 0 (48 :: b :: m) = 0
          · rw [if_pos hz] at h
            simp at h
          · rw [if_neg hz] at h
            obtain ⟨x, t, e, e1, e2⟩ := fmtF_head 20 (valF 0 (48 :: b :: m)) [] (by omega) (by omega)
            rw [e] at h
            have := (List.cons.inj h).1
            omega
        · intro h
          exact absurd ⟨by simp, hr⟩ h
    · have hp := valF_pos hd hc
      constructor
      · rintro _ ⟨_, h⟩; exact hc (hr.symm.trans h)
      · intro _
        unfold fmt
        rw [if_neg (by omega), fmtF_val (c :: m).length (c :: m) 20 [] rfl (by omega) hd (by simpa using hc), List.append_nil]

/-! ### Strings as lists of numbers -/
theorem str_cons (v : Int) (a : List Int) : strOfNums [v] ++ strOfNums a = strOfNums (v :: a) := by
  apply WideShapes.bytes_inj
  show (strOfNums [v] ++ strOfNums a).data.toList = _
  rw [show (strOfNums [v] ++ strOfNums a).data.toList = (strOfNums [v]).data.toList ++ (strOfNums a).data.toList by simp]
  rfl
theorem bytesOf_str {a : List Int} (h : isBytes a) : bytesOf (strOfNums a) = a := by
  unfold bytesOf
  rw [strOfNums_data, List.map_map]
  conv => rhs; rw [← List.map_id a]
  apply List.map_congr_left
  intro x hx
  have := h x hx
  simp only [Function.comp, id]
  rw [UInt8.toNat_ofNat']
  omega
theorem bytesOf_bytes (s : ByteArray) : isBytes (bytesOf s) := by
  intro x hx
  unfold bytesOf at hx
  simp only [List.mem_map] at hx
  obtain ⟨b, _, rfl⟩ := hx
  have := b.toNat_lt
  omega
theorem toList_iff (a b : ByteArray) : a.toList = b.toList ↔ bytesOf a = bytesOf b := by
  rw [ByteArray.toList_eq, ByteArray.toList_eq]
  constructor
  · intro h; unfold bytesOf; rw [h]
  · intro h
    unfold bytesOf at h
    exact (List.map_inj_right (fun x y e => UInt8.toNat_inj.mp (by omega))).mp h
theorem fmtF_bytes : ∀ (f : Nat) (n : Int) (a : List Int), isBytes a → isBytes (fmtF f n a) := by
  intro f
  induction f with
  | zero => intro n a h; exact h
  | succ f ih =>
    intro n a h
    unfold fmtF
    split
    · exact h
    · exact ih _ _ (fun x hx => by
        rcases List.mem_cons.mp hx with e | e
        · omega
        · exact h x e)
theorem fmt_bytes (n : Int) : isBytes (fmt n) := by
  unfold fmt
  split
  · intro x hx; simp only [List.mem_singleton] at hx; omega
  · exact fmtF_bytes _ _ _ (fun x hx => by simp at hx)
theorem fmtF_length : ∀ (f : Nat) (n : Int) (a : List Int), (fmtF f n a).length ≤ a.length + f := by
  intro f
  induction f with
  | zero => intro n a; simp [fmtF]
  | succ f ih =>
    intro n a
    unfold fmtF
    split
    · omega
    · have := ih (n / 10) ((48 + n % 10) :: a)
      simp only [List.length_cons] at this
      omega

end Go.Proofs.YtonocoedbihfeaaDoor.Pn
