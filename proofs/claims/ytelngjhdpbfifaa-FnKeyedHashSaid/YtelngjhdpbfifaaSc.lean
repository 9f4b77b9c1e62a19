/- '[]byte(s)': the bytes, read behind the conversion; what was there is there. -/
import Derived.WalkKit
import Derived.Lib.ConvBytes
import Derived.Below
import Derived.Test.YtelngjhdpbfifaaWWords
namespace Go.Proofs.Ytelngjhdpbfifaa.Sc
open Go Go.RowKit Go.Proofs.YtelngjhdpbfifaaW.PrintWords
set_option linter.unusedVariables false
set_option linter.unusedSimpArgs false
/-- The bytes of a string. -/
def bs (s : ByteArray) : List Int := s.data.toList.map fun b => (b.toNat : Int)
theorem bs_length (s : ByteArray) : (bs s).length = s.size := by
  unfold bs
  rw [List.length_map, Array.length_toList]
  rfl
theorem bs_range (s : ByteArray) : ∀ x ∈ bs s, 0 ≤ x ∧ x ≤ 255 := by
  intro x hx
  obtain ⟨b, _, rfl⟩ := List.mem_map.mp hx
  have := b.toNat_lt
  omega
theorem bs_getD (s : ByteArray) {j : Nat} {p : Int} (h : (bs s)[j]? = some p) : p = ((s.data.toList.getD j 0).toNat : Int) := by
  simp only [bs, List.getElem?_map, Option.map_eq_some_iff] at h
  obtain ⟨b, hb, rfl⟩ := h
  rw [List.getD_eq_getElem?_getD, hb]
  rfl
theorem conv_below {w0 w : World} (e : TypeId) (s : ByteArray) (h : Below w0.heap.size w0 w) : Below w0.heap.size w0 (Lib.bytesWorld w e s) := by
  refine h.trans ⟨?_, ?_, ?_, ?_, fun k hk => Lib.bytesWorld_at_old w e s k (Nat.lt_of_lt_of_le hk h.size)⟩
  · simp [Lib.bytesWorld, World.freeze, World.alloc, World.drew, -World.alloc_eq, -World.drew_eq]
  · simp [Lib.bytesWorld, World.freeze, World.alloc, World.drew, -World.alloc_eq, -World.drew_eq]
  · simp [Lib.bytesWorld, World.freeze, World.alloc, World.drew, -World.alloc_eq, -World.drew_eq]
  · rw [Lib.bytesWorld_size]; omega
theorem conv_reads (w : World) (e : TypeId) (s : ByteArray) (hs : s.size ≤ 1048576) : Kd.C (Kd.int .u8) (Lib.bytesWorld w e s) (some ⟨w.heap.size, 0, none⟩) (bs s).length (bs s) := by
  refine ⟨rfl, by rw [bs_length]; omega, fun _ => ⟨_, rfl, fun j p hp => ⟨[.int .u8 p], rfl, rfl, fun i u hu => ?_⟩⟩⟩
  have hj : j < s.size := by
    rcases Nat.lt_or_ge j (bs s).length with h | h
    · rw [bs_length] at h; exact h
    · rw [List.getElem?_eq_none h] at hp; cases hp
  cases i with
  | succ i => simp at hu
  | zero =>
    have hu' : Value.int .u8 p = u := by simpa using hu
    rw [← hu', bs_getD s hp, add_plain]
    have hc := Lib.bytesWorld_cell w e s j hj
    simpa [Kd.int, Kd.scalar] using hc
end Go.Proofs.Ytelngjhdpbfifaa.Sc
