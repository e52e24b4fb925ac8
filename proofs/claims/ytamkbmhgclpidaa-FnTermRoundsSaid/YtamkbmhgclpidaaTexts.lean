/- The laws' own words on lists of texts: marked, held. -/
import Derived.Test.YtamkbmhgclpidaaInts
import Derived.Test.YtamkbmhgclpidaaEach
namespace Go.Proofs.Ytamkbmhgclpidaa
set_option maxRecDepth 100000
set_option linter.unusedSimpArgs false
set_option linter.unusedVariables false
open Go Go.RowKit

/-- the digits of k ahead of a text -/
def decF : Nat → Nat → Str → Str
  | 0, _, acc => acc
  | f + 1, k, acc => if k = 0 then acc else decF f (k / 10) (UInt8.ofNat (48 + k % 10) :: acc)
def markT (k : Nat) : Str := if k = 0 then [109, 48] else 109 :: decF k k []
theorem decF_zero (f : Nat) (acc : Str) : decF f 0 acc = acc := by cases f <;> simp [decF]
def marksT (k : Nat) (n : Nat) : Grid := (List.range n).map fun i : Nat => markT (k + i)
theorem marksT_len (k n : Nat) : (marksT k n).length = n := by simp [marksT]
theorem marksT_get (k n i : Nat) (h : i < n) : (marksT k n).getD i [] = markT (k + i) := by
  unfold marksT
  rw [List.getD_eq_getElem?_getD, List.getElem?_map, List.getElem?_range h]; rfl
theorem marksT_of {g : Grid} {k n : Nat} (hl : g.length = n) (h : ∀ j, j < n → g.getD j [] = markT (k + j)) : g = marksT k n :=
  ext_getD (by rw [hl, marksT_len]) fun j hj => by rw [marksT_len] at hj; rw [h j hj, marksT_get k n j hj]
theorem decF_len : ∀ (f k : Nat) (acc : Str), (decF f k acc).length ≤ f + acc.length
  | 0, k, acc => by simp [decF]
  | f + 1, k, acc => by
    rw [decF]
    split
    · omega
    · have := decF_len f (k / 10) (UInt8.ofNat (48 + k % 10) :: acc)
      rw [List.length_cons] at this
      omega
theorem Own.byte1 (c : UInt8) : Own rByte [rByte.val c].toArray 1 [c] := ⟨by simp [show rByte.sz = 1 from rfl], by simp, by decide, by unfold Rw; rw [flat_one rfl]; rfl⟩
theorem byteOf (k : Nat) (h : k < 256) : IntKind.u8.wrap (k : Int) = ((UInt8.ofNat k).toNat : Int) := by
  rw [UInt8.toNat_ofNat_of_lt' h]
  exact IntWalk.u8_in _ ⟨by omega, by omega⟩

end Go.Proofs.Ytamkbmhgclpidaa
