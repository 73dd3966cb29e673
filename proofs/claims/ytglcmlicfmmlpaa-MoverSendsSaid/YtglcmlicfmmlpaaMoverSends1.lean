/- The law MoverSends: what its steps come to, plainly. -/
import Derived.Test.YtglcmlicfmmlpaaMover9
namespace Go.Proofs.Ytglcmlicfmmlpaa
open Go.RowKit

abbrev sx : Mv := ⟨3, 1, 2, 4, 2, 7⟩
abbrev sc8 : Cmd := { cmd0 with kind := 8, slot := 3, epoch := 4 }
abbrev sc9 (q : Nat) (last : Bool) : Cmd := { cmd0 with kind := 9, slot := 3, epoch := 4, at_ := q, last := last }
theorem s_know0 : mKnow ⟨0, none, 0⟩ sx = ⟨7, none, 0⟩ := rfl
theorem s_next0 : mNext ⟨7, none, 0⟩ sx = some (1, sc8, []) := rfl
theorem s_told0 (bs : List UInt8) : mTold ⟨7, none, 0⟩ sx 1 sc8 0 0 bs = (⟨7, some bs, 0⟩, false) := by
  unfold mTold
  rw [if_pos ⟨rfl, rfl, rfl⟩]
  have h0 : mKnow ⟨7, none, 0⟩ sx = ⟨7, none, 0⟩ := rfl
  rw [h0]
  unfold mHear
  rw [if_pos rfl, if_pos ⟨rfl, .inr rfl⟩]
  simp
theorem s_know (bs : List UInt8) (q : Nat) : mKnow ⟨7, some bs, q⟩ sx = ⟨7, some bs, q⟩ := rfl
/-- Where the next piece ends. -/
def sEnd (bs : List UInt8) (q : Nat) : Nat := min (q + 1000) bs.length
theorem s_next (bs : List UInt8) (q : Nat) : mNext ⟨7, some bs, q⟩ sx = some (2, sc9 q (decide (sEnd bs q = bs.length)), (bs.drop q).take (sEnd bs q - q)) := by
  unfold mNext
  rw [if_neg (by simp), if_pos ⟨rfl, rfl⟩]
  rfl
theorem s_len (bs : List UInt8) (q : Nat) (h : q ≤ bs.length) : ((bs.drop q).take (sEnd bs q - q)).length = sEnd bs q - q := by
  simp [sEnd]; omega
theorem s_told (bs : List UInt8) (q : Nat) (last : Bool) (h : q ≤ bs.length) : mTold ⟨7, some bs, q⟩ sx 2 (sc9 q last) (sEnd bs q - q) 0 [] = (⟨7, some bs, sEnd bs q⟩, last) := by
  unfold mTold
  rw [if_pos ⟨rfl, rfl, rfl⟩, s_know]
  unfold mHear
  rw [if_neg (by simp), if_pos rfl, if_pos ⟨rfl, rfl, rfl⟩, if_pos rfl]
  have hb : MS.bytes ⟨7, some bs, q⟩ = bs := rfl
  rw [hb]
  have : min (q + (sEnd bs q - q)) bs.length = sEnd bs q := by unfold sEnd; omega
  simp [this]
theorem s_take (bs : List UInt8) (q : Nat) (h : q ≤ bs.length) : bs.take q ++ (bs.drop q).take (sEnd bs q - q) = bs.take (sEnd bs q) := by
  have h2 : sEnd bs q = q + (sEnd bs q - q) := by unfold sEnd; omega
  conv => rhs; rw [h2, List.take_add]
theorem s_end_le (bs : List UInt8) (q : Nat) (h : q ≤ bs.length) : q ≤ sEnd bs q ∧ sEnd bs q ≤ bs.length ∧ sEnd bs q ≤ q + 1000 := by unfold sEnd; omega
end Go.Proofs.Ytglcmlicfmmlpaa
