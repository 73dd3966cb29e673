/- The fixed calls of the mover's laws. -/
import Derived.Test.YtglcmlicfmmlpaaMover7
namespace Go.Proofs.Ytglcmlicfmmlpaa
open Go.RowKit

def zeros (n : Nat) : List UInt8 := List.replicate n 0
theorem zeros_len (n : Nat) : (zeros n).length = n := List.length_replicate ..
/-- How many zeros the fixed calls take. -/
def k1500 : Nat := 1500
theorem k1500_eq : k1500 = 1500 := rfl
def z1500 : Array Value := ((zeros k1500).map bcell).toArray
theorem made_bytes (n : Nat) : madeCells (Value.int .u8 0).cells (n * 1) = ((zeros n).map bcell).toArray := by
  apply Array.ext
  · simp [madeCells, zeros]
  · intro i h1 h2
    simp [madeCells, zeros, Value.cells, Nat.mod_one, bcell]
theorem mk1500 (w : World) : (Instr.makeSlice 26 (.int .i64 1500) (.int .i64 1500)).run Try.prog w = .ok (.slice (some ⟨w.heap.size, 0, none⟩) 1500 1500) (w.alloc (.cells z1500 5)) := by
  obtain ⟨i0, hi, hz0, hz1, hz2⟩ := info_parts info_u8
  have h := run_makeSlice (P := Try.prog) w 26 5 i0 (.int .u8 0) Try.underlying26 hi hz0 .i64 .i64 1500 1500 (by omega) (by omega) (by rw [hz1]; decide) (by rw [hz2]; decide) (by decide)
  rw [hz1, show Int.toNat 1500 = k1500 from rfl, made_bytes] at h
  exact h
theorem bd_resD (A : Option Addr) (n k : Nat) (w : World) : (Instr.build 53 #[(3, .slice A n k)]).run Try.prog w = .ok (resV 0 false 0 0 (.slice none 0 0) (.slice A n k)) w := by kernel_rfl
abbrev kx1 : Mv := ⟨3, 1, 2, 1, 1, 1⟩
abbrev kx2 : Mv := ⟨3, 1, 2, 1, 2, 1⟩
abbrev kc8 : Cmd := { cmd0 with kind := 8, slot := 3, epoch := 1 }
abbrev kc9 : Cmd := { cmd0 with kind := 9, slot := 3, epoch := 1, at_ := 0, last := false }
abbrev kc9b : Cmd := { cmd0 with kind := 9, slot := 3, epoch := 1, at_ := 1000, last := true }
theorem k_know1 : mKnow ⟨0, none, 0⟩ kx1 = ⟨1, none, 0⟩ := rfl
theorem k_next1 : mNext ⟨1, none, 0⟩ kx1 = some (1, kc8, []) := rfl
theorem k_told1 : mTold ⟨1, none, 0⟩ kx1 1 kc8 0 0 (zeros k1500) = (⟨1, some (zeros k1500), 0⟩, true) := by
  unfold mTold
  rw [if_pos ⟨rfl, rfl, rfl⟩]
  unfold mHear
  rw [if_pos rfl, if_pos ⟨rfl, .inl rfl⟩]
  have h0 : (mKnow ⟨1, none, 0⟩ kx1) = ⟨1, none, 0⟩ := rfl
  rw [h0]
  simp
theorem k_know2 : mKnow ⟨1, some (zeros k1500), 0⟩ kx2 = ⟨1, some (zeros k1500), 0⟩ := rfl
theorem k_next2 : mNext ⟨1, some (zeros k1500), 0⟩ kx2 = some (2, kc9, (zeros k1500).take 1000) := by
  unfold mNext
  rw [if_neg (by simp), if_pos (by simp)]
  have hb : ∀ q, MS.bytes ⟨1, some (zeros k1500), q⟩ = zeros k1500 := fun _ => rfl
  simp only [hb, zeros_len]
  rfl
theorem k_told2 : mTold ⟨1, some (zeros k1500), 0⟩ kx2 2 kc9 1000 0 [] = (⟨1, some (zeros k1500), 1000⟩, false) := by
  unfold mTold
  rw [if_pos ⟨rfl, rfl, rfl⟩, k_know2]
  unfold mHear
  rw [if_neg (by simp), if_pos rfl, if_pos ⟨rfl, rfl, rfl⟩, if_pos rfl]
  have hb : ∀ q, MS.bytes ⟨1, some (zeros k1500), q⟩ = zeros k1500 := fun _ => rfl
  simp only [hb, zeros_len]
  rfl
theorem k_know3 : mKnow ⟨1, some (zeros k1500), 1000⟩ kx2 = ⟨1, some (zeros k1500), 1000⟩ := rfl
theorem k_next3 : mNext ⟨1, some (zeros k1500), 1000⟩ kx2 = some (2, kc9b, ((zeros k1500).drop 1000).take 500) := by
  unfold mNext
  rw [if_neg (by simp), if_pos (by simp)]
  have hb : ∀ q, MS.bytes ⟨1, some (zeros k1500), q⟩ = zeros k1500 := fun _ => rfl
  simp only [hb, zeros_len]
  rfl
end Go.Proofs.Ytglcmlicfmmlpaa
