/- How the script of AuditorPlays reads. -/
import Derived.Test.YtglcmlicfmmlpaaA22
import Derived.Test.YtglcmlicfmmlpaaAudRead
namespace Go.Proofs.Ytglcmlicfmmlpaa
open Go.ChangeShapes Go.WideShapes Go.ChangeAt Go.RowKit Go.Deep

def AOpQ (W : World) (N : Nat) (x : AOp) (cs : List Value) : Prop := cs = x.L ∧ AOpR W N x
theorem aops {W : World} {N : Nat} : ∀ (l : List AOp) (ys : List Value), RowsL (AOpQ W N) l ys → ys = l.flatMap AOp.L ∧ ∀ o ∈ l, AOpR W N o
  | [], ys, h => ⟨h, fun _ h => by cases h⟩
  | x :: l, ys, h => by
    obtain ⟨c, ys', rfl, ⟨rfl, h1⟩, h'⟩ := h
    obtain ⟨rfl, h3⟩ := aops l ys' h'
    refine ⟨rfl, fun o ho => ?_⟩
    rcases List.mem_cons.1 ho with rfl | ho
    · exact h1
    · exact h3 o ho
theorem sum_bound (B : Nat) : ∀ l : List AOp, (∀ o ∈ l, rowsN o ≤ B) → (l.map rowsN).sum ≤ l.length * B
  | [], _ => by simp
  | x :: l, h => by
    have h1 := sum_bound B l (fun o ho => h o (List.mem_cons_of_mem _ ho))
    have h2 := h x (List.mem_cons_self ..)
    rw [List.map_cons, List.sum_cons, List.length_cons, Nat.succ_mul]
    omega
theorem sumR_bound {l : List AOp} (h : ∀ o ∈ l, rowsN o ≤ 1048576) : sumR l 100 ≤ 1099511627776 := by
  unfold sumR
  have h1 := sum_bound 1048576 (l.take 100) (fun o ho => h o (List.mem_of_mem_take ho))
  have h2 : (l.take 100).length ≤ 100 := by rw [List.length_take]; omega
  have h3 := Nat.mul_le_mul_right 1048576 h2
  omega
end Go.Proofs.Ytglcmlicfmmlpaa
