/- The plain law of TxnOnce: how many others there are, and which ask is which. -/
import Derived.Test.YtglcmlicfmmlpaaTxnKnown
namespace Go.Proofs.Ytglcmlicfmmlpaa
open Go.RowKit

theorem othersTo_mem (me : Int) (k : Nat) (g : Int) (h : g ∈ othersTo me k) : g ≠ me ∧ 1 ≤ g ∧ g ≤ k := by
  unfold othersTo at h
  simp only [List.mem_filter, List.mem_map, List.mem_range, decide_eq_true_eq] at h
  obtain ⟨⟨i, hi, rfl⟩, hne⟩ := h
  exact ⟨by simpa using hne, by omega, by omega⟩
theorem othersTo_len (me : Int) (k : Nat) (h1 : 1 ≤ me) (h2 : me ≤ k) : (othersTo me k).length = k - 1 := by
  have key : ∀ k : Nat, (othersTo me k).length = if me ≤ k then k - 1 else k := by
    intro k
    induction k with
    | zero => rw [if_neg (by omega)]; rfl
    | succ k ih =>
      rw [othersTo_succ, List.length_append, ih]
      by_cases e : (k : Int) + 1 = me
      · rw [if_pos e, if_neg (by omega), if_pos (by omega)]; simp
      · rw [if_neg e]
        by_cases h : me ≤ k
        · rw [if_pos h, if_pos (by omega)]; simp; omega
        · rw [if_neg h, if_neg (by omega)]; simp
  rw [key, if_pos h2]
theorem asksL_len (me : Int) (k : Nat) (T : List Txn) : (asksL me k T).length = T.length * (othersTo me k).length := by
  induction T with
  | nil => simp [asksL]
  | cons t T ih => simp only [asksL, List.length_append, List.length_map, ih, List.length_cons, Nat.add_mul]; omega
/-- Ask i is one for transfer i / the number of the others. -/
theorem asksL_get (me : Int) (k : Nat) (T : List Txn) (i : Nat) (x : Int × Cmd) (h : (asksL me k T)[i]? = some x) :
    ∃ t, T[i / (othersTo me k).length]? = some t ∧ x.2 = cmdOf t ∧ x.1 ∈ othersTo me k := by
  induction T generalizing i with
  | nil => simp [asksL] at h
  | cons t T ih =>
    simp only [asksL] at h
    rcases Nat.lt_or_ge i (othersTo me k).length with hlt | hge
    · rw [List.getElem?_append_left (by simpa using hlt), List.getElem?_map] at h
      cases hq : (othersTo me k)[i]? with
      | none => rw [hq] at h; cases h
      | some g =>
        rw [hq] at h
        cases h
        exact ⟨t, by rw [Nat.div_eq_of_lt hlt]; rfl, rfl, List.mem_of_getElem? hq⟩
    · rw [List.getElem?_append_right (by simpa using hge)] at h
      simp only [List.length_map] at h
      obtain ⟨t', h1, h2, h3⟩ := ih _ h
      have hp : 0 < (othersTo me k).length := by
        rcases Nat.eq_zero_or_pos (othersTo me k).length with h0 | h0
        · have : othersTo me k = [] := List.eq_nil_of_length_eq_zero h0
          rw [this] at h3; cases h3
        · exact h0
      refine ⟨t', ?_, h2, h3⟩
      have e : i / (othersTo me k).length = (i - (othersTo me k).length) / (othersTo me k).length + 1 := by
        conv => lhs; rw [show i = (i - (othersTo me k).length) + (othersTo me k).length by omega]
        exact Nat.add_div_right _ hp
      rw [e]
      exact h1
def txnCells (t : Txn) : List Value := [.string t.id, .string t.src, .string t.key, .string t.dst, .int .i64 t.n, .bool t.done, .int .i64 t.why]
theorem txnCells_len (t : Txn) : (txnCells t).length = 7 := rfl
theorem txnR_flat (T : List Txn) : RowsL TxnR T (T.flatMap txnCells) := by
  induction T with
  | nil => rfl
  | cons t T ih => exact ⟨txnCells t, T.flatMap txnCells, by simp, rfl, ih⟩
theorem txnCells_one (t : Txn) : ∀ u ∈ txnCells t, u.oneCell' = true := by
  intro u hu
  simp [txnCells] at hu
  rcases hu with rfl | rfl | rfl | rfl | rfl | rfl | rfl <;> rfl
theorem ei_txn : EI Try.prog 40 (.agg #[.string ⟨#[]⟩, .string ⟨#[]⟩, .string ⟨#[]⟩, .string ⟨#[]⟩, .int .i64 0, .bool false, .int .i64 0]) 7 88 := ei_of (by kernel_rfl) rfl (by omega)
theorem bd_txn7 (a b c d : ByteArray) (n : Int) (e : Bool) (f : Int) (w : World) : (Instr.build 40 #[(0, .string a), (1, .string b), (2, .string c), (3, .string d), (4, .int .i64 n), (5, .bool e), (6, .int .i64 f)]).run Try.prog w = .ok (.agg #[.string a, .string b, .string c, .string d, .int .i64 n, .bool e, .int .i64 f]) w := by kernel_rfl
theorem cmdOf_done (id src key dst : ByteArray) (n why : Int) : cmdOf ⟨id, src, key, dst, n, true, why⟩ = { cmd0 with kind := 4, id := id, name := dst, why := if why = 0 then 0 else 50 } := rfl
theorem cmdOf_open (id src key dst : ByteArray) (n why : Int) : cmdOf ⟨id, src, key, dst, n, false, why⟩ = { cmd0 with kind := 2, id := id, name := dst, n := n } := rfl
theorem asksP_le (me n : Int) (T : List Txn) (h : n ≤ 3) : asksP me n T = asksL me n.toNat T := if_neg (by omega)
theorem next_yes {c : Cmd} {y : Int} {nc : Cmd} (h : nextC c y = (nc, true)) : y ≠ 5 ∧ y ≠ 1 ∧ y ≠ 2 ∧ nc.id = c.id := by
  unfold nextC at h
  by_cases h1 : y = 5 ∨ y = 1 ∨ y = 2
  · rw [if_pos h1] at h; cases h
  · rw [if_neg h1] at h
    refine ⟨by omega, by omega, by omega, ?_⟩
    split at h
    · cases h; rfl
    · split at h
      · cases h; rfl
      · cases h
end Go.Proofs.Ytglcmlicfmmlpaa
