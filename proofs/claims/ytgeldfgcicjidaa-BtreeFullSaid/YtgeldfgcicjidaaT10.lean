/-
  One key put into rising pairs, taken out of them; in plain words.
-/
import Derived.Test.YtgeldfgcicjidaaT9
namespace Go.Proofs.Ytgeldfgcicjidaa
open Go.RowKit

def posK (l : List KV) (key : List UInt8) : Nat := pos (l.map lfI) key
def fndK (l : List KV) (key : List UInt8) : Bool := fnd (l.map lfI) key
def putL (key v : List UInt8) (l : List KV) : List KV := l.take (posK l key) ++ (key, v) :: l.drop (if fndK l key then posK l key + 1 else posK l key)
def delL (key : List UInt8) (l : List KV) : List KV := if fndK l key then l.take (posK l key) ++ l.drop (posK l key + 1) else l
theorem posK_le (l : List KV) (key : List UInt8) : posK l key ≤ l.length := by have := pos_le (l.map lfI) key; rwa [List.length_map] at this
theorem tw_mem {α : Type} {p : α → Bool} : ∀ {l : List α} {x : α}, x ∈ l.takeWhile p → p x = true
  | y :: l, x, h => by
    rw [List.takeWhile_cons] at h
    split at h
    · rename_i hy
      rcases List.mem_cons.1 h with rfl | h
      · exact hy
      · exact tw_mem h
    · cases h
theorem tw_take {α : Type} {p : α → Bool} : ∀ l : List α, l.take (l.takeWhile p).length = l.takeWhile p
  | [] => rfl
  | y :: l => by
    rw [List.takeWhile_cons]
    split
    · rw [List.length_cons, List.take_succ_cons, tw_take l]
    · rfl
theorem tw_at {α : Type} {p : α → Bool} : ∀ {l : List α} {x : α}, l[(l.takeWhile p).length]? = some x → p x = false
  | y :: l, x, h => by
    rw [List.takeWhile_cons] at h
    split at h
    · rw [List.length_cons, List.getElem?_cons_succ] at h
      exact tw_at h
    · rename_i hy
      rw [List.length_nil, List.getElem?_cons_zero] at h
      obtain rfl := Option.some.inj h
      simpa using hy
theorem posK_lo {l : List KV} {key : List UInt8} : ∀ x ∈ l.take (posK l key), cmpB x.1 key < 0 := fun x hx => by
  have h1 : lfI x ∈ (l.map lfI).take (posK l key) := by rw [← List.map_take]; exact List.mem_map_of_mem hx
  unfold posK pos at h1
  rw [tw_take] at h1
  have h2 := tw_mem h1
  exact of_decide_eq_true h2
theorem posK_at {l : List KV} {key : List UInt8} {x : KV} (h : l[posK l key]? = some x) : ¬ cmpB x.1 key < 0 := fun hx => by
  have h2 : (l.map lfI)[posK l key]? = some (lfI x) := by rw [List.getElem?_map, h]; rfl
  unfold posK pos at h2
  have h3 := tw_at h2
  rw [show decide (cmpB (lfI x).k key < 0) = true from decide_eq_true hx] at h3
  cases h3
theorem KSrt.lt {l : List KV} (h : KSrt l) {i j : Nat} {x y : KV} (hij : i < j) (hx : l[i]? = some x) (hy : l[j]? = some y) : cmpB x.1 y.1 < 0 := by
  obtain ⟨h1, rfl⟩ := List.getElem?_eq_some_iff.1 hx
  obtain ⟨h2, rfl⟩ := List.getElem?_eq_some_iff.1 hy
  exact List.pairwise_iff_getElem.1 h i j h1 h2 hij
theorem posK_hi {l : List KV} {key : List UInt8} (h : KSrt l) : ∀ x ∈ l.drop (posK l key), ¬ cmpB x.1 key < 0 := fun x hx hlt => by
  obtain ⟨j, hj⟩ := List.getElem?_of_mem hx
  rw [List.getElem?_drop] at hj
  rcases Nat.eq_zero_or_pos j with rfl | h0
  · exact posK_at hj hlt
  · have hj2 := (List.getElem?_eq_some_iff.1 hj).1
    have hy := List.getElem?_eq_getElem (l := l) (i := posK l key) (by omega)
    have := h.lt (by omega) hy hj
    exact posK_at hy (cmpB_trans _ _ _ this hlt)
theorem fndK_iff {l : List KV} {key : List UInt8} : fndK l key = true ↔ ∃ x, l[posK l key]? = some x ∧ x.1 = key := by
  unfold fndK fnd
  have e : pos (l.map lfI) key = posK l key := rfl
  rw [e, List.getElem?_map]
  cases l[posK l key]? with
  | none => simp
  | some x =>
    simp only [Option.map_some, decide_eq_true_eq, Option.some.injEq, exists_eq_left']
    exact ⟨fun h => cmpB_eq _ _ h, fun h => by rw [← h]; exact cmpB_self _⟩
/-- Where a key's place is the one of its part. -/
theorem posK_of {l : List KV} {key : List UInt8} {i : Nat} (hi : i ≤ l.length) (h1 : ∀ x ∈ l.take i, cmpB x.1 key < 0) (h2 : ∀ x, l[i]? = some x → ¬ cmpB x.1 key < 0) : posK l key = i := by
  refine pos_of (by rw [List.length_map]; exact hi) (fun q x hq hx => ?_) (fun x hx => ?_)
  · rw [List.getElem?_map] at hx
    cases hl : l[q]? with
    | none => rw [hl] at hx; cases hx
    | some y =>
      rw [hl] at hx
      obtain rfl := Option.some.inj hx
      exact h1 y (List.mem_of_getElem? (i := q) (by rw [List.getElem?_take_of_lt hq]; exact hl))
  · rw [List.getElem?_map] at hx
    cases hl : l[i]? with
    | none => rw [hl] at hx; cases hx
    | some y =>
      rw [hl] at hx
      obtain rfl := Option.some.inj hx
      exact h2 y hl
theorem pos_loc {A m B : List KV} {key : List UInt8} (hA : ∀ x ∈ A, cmpB x.1 key < 0) (hB : ∀ x ∈ B, cmpB key x.1 < 0) : posK (A ++ m ++ B) key = A.length + posK m key ∧ fndK (A ++ m ++ B) key = fndK m key := by
  have hle := posK_le m key
  have e : posK (A ++ m ++ B) key = A.length + posK m key := by
    refine posK_of (by simp only [List.length_append]; omega) (fun x hx => ?_) (fun x hx => ?_)
    · rw [List.append_assoc, List.take_length_add_append, List.take_append_of_le_length hle] at hx
      rcases List.mem_append.1 hx with hx | hx
      · exact hA x hx
      · exact posK_lo x hx
    · rw [List.append_assoc, List.getElem?_append_right (Nat.le_add_right _ _), Nat.add_sub_cancel_left] at hx
      rcases Nat.lt_or_ge (posK m key) m.length with h | h
      · rw [List.getElem?_append_left h] at hx
        exact posK_at hx
      · rw [List.getElem?_append_right h] at hx
        exact cmpB_lt_asymm (hB x (List.mem_of_getElem? hx))
  refine ⟨e, ?_⟩
  rw [Bool.eq_iff_iff, fndK_iff, fndK_iff, e]
  rw [List.append_assoc, List.getElem?_append_right (Nat.le_add_right _ _), Nat.add_sub_cancel_left]
  rcases Nat.lt_or_ge (posK m key) m.length with h | h
  · rw [List.getElem?_append_left h]
  · rw [List.getElem?_append_right h, List.getElem?_eq_none h]
    constructor
    · rintro ⟨x, hx, rfl⟩
      have := hB x (List.mem_of_getElem? hx)
      rw [cmpB_self] at this
      omega
    · rintro ⟨x, hx, _⟩; cases hx
/-- What is done to one key's place. -/
structure GOk (key : List UInt8) (g : List KV → List KV) (pre : List KV → Prop) : Prop where
  ok : ∀ l, (∀ x ∈ l, okKV x) → ∀ x ∈ g l, okKV x
  srt : ∀ l, KSrt l → KSrt (g l)
  len : ∀ l, (g l).length ≤ l.length + 1
  size : ∀ l, sizeN true ((g l).map lfI) ≤ sizeN true (l.map lfI) + 106
  loc : ∀ A m B, m ≠ [] → (∀ x ∈ A, cmpB x.1 key < 0) → (∀ x ∈ B, cmpB key x.1 < 0) → g (A ++ m ++ B) = A ++ g m ++ B ∧ (pre (A ++ m ++ B) → pre m)
theorem put_take {key : List UInt8} {l : List KV} : KSrt l → ∀ x ∈ l.drop (if fndK l key then posK l key + 1 else posK l key), cmpB key x.1 < 0 := fun h x hx => by
  by_cases hf : fndK l key = true
  · rw [if_pos hf] at hx
    obtain ⟨y, hy, rfl⟩ := fndK_iff.1 hf
    obtain ⟨j, hj⟩ := List.getElem?_of_mem hx
    rw [List.getElem?_drop] at hj
    exact h.lt (by omega) hy hj
  · rw [if_neg hf] at hx
    have h1 := posK_hi h x hx
    have h2 := cmpB_swap x.1 key
    obtain ⟨j, hj⟩ := List.getElem?_of_mem hx
    rw [List.getElem?_drop] at hj
    rcases Nat.eq_zero_or_pos j with rfl | h0
    · have h3 : cmpB x.1 key ≠ 0 := fun e => hf (fndK_iff.2 ⟨x, hj, cmpB_eq _ _ e⟩)
      omega
    · have hj2 := (List.getElem?_eq_some_iff.1 hj).1
      have hy := List.getElem?_eq_getElem (l := l) (i := posK l key) (by omega)
      have h4 := h.lt (by omega) hy hj
      have h5 := posK_at hy
      have h6 := cmpB_swap l[posK l key].1 key
      by_cases h7 : cmpB key x.1 < 0
      · exact h7
      · have h8 : cmpB x.1 key = 0 := by omega
        rw [cmpB_eq _ _ h8] at h4
        omega
theorem sizeN_append {leaf : Bool} (a b : List It) : sizeN leaf (a ++ b) = sizeN leaf a + sizeN leaf b := by simp [sizeN]
theorem sizeN_part {leaf : Bool} (l : List It) (i j : Nat) (h : i ≤ j) : sizeN leaf (l.take i) + sizeN leaf (l.drop j) ≤ sizeN leaf l := by
  conv => rhs; rw [← List.take_append_drop i l, sizeN_append]
  obtain ⟨q, rfl⟩ := Nat.exists_eq_add_of_le h
  rw [← List.drop_drop]
  have : sizeN leaf ((l.drop i).drop q) ≤ sizeN leaf (l.drop i) := by
    conv => rhs; rw [← List.take_append_drop q (l.drop i), sizeN_append]
    omega
  omega
theorem put_ok {key v : List UInt8} (hk : okKV (key, v)) : GOk key (putL key v) (fun _ => True) := by
  refine ⟨fun l hl x hx => ?_, fun l hl => ?_, fun l => ?_, fun l => ?_, fun A m B hm hA hB => ⟨?_, fun _ => trivial⟩⟩
  · unfold putL at hx
    rcases List.mem_append.1 hx with hx | hx
    · exact hl x (List.mem_of_mem_take hx)
    · rcases List.mem_cons.1 hx with rfl | hx
      · exact hk
      · exact hl x (List.mem_of_mem_drop hx)
  · unfold putL KSrt
    have h1 := put_take (key := key) hl
    refine List.pairwise_append.2 ⟨List.Pairwise.sublist (List.take_sublist _ _) hl, List.pairwise_cons.2 ⟨fun x hx => h1 x hx, List.Pairwise.sublist (List.drop_sublist _ _) hl⟩, fun x hx y hy => ?_⟩
    have h2 := posK_lo x hx
    rcases List.mem_cons.1 hy with rfl | hy
    · exact h2
    · exact cmpB_trans _ _ _ h2 (h1 y hy)
  · unfold putL
    simp only [List.length_append, List.length_take, List.length_cons, List.length_drop]
    split <;> omega
  · unfold putL
    rw [List.map_append, List.map_cons, List.map_take, List.map_drop]
    have h1 := sizeN_part (leaf := true) (l.map lfI) (posK l key) (if fndK l key then posK l key + 1 else posK l key) (by split <;> omega)
    have h2 : sizeN true (lfI (key, v) :: (l.map lfI).drop (if fndK l key then posK l key + 1 else posK l key)) = sizeI true (lfI (key, v)) + sizeN true ((l.map lfI).drop (if fndK l key then posK l key + 1 else posK l key)) := by simp [sizeN]
    rw [sizeN_append, h2]
    have h3 := sizeI_leaf (lfI_ok.2 hk)
    omega
  · obtain ⟨e1, e2⟩ := pos_loc hA hB
    unfold putL
    rw [e1, e2]
    have hle := posK_le m key
    have h1 : (if fndK m key = true then posK m key + 1 else posK m key) ≤ m.length := by
      split
      · rename_i hf
        obtain ⟨x, hx, _⟩ := fndK_iff.1 hf
        exact (List.getElem?_eq_some_iff.1 hx).1
      · exact hle
    have h2 : (if fndK m key = true then A.length + posK m key + 1 else A.length + posK m key) = A.length + (if fndK m key = true then posK m key + 1 else posK m key) := by split <;> omega
    rw [h2, List.append_assoc A m B, List.take_length_add_append, List.drop_length_add_append, List.take_append_of_le_length hle, List.drop_append_of_le_length h1]
    simp only [List.append_assoc, List.cons_append]
theorem put_len (key v : List UInt8) (l : List KV) : l.length ≤ (putL key v l).length := by
  unfold putL
  have := posK_le l key
  simp only [List.length_append, List.length_take, List.length_cons, List.length_drop]
  split <;> omega
theorem del_ok (key : List UInt8) : GOk key (delL key) (fun l => fndK l key = true) := by
  have hsub : ∀ l, (delL key l).Sublist l := fun l => by
    unfold delL
    split
    · conv => rhs; rw [← List.take_append_drop (posK l key) l]
      rw [← List.drop_drop (i := 1)]
      exact List.Sublist.append (List.Sublist.refl _) (List.drop_sublist _ _)
    · exact List.Sublist.refl _
  refine ⟨fun l hl x hx => hl x ((hsub l).subset hx), fun l hl => List.Pairwise.sublist (hsub l) hl, fun l => Nat.le_succ_of_le (hsub l).length_le, fun l => ?_, fun A m B hm hA hB => ?_⟩
  · unfold delL
    split
    · have := sizeN_part (leaf := true) (l.map lfI) (posK l key) (posK l key + 1) (by omega)
      rw [List.map_append, sizeN_append, List.map_take, List.map_drop]; omega
    · omega
  · obtain ⟨e1, e2⟩ := pos_loc hA hB
    refine ⟨?_, fun h => by rw [← e2]; exact h⟩
    unfold delL
    rw [e2, e1]
    split
    · rename_i hf
      obtain ⟨x, hx, _⟩ := fndK_iff.1 hf
      have h1 := (List.getElem?_eq_some_iff.1 hx).1
      rw [List.append_assoc A m B, List.take_length_add_append, Nat.add_assoc, List.drop_length_add_append, List.take_append_of_le_length (by omega), List.drop_append_of_le_length (by omega)]
      simp only [List.append_assoc]
    · rfl
end Go.Proofs.Ytgeldfgcicjidaa
