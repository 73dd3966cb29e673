/-
  Items as nodes that have room for them: in plain words.
-/
import Derived.Test.YtgeldfgcicjidaaT3
namespace Go.Proofs.Ytgeldfgcicjidaa
open Go.RowKit

section
variable {α β : Type}
theorem snoc_ind {p : List α → Prop} (h0 : p []) (h1 : ∀ l x, p l → p (l ++ [x])) (l : List α) : p l := by
  have h : ∀ r : List α, p r.reverse := by
    intro r
    induction r with
    | nil => exact h0
    | cons x r ih => rw [List.reverse_cons]; exact h1 _ _ ih
  have := h l.reverse
  rwa [List.reverse_reverse] at this
/-- What was packed: full ones, the last one, its size. -/
def pkStep (sz : α → Nat) (q : Option (List (List α) × List α × Nat)) (x : α) : Option (List (List α) × List α × Nat) := match q with
  | none => some ([], [x], 2 + sz x)
  | some (C, c, s) => if 252 < s + sz x ∨ 64 ≤ c.length then some (C ++ [c], [x], 2 + sz x) else some (C, c ++ [x], s + sz x)
def pkS (sz : α → Nat) (l : List α) : Option (List (List α) × List α × Nat) := l.foldl (pkStep sz) none
def pkL : Option (List (List α) × List α × Nat) → List (List α)
  | none => []
  | some (C, c, _) => C ++ [c]
def parts (sz : α → Nat) (l : List α) : List (List α) := pkL (pkS sz l)
theorem pkS_snoc (sz : α → Nat) (l : List α) (x : α) : pkS sz (l ++ [x]) = pkStep sz (pkS sz l) x := by simp [pkS]
def pkMap (f : α → β) : Option (List (List α) × List α × Nat) → Option (List (List β) × List β × Nat)
  | none => none
  | some (C, c, s) => some (C.map (List.map f), c.map f, s)
theorem pkS_map {sz : α → Nat} {sz' : β → Nat} {f : α → β} (h : ∀ x, sz' (f x) = sz x) (l : List α) : pkS sz' (l.map f) = pkMap f (pkS sz l) := by
  refine snoc_ind (p := fun l => pkS sz' (l.map f) = pkMap f (pkS sz l)) rfl (fun l x ih => ?_) l
  · rw [List.map_append, List.map_cons, List.map_nil, pkS_snoc, pkS_snoc, ih]
    cases pkS sz l with
    | none => simp [pkMap, pkStep, h]
    | some q =>
      obtain ⟨C, c, s⟩ := q
      simp only [pkMap, pkStep, h, List.length_map]
      split <;> simp
theorem parts_map {sz : α → Nat} {sz' : β → Nat} {f : α → β} (h : ∀ x, sz' (f x) = sz x) (l : List α) : parts sz' (l.map f) = (parts sz l).map (List.map f) := by
  unfold parts
  rw [pkS_map h]
  cases pkS sz l with
  | none => rfl
  | some q => obtain ⟨C, c, s⟩ := q; simp [pkMap, pkL]
/-- What holds of what was packed, where no item is longer than M. -/
structure PkOk (sz : α → Nat) (M : Nat) (l : List α) (C : List (List α)) (c : List α) (s : Nat) : Prop where
  all : C.flatten ++ c = l
  sum : s = 2 + (c.map sz).sum
  s2 : s ≤ 252
  ne : c ≠ []
  len : c.length ≤ 64
  full : ∀ q ∈ C, q ≠ [] ∧ q.length ≤ 64 ∧ 2 + (q.map sz).sum ≤ 252 ∧ 250 < (q.length + 1) * M
theorem sum_le {sz : α → Nat} {M : Nat} : ∀ {c : List α}, (∀ x ∈ c, sz x ≤ M) → (c.map sz).sum ≤ c.length * M
  | [], _ => by simp
  | x :: c, h => by
    have h1 := sum_le (c := c) (fun y hy => h y (List.mem_cons_of_mem _ hy))
    have h2 := h x List.mem_cons_self
    rw [List.map_cons, List.sum_cons, List.length_cons, Nat.succ_mul]; omega
theorem pk_ok {sz : α → Nat} {M : Nat} (hM : M ≤ 250) (hM4 : 4 ≤ M) (l : List α) : (∀ x ∈ l, sz x ≤ M) → l ≠ [] → ∃ C c s, pkS sz l = some (C, c, s) ∧ PkOk sz M l C c s := by
  refine snoc_ind (p := fun l => (∀ x ∈ l, sz x ≤ M) → l ≠ [] → ∃ C c s, pkS sz l = some (C, c, s) ∧ PkOk sz M l C c s) (fun _ hl => absurd rfl hl) (fun l x ih h hl => ?_) l
  · have hx := h x (by simp)
    rw [pkS_snoc]
    rcases l with _ | ⟨y, l⟩
    · exact ⟨[], [x], 2 + sz x, rfl, rfl, by simp, by omega, by simp, by simp, fun _ h => nomatch h⟩
    · obtain ⟨C, c, s, e, ⟨h1, h2, h3, h4, h5, h6⟩⟩ := ih (fun z hz => h z (List.mem_append_left _ hz)) (by simp)
      rw [e]
      unfold pkStep
      dsimp only
      split
      · rename_i hc
        refine ⟨C ++ [c], [x], 2 + sz x, rfl, by rw [List.flatten_append, ← h1]; simp, by simp, by omega, by simp, by simp, fun q hq => ?_⟩
        rcases List.mem_append.1 hq with hq | hq
        · exact h6 q hq
        · rw [List.mem_singleton.1 hq]
          refine ⟨h4, h5, by omega, ?_⟩
          have hs := sum_le (sz := sz) (M := M) (c := c) (fun z hz => h z (List.mem_append_left _ (h1 ▸ List.mem_append_right _ hz)))
          rw [Nat.succ_mul]
          rcases hc with hc | hc
          · omega
          · have : 64 * 4 ≤ c.length * M := Nat.mul_le_mul hc hM4
            omega
      · rename_i hc
        exact ⟨C, c ++ [x], s + sz x, rfl, by rw [← List.append_assoc, h1], by rw [h2, List.map_append, List.sum_append]; simp; omega, by omega, by simp, by simp; omega, h6⟩
theorem parts_ok {sz : α → Nat} {M : Nat} (hM : M ≤ 250) (hM4 : 4 ≤ M) {l : List α} (h : ∀ x ∈ l, sz x ≤ M) : (parts sz l).flatten = l ∧ (∀ q ∈ parts sz l, q ≠ [] ∧ q.length ≤ 64 ∧ 2 + (q.map sz).sum ≤ 252) := by
  by_cases hl : l = []
  · subst hl; exact ⟨rfl, fun _ h => nomatch h⟩
  · obtain ⟨C, c, s, e, ⟨h1, h2, h3, h4, h5, h6⟩⟩ := pk_ok hM hM4 l h hl
    unfold parts
    rw [e]
    refine ⟨by rw [pkL, List.flatten_append, ← h1]; simp, fun q hq => ?_⟩
    rcases List.mem_append.1 hq with hq | hq
    · obtain ⟨q1, q2, q3, -⟩ := h6 q hq; exact ⟨q1, q2, q3⟩
    · rw [List.mem_singleton.1 hq]; exact ⟨h4, h5, by omega⟩
theorem parts_many {sz : α → Nat} {M r : Nat} (hM : M ≤ 250) (hM4 : 4 ≤ M) (hr : r * M ≤ 250) {l : List α} (h : ∀ x ∈ l, sz x ≤ M) : r * (parts sz l).length ≤ l.length + (r - 1) := by
  by_cases hl : l = []
  · subst hl; exact Nat.zero_le _
  · obtain ⟨C, c, s, e, ⟨h1, h2, h3, h4, h5, h6⟩⟩ := pk_ok hM hM4 l h hl
    unfold parts
    rw [e, pkL, List.length_append, ← h1, List.length_append]
    have hc : 1 ≤ c.length := List.length_pos_iff.2 h4
    have hC : ∀ D : List (List α), (∀ q ∈ D, r ≤ q.length) → r * D.length ≤ D.flatten.length := by
      intro D hD
      induction D with
      | nil => simp
      | cons q D ih =>
        have i1 := ih (fun z hz => hD z (List.mem_cons_of_mem _ hz))
        have i2 := hD q List.mem_cons_self
        rw [List.flatten_cons, List.length_append, List.length_cons, Nat.mul_succ]; omega
    have := hC C (fun q hq => by
      obtain ⟨_, _, _, q4⟩ := h6 q hq
      rcases Nat.lt_or_ge q.length r with hlt | hge
      · have : (q.length + 1) * M ≤ r * M := Nat.mul_le_mul_right _ hlt
        omega
      · exact hge)
    simp only [List.length_cons, List.length_nil, Nat.mul_add, Nat.mul_one]
    omega
end
theorem sizeI_leaf {x : It} (h : x.ok) : sizeI true x ≤ 106 := by obtain ⟨_, h2, h3, _⟩ := h; unfold sizeI; dsimp only; omega
theorem sizeI_mid {x : It} (h : x.ok) : sizeI false x ≤ 27 := by obtain ⟨_, h2, _, _⟩ := h; unfold sizeI; dsimp only; omega
theorem sizeI_any {leaf : Bool} {x : It} (h : x.ok) : sizeI leaf x ≤ 106 := by cases leaf; exact Nat.le_trans (sizeI_mid h) (by decide); exact sizeI_leaf h
abbrev partsB (leaf : Bool) (l : List It) : List (List It) := parts (sizeI leaf) l
theorem partsB_ok {leaf : Bool} {l : List It} (h : ∀ x ∈ l, x.ok) (hs : Shp leaf l) : (partsB leaf l).flatten = l ∧ ∀ q ∈ partsB leaf l, NdOk leaf q := by
  obtain ⟨h1, h2⟩ := parts_ok (sz := sizeI leaf) (M := 106) (by decide) (by decide) (fun x hx => sizeI_any (h x hx))
  refine ⟨h1, fun q hq => ?_⟩
  have hm : ∀ x ∈ q, x ∈ l := fun x hx => h1 ▸ List.mem_flatten.2 ⟨q, hq, hx⟩
  obtain ⟨q1, q2, q3⟩ := h2 q hq
  exact ⟨q1, q2, fun x hx => h x (hm x hx), q3, fun x hx => hs x (hm x hx)⟩
theorem partsB_leaf {l : List It} (h : ∀ x ∈ l, x.ok) : 2 * (partsB true l).length ≤ l.length + 1 := parts_many (sz := sizeI true) (M := 106) (r := 2) (by decide) (by decide) (by decide) (fun x hx => sizeI_leaf (h x hx))
theorem partsB_mid {l : List It} (h : ∀ x ∈ l, x.ok) : 9 * (partsB false l).length ≤ l.length + 8 := parts_many (sz := sizeI false) (M := 27) (r := 9) (by decide) (by decide) (by decide) (fun x hx => sizeI_mid (h x hx))
end Go.Proofs.Ytgeldfgcicjidaa
