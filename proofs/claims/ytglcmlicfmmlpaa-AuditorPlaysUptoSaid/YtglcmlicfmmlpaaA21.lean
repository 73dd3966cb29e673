/-
  The auditor and the reference's: alike, whatever they are told.
-/
import Derived.Test.YtglcmlicfmmlpaaA20
namespace Go.Proofs.Ytglcmlicfmmlpaa
open Go.RowKit

abbrev One.sim (x : One) : Bool × List GRow := (x.is_, x.rows)
def eqv (s t : AuS) : Prop := s.n = t.n ∧ s.phase = t.phase ∧ s.all = t.all ∧ s.L.map One.sim = t.L.map One.sim
theorem sim_len {L M : List One} (h : L.map One.sim = M.map One.sim) : L.length = M.length := by
  have := congrArg List.length h
  simpa using this
theorem sim_left : ∀ {L M : List One}, L.map One.sim = M.map One.sim → leftP L = leftP M
  | [], [], _ => rfl
  | [], _ :: _, h => by simp at h
  | _ :: _, [], h => by simp at h
  | x :: L, y :: M, h => by
    simp only [List.map_cons, List.cons.injEq, One.sim, Prod.mk.injEq] at h
    have ih := sim_left h.2
    unfold leftP at ih ⊢
    rw [List.filter_cons, List.filter_cons, h.1.1]
    split <;> simp [ih]
theorem sim_rows : ∀ {L M : List One}, L.map One.sim = M.map One.sim → allRows L = allRows M
  | [], [], _ => rfl
  | [], _ :: _, h => by simp at h
  | _ :: _, [], h => by simp at h
  | x :: L, y :: M, h => by
    simp only [List.map_cons, List.cons.injEq, One.sim, Prod.mk.injEq] at h
    have ih := sim_rows h.2
    unfold allRows at ih ⊢
    rw [List.flatMap_cons, List.flatMap_cons, h.1.2, ih]
theorem sim_ask (k n : Int) : ∀ {L M : List One} (i : Nat), L.map One.sim = M.map One.sim → askL k n i L = askL k n i M
  | [], [], _, _ => rfl
  | [], _ :: _, _, h => by simp at h
  | _ :: _, [], _, h => by simp at h
  | x :: L, y :: M, i, h => by
    simp only [List.map_cons, List.cons.injEq, One.sim, Prod.mk.injEq] at h
    have ih := sim_ask k n (i + 1) h.2
    rw [askL, askL, h.1.1, ih]
theorem sim_reset {L M : List One} (h : L.map One.sim = M.map One.sim) : (L.map reset).map One.sim = (M.map reset).map One.sim := by
  have := congrArg (List.map fun p : Bool × List GRow => (false, p.2)) h
  rw [List.map_map, List.map_map] at this ⊢
  exact this
theorem eqv_know {s t : AuS} (h : eqv s t) (n ph : Int) : eqv (knowS s n ph) (knowS t n ph) := by
  obtain ⟨h1, h2, h3, h4⟩ := h
  unfold knowS
  rw [h1, h2, sim_len h4]
  split
  · exact ⟨rfl, rfl, rfl, rfl⟩
  · split
    · exact ⟨rfl, rfl, h3, sim_reset h4⟩
    · exact ⟨h1, h2, h3, h4⟩
theorem eqv_ask {s t : AuS} (h : eqv s t) (n ph : Int) : askAll s n ph = askAll t n ph := sim_ask _ _ _ (eqv_know h n ph).2.2.2
theorem sim_set {L M : List One} (h : L.map One.sim = M.map One.sim) (i : Nat) {x y : One} (hxy : x.sim = y.sim) : (L.set i x).map One.sim = (M.set i y).map One.sim := by
  rw [List.map_set, List.map_set, h, hxy]
theorem sim_get {L M : List One} (h : L.map One.sim = M.map One.sim) (i : Nat) : (L.getD i one0).sim = (M.getD i one0).sim := by
  rw [List.getD_eq_getElem?_getD, List.getD_eq_getElem?_getD]
  have := congrArg (fun l => l[i]?) h
  simp only [List.getElem?_map] at this
  cases h1 : L[i]? <;> cases h2 : M[i]? <;> simp [h1, h2] at this ⊢
  exact this
theorem toldOne_sim {o o' : One} (h : o.sim = o'.sim) (ph : Int) (rows : List GRow) (q p : Option Addr × Nat) : (toldOne o ph rows q).sim = (toldOne o' ph rows p).sim := by
  unfold toldOne
  split
  · rfl
  · simp only [One.sim, Prod.mk.injEq] at h ⊢
    exact ⟨trivial, h.2⟩
theorem eqv_told {s t : AuS} (h : eqv s t) (n ph : Int) (x : GAsk) (why : Int) (rows : List GRow) (q p : Option Addr × Nat) : eqv (toldS s n ph x why rows q).1 (toldS t n ph x why rows p).1 ∧ (toldS s n ph x why rows q).2 = (toldS t n ph x why rows p).2 := by
  have hk := eqv_know h n ph
  unfold toldS
  rw [sim_len h.2.2.2]
  split
  · exact ⟨hk, rfl⟩
  · obtain ⟨h1, h2, h3, h4⟩ := hk
    have h5 := sim_set h4 (x.group - 1).toNat (toldOne_sim (sim_get h4 (x.group - 1).toNat) ph rows q p)
    dsimp only
    rw [sim_left h5]
    split
    · exact ⟨⟨h1, h2, h3, h5⟩, rfl⟩
    · exact ⟨⟨h1, h2, by dsimp only; rw [h3], h5⟩, rfl⟩
theorem rows_reset (L : List One) : allRows (L.map reset) = allRows L := by unfold allRows; rw [List.flatMap_map]; rfl
theorem rows_zero : ∀ n : Nat, allRows (List.replicate n one0) = []
  | 0 => rfl
  | n + 1 => by
    have := rows_zero n
    unfold allRows at this ⊢
    rw [List.replicate_succ, List.flatMap_cons, this]; rfl
theorem know_rows (s : AuS) (n ph : Int) : (allRows (knowS s n ph).L).length ≤ (allRows s.L).length := by
  unfold knowS
  split
  · rw [rows_zero]; exact Nat.zero_le _
  · split
    · rw [rows_reset]; exact Nat.le_refl _
    · exact Nat.le_refl _
theorem rows_set : ∀ (L : List One) (i : Nat) (x : One), (allRows (L.set i x)).length ≤ (allRows L).length + x.rows.length
  | [], _, _ => by simp [allRows]
  | y :: L, 0, x => by simp [allRows]; omega
  | y :: L, i + 1, x => by
    have := rows_set L i x
    simp [allRows] at this ⊢
    omega
theorem rows_set0 : ∀ (L : List One) (i : Nat) (x : One), x.rows = (L.getD i one0).rows → (allRows (L.set i x)).length ≤ (allRows L).length
  | [], _, _, _ => by simp
  | y :: L, 0, x, h => by simp at h; simp [allRows, h]
  | y :: L, i + 1, x, h => by
    have := rows_set0 L i x (by simpa using h)
    simp [allRows] at this ⊢
    omega
theorem told_rows (s : AuS) (n ph : Int) (x : GAsk) (why : Int) (rows : List GRow) (q : Option Addr × Nat) : (allRows (toldS s n ph x why rows q).1.L).length ≤ (allRows s.L).length + rows.length := by
  have hk := know_rows s n ph
  unfold toldS
  split
  · dsimp only; omega
  · have : (allRows ((knowS s n ph).L.set (x.group - 1).toNat (toldOne ((knowS s n ph).L.getD (x.group - 1).toNat one0) ph rows q))).length ≤ (allRows (knowS s n ph).L).length + rows.length := by
      unfold toldOne
      split
      · exact rows_set _ _ _
      · exact Nat.le_trans (rows_set0 _ _ _ rfl) (Nat.le_add_right _ _)
    dsimp only
    split <;> dsimp only <;> omega
theorem told_len (s : AuS) (n ph : Int) (x : GAsk) (why : Int) (rows : List GRow) (q : Option Addr × Nat) : (toldS s n ph x why rows q).1.L.length = s.L.length := by
  have hk := knowS_len s n ph
  unfold toldS
  split
  · exact hk
  · dsimp only
    split <;> simp [hk]
theorem askL_is (k n : Int) : ∀ (l : List One) (i : Nat), ∀ x ∈ askL k n i l, ∃ g, x = askC g k n
  | [], _, x, h => by cases h
  | y :: l, i, x, h => by
    rw [askL] at h
    split at h
    · rcases List.mem_cons.1 h with rfl | h
      · exact ⟨_, rfl⟩
      · exact askL_is k n l (i + 1) x h
    · exact askL_is k n l (i + 1) x h
theorem flat_part {α : Type} {f : α → List Value} {k : Nat} (hk : ∀ x, (f x).length = k) {l : List α} {i : Nat} {x : α} (h : l[i]? = some x) (j m : Nat) (hj : j + m ≤ k) : ((l.flatMap f).drop (i * k + j)).take m = ((f x).drop j).take m := by
  rw [← flat_at hk h, List.drop_take, List.take_take, List.drop_drop, Nat.min_eq_left (by omega)]
theorem part_Q {ω : Amb} {Γ Γ' : List HP} {α : Type} {f : α → List Value} {T k n c g off : Nat} {us : List Value} (L : List α) (i j : Nat) (x : α) (hk : ∀ x, (f x).length = k) (h : L[i]? = some x) (hj : j + us.length ≤ k) (hu : ((f x).drop j).take us.length = us) (ho : off = i * k + j)
    (p : Sel (ownQ f T k (.slice (some ⟨g, 0, none⟩) n c) n L) Γ Γ' := by repeat (first | with_reducible exact Sel.head | apply Sel.tail)) : CellsIn ω Γ g off us := fun w hh => by
  subst ho
  obtain ⟨_, _, hl, _⟩ := hh.get p
  have hi := (List.getElem?_eq_some_iff.1 h).1
  have := (vw_Q (f := f) (T := T) (k := k) (v := .slice (some ⟨g, 0, none⟩) n c) (n := n) (L := L)).cells (ω := ω) (i := i * k + j) (vs := us) p (by omega) (by rw [flat_part hk h j _ hj]; exact hu)
  rw [Nat.zero_add] at this
  exact this w hh
end Go.Proofs.Ytglcmlicfmmlpaa
