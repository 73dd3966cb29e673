/- Plans that part: a region in which, at some places, one of two operations may come next. -/
import Derived.Test.YtglcmlicfmmlpaaPlan
namespace Go.Proofs.Ytglcmlicfmmlpaa
open Go.RowKit

inductive PTree where
  | nil
  | take (i : Nat) (r : PTree)
  | keep (i : Nat) (r : PTree)
  | run (i : Nat) (c : List Nat) (r : PTree)
  | two (i : Nat) (c : List Nat) (r : PTree) (j : Nat) (d : List Nat) (s : PTree)

section
variable {P : Program} {ops : Array Oper} {Q : Exit → Act → World → Prop} {md : Region.Mode} {W : Nat → List Nat}

def runWp (P : Program) (ops : Array Oper) (Q : Exit → Act → World → Prop) (i : Nat) (c : List Nat) (hs : List (Nat × (World → Prop))) (X : Act → World → Prop) (a : Act) (w : World) : Prop :=
  match c with
  | [] => wpList P ops (Exit.then X Q) [ops.getD i default] a w
  | x :: c => wpList P ops (Exit.then (fun a' w' => heldAll hs (x :: c) w' ∧ X a' w') Q) [ops.getD i default] a w

def planWpT (P : Program) (ops : Array Oper) (Q : Exit → Act → World → Prop) : PTree → List (Nat × (World → Prop)) → Act → World → Prop
  | .nil, _, a, w => Q .normal a w
  | .take i r, hs, a, w => wpList P ops (Exit.then (fun a' w' => w' = w ∧ planWpT P ops Q r hs a' w') nopost) [ops.getD i default] a w
  | .keep i r, hs, a, w => wpList P ops (Exit.then (fun a' w' => w' = w ∧ planWpT P ops Q r ((i, readsAs P ops (ops.getD i default) a w) :: hs) a' w') nopost) [ops.getD i default] a w
  | .run i c r, hs, a, w => runWp P ops Q i c hs (planWpT P ops Q r hs) a w
  | .two i c r j d s, hs, a, w => runWp P ops Q i c hs (planWpT P ops Q r hs) a w ∧ runWp P ops Q j d hs (planWpT P ops Q s hs) a w

def runOk (W : Nat → List Nat) (al an : List Nat) (j : Nat) (c : List Nat) : Bool := al.all (fun i => (W i).contains j || c.contains i) && an.all (fun i => (W i).contains j)

def planOkT (md : Region.Mode) (ops : Array Oper) (W : Nat → List Nat) : PTree → Array Bool → List Nat → List Nat → Bool
  | .nil, L, _, _ => (Region.ready md ops L).isEmpty
  | .take i r, L, al, an => takeOk md ops W L i && planOkT md ops W r (L.setIfInBounds i true) al (i :: an)
  | .keep i r, L, al, an => takeOk md ops W L i && planOkT md ops W r (L.setIfInBounds i true) (i :: al) an
  | .run j c r, L, al, an => (Region.ready md ops L == [j]) && runOk W al an j c && planOkT md ops W r (L.setIfInBounds j true) (al.filter fun i => !(W i).contains j) []
  | .two i c r j d s, L, al, an => (Region.ready md ops L == [i, j]) && runOk W al an i c && runOk W al an j d &&
      planOkT md ops W r (L.setIfInBounds i true) (al.filter fun k => !(W k).contains i) [] && planOkT md ops W s (L.setIfInBounds j true) (al.filter fun k => !(W k).contains j) []

def PTree.depth : PTree → Nat
  | .nil => 0
  | .take _ r => r.depth + 1
  | .keep _ r => r.depth + 1
  | .run _ _ r => r.depth + 1
  | .two _ _ r _ _ s => max r.depth s.depth + 1

theorem held_nil (hs : List (Nat × (World → Prop))) (w' : World) : heldAll hs [] w' := by
  induction hs with
  | nil => trivial
  | cons y hs ih => exact ⟨by simp, ih⟩

/-- One operation that may come next. -/
theorem plan_run {k : Nat} {c : List Nat} {hs Hs : List (Nat × (World → Prop))} {L : Array Bool} {al an : List Nat} {a : Act} {w : World} {X : Act → World → Prop} {Y : List (Nat × (World → Prop)) → Act → World → Prop}
    (hin : k ∈ Region.ready md ops L) (hok : runOk W al an k c = true) (hal : ∀ h ∈ Hs, (h ∈ hs ∧ h.1 ∈ al) ∨ h.1 ∈ an) (h : runWp P ops Q k c hs X a w)
    (go : ∀ a' w', X a' w' → (∀ x ∈ Hs.filter (fun h => !(W h.1).contains k), (x ∈ hs ∧ x.1 ∈ al.filter fun i => !(W i).contains k) ∨ x.1 ∈ ([] : List Nat)) → (∀ x ∈ Hs.filter (fun h => !(W h.1).contains k), x.2 w') → Y (Hs.filter fun h => !(W h.1).contains k) a' w') :
    wpOp P ops Q k (fun a' w' => (∀ h ∈ Hs, k ∉ W h.1 → h.2 w') ∧ Y (Hs.filter fun h => !(W h.1).contains k) a' w') a w := by
  simp only [runOk, Bool.and_eq_true] at hok
  obtain ⟨hc, hn⟩ := hok
  obtain ⟨_, o, ho, _⟩ := mem_ready.1 hin
  have hgd : ops.getD k default = o := by rw [Array.getD_eq_getD_getElem?, ho]; rfl
  have h' : wpOp P ops Q k (fun a' w' => heldAll hs c w' ∧ X a' w') a w := by
    have h2 : wpList P ops (Exit.then (fun a' w' => heldAll hs c w' ∧ X a' w') Q) [o] a w := by
      rw [← hgd]
      cases c with
      | nil =>
        simp only [held_nil, true_and]
        exact h
      | cons y c => exact h
    unfold wpList at h2
    unfold wpOp
    simp only [ho]
    split
    · rename_i hw
      rw [if_pos hw] at h2
      rcases h2 with h2 | ⟨ha, a1, w1, hl⟩
      · exact .inl (wp_swap h2)
      · exact .inr ⟨ha, a1, w1, hl⟩
    · rename_i hw
      rw [if_neg hw] at h2
      exact h2
  refine wpOp_mono (fun a' w' h3 => ?_) h'
  have hsp := heldAll_spec h3.1
  have hnw : ∀ x ∈ Hs, k ∉ W x.1 → x ∈ hs ∧ x.1 ∈ al := fun x hx hnk => by
    rcases hal x hx with h4 | h4
    · exact h4
    · have := List.all_eq_true.1 hn x.1 h4
      exact absurd (by simpa using this) hnk
  have hnew : ∀ x ∈ Hs, k ∉ W x.1 → x.2 w' := fun x hx hnk => by
    obtain ⟨h4, h5⟩ := hnw x hx hnk
    refine hsp x h4 ?_
    have := List.all_eq_true.1 hc x.1 h5
    simp only [Bool.or_eq_true, List.contains_iff_mem] at this
    exact this.resolve_left hnk
  refine ⟨hnew, go a' w' h3.2 ?_ ?_⟩
  · intro x hx
    rw [List.mem_filter] at hx
    obtain ⟨h4, h5⟩ := hnw x hx.1 (by simpa using hx.2)
    exact .inl ⟨h4, by rw [List.mem_filter]; exact ⟨h5, hx.2⟩⟩
  · intro x hx
    rw [List.mem_filter] at hx
    exact hnew x hx.1 (by simpa using hx.2)

theorem planWpT_any (hs0 : Region.noSelect ops = true) (hQ : ∀ c d v a w, Q (.panic c) (a.put (some d) v) w → Q (.panic c) a w) :
    ∀ (plan : PTree) (hs Hs : List (Nat × (World → Prop))) (L : Array Bool) (al an : List Nat) (a : Act) (w : World) (fuel : Nat), planOkT md ops W plan L al an = true → plan.depth ≤ fuel →
      (∀ h ∈ Hs, (h ∈ hs ∧ h.1 ∈ al) ∨ h.1 ∈ an) → (∀ h ∈ Hs, h.2 w) → planWpT P ops Q plan hs a w → wpAnyM P md ops Q W fuel Hs L a w := by
  intro plan
  induction plan with
  | nil =>
    intro hs Hs L al an a w fuel hok _ _ _ h
    have hr : Region.ready md ops L = [] := by simpa [planOkT] using hok
    cases fuel with
    | zero => exact ⟨hr, h⟩
    | succ fuel => exact ⟨fun _ => h, by rw [hr]; simp⟩
  | take i r ih =>
    intro hs Hs L al an a w fuel hok hlen hal hS h
    obtain ⟨fuel, rfl⟩ : ∃ m, fuel = m + 1 := ⟨fuel - 1, by simp [PTree.depth] at hlen; omega⟩
    have hlen' : r.depth ≤ fuel := by simpa [PTree.depth] using hlen
    simp only [planOkT, Bool.and_eq_true] at hok
    obtain ⟨htk, hok'⟩ := hok
    refine plan_taken hs0 hQ htk hS h fun v hSw hp => ih hs _ (L.setIfInBounds i true) al (i :: an) _ w fuel hok' hlen' ?_ ?_ hp
    · intro x hx
      rcases List.mem_cons.1 hx with rfl | hx
      · exact .inr (List.mem_cons_self ..)
      · exact (hal x hx).imp id (List.mem_cons_of_mem _)
    · intro x hx
      rcases List.mem_cons.1 hx with rfl | hx
      · exact hSw
      · exact hS x hx
  | keep i r ih =>
    intro hs Hs L al an a w fuel hok hlen hal hS h
    obtain ⟨fuel, rfl⟩ : ∃ m, fuel = m + 1 := ⟨fuel - 1, by simp [PTree.depth] at hlen; omega⟩
    have hlen' : r.depth ≤ fuel := by simpa [PTree.depth] using hlen
    simp only [planOkT, Bool.and_eq_true] at hok
    obtain ⟨htk, hok'⟩ := hok
    refine plan_taken hs0 hQ htk hS h fun v hSw hp => ih _ _ (L.setIfInBounds i true) (i :: al) an _ w fuel hok' hlen' ?_ ?_ hp
    · intro x hx
      rcases List.mem_cons.1 hx with rfl | hx
      · exact .inl ⟨List.mem_cons_self .., List.mem_cons_self ..⟩
      · exact (hal x hx).imp (fun h => ⟨List.mem_cons_of_mem _ h.1, List.mem_cons_of_mem _ h.2⟩) id
    · intro x hx
      rcases List.mem_cons.1 hx with rfl | hx
      · exact hSw
      · exact hS x hx
  | run j c r ih =>
    intro hs Hs L al an a w fuel hok hlen hal hS h
    obtain ⟨fuel, rfl⟩ : ∃ m, fuel = m + 1 := ⟨fuel - 1, by simp [PTree.depth] at hlen; omega⟩
    have hlen' : r.depth ≤ fuel := by simpa [PTree.depth] using hlen
    simp only [planOkT, Bool.and_eq_true, beq_iff_eq] at hok
    obtain ⟨⟨hrd, hrun⟩, hok'⟩ := hok
    refine ⟨fun h0 => (by rw [hrd] at h0; cases h0), fun k hk => ?_⟩
    have hin := hk
    rw [hrd] at hk
    obtain rfl : k = j := by simpa using hk
    exact plan_run (Y := fun H a' w' => wpAnyM P md ops Q W fuel H (L.setIfInBounds k true) a' w') hin hrun hal h fun a' w' hx h1 h2 => ih hs _ (L.setIfInBounds k true) _ [] a' w' fuel hok' hlen' h1 h2 hx
  | two i c r j d s ih1 ih2 =>
    intro hs Hs L al an a w fuel hok hlen hal hS h
    obtain ⟨fuel, rfl⟩ : ∃ m, fuel = m + 1 := ⟨fuel - 1, by simp [PTree.depth] at hlen; omega⟩
    have hlen1 : r.depth ≤ fuel := by simp only [PTree.depth] at hlen; omega
    have hlen2 : s.depth ≤ fuel := by simp only [PTree.depth] at hlen; omega
    simp only [planOkT, Bool.and_eq_true, beq_iff_eq] at hok
    obtain ⟨⟨⟨⟨hrd, hr1⟩, hr2⟩, hok1⟩, hok2⟩ := hok
    refine ⟨fun h0 => (by rw [hrd] at h0; cases h0), fun k hk => ?_⟩
    have hin := hk
    rw [hrd] at hk
    rcases List.mem_cons.1 hk with rfl | hk
    · exact plan_run (Y := fun H a' w' => wpAnyM P md ops Q W fuel H (L.setIfInBounds k true) a' w') hin hr1 hal h.1 fun a' w' hx h1 h2 => ih1 hs _ (L.setIfInBounds k true) _ [] a' w' fuel hok1 hlen1 h1 h2 hx
    · obtain rfl : k = j := by simpa using hk
      exact plan_run (Y := fun H a' w' => wpAnyM P md ops Q W fuel H (L.setIfInBounds k true) a' w') hin hr2 hal h.2 fun a' w' hx h1 h2 => ih2 hs _ (L.setIfInBounds k true) _ [] a' w' fuel hok2 hlen2 h1 h2 hx

/-- **A region that draws its order, by a plan that parts.** -/
theorem wp_region_planT {id : Nat} {a : Act} {w : World} (plan : PTree) (Wl : List (List Nat)) (hm : P.follows .mixedOrders = true) (hs0 : Region.noSelect ops = true) (hlen : plan.depth ≤ ops.size)
    (hok : planOkT .any ops (fun i => Wl.getD i []) plan (Array.replicate ops.size false) [] [] = true) (hQ : ∀ c d v a w, Q (.panic c) (a.put (some d) v) w → Q (.panic c) a w)
    (h : planWpT P ops Q plan [] a w.drew) : (Code.region id ops true).wp P Q a w :=
  wp_region_any hm (wpAny_of_M _ [] _ _ _ (planWpT_any hs0 hQ plan [] [] _ [] [] a w.drew _ hok hlen (by simp) (by simp) h))

/-- A struct that is read out of a row reads the same in a world where the row is the same. -/
theorem readsAs_ldm {o : Oper} {a : Act} {w w' : World} (ty : TypeId) {x : Operand} (ho : o.op = .load ty x)
    (n : Nat) (hi : (P.info? ty).map (·.size) = some n) (d : TypeDesc) (hu : P.underlying ty = some d) (hd : d.isRow = true)
    {g off : Nat} (hx : a.eval x = .pointer (some ⟨g, off, none⟩)) {cells : List Value} (hg : w.rangeAt g off cells) (hg' : w'.rangeAt g off cells) (hc : cells.length = n) : readsAs P ops o a w w' := by
  intro _
  unfold execOp
  simp only [ho, hx, Instr.loadAt, Instr.sureAddr, Sem.run_bind, Sem.run_pure, Result.andThen_ok, run_loadVar_mid w g off ty cells d hg hu hd (by rw [hi, hc]), run_loadVar_mid w' g off ty cells d hg' hu hd (by rw [hi, hc])]
/-- A struct that fills a block. -/
theorem readsAs_ld {o : Oper} {a : Act} {w w' : World} (ty : TypeId) {x : Operand} (ho : o.op = .load ty x)
    (n : Nat) (hi : (P.info? ty).map (·.size) = some n) (d : TypeDesc) (hu : P.underlying ty = some d) (hd : (match d with | .struct _ | .array _ _ => true | _ => false) = true)
    {g : Nat} (hx : a.eval x = .pointer (some ⟨g, 0, none⟩)) {t : TypeId} {cells : Array Value} (hg : Blk w g t cells) (hg' : Blk w' g t cells) (hc : cells.size = n) : readsAs P ops o a w w' := by
  intro _
  unfold execOp
  simp only [ho, hx, Instr.loadAt, Instr.sureAddr, Sem.run_bind, Sem.run_pure, Result.andThen_ok, run_loadVar_row w g t ty cells (0, 0) d hg hu hd (by rw [hi, hc]), run_loadVar_row w' g t ty cells (0, 0) d hg' hu hd (by rw [hi, hc])]
/-- A struct within a struct. -/
theorem readsAs_lds {o : Oper} {a : Act} {w w' : World} (ty : TypeId) {x : Operand} (ho : o.op = .load ty x)
    (n : Nat) (hi : (P.info? ty).map (·.size) = some n) (d : TypeDesc) (hu : P.underlying ty = some d) (hd : d.isRow = true)
    {g off : Nat} (hx : a.eval x = .pointer (some ⟨g, off, none⟩)) {t : TypeId} {cells : Array Value} (hg : Blk w g t cells) (hg' : Blk w' g t cells) (hl : ((cells.toList.drop off).take n).length = n) : readsAs P ops o a w w' := by
  have key : ∀ w, Blk w g t cells → w.rangeAt g off ((cells.toList.drop off).take n) := fun w hb j u hu => by
    rw [hb.cell]
    rw [List.getElem?_take] at hu
    split at hu
    · rw [List.getElem?_drop] at hu; simpa using hu
    · cases hu
  exact readsAs_ldm ty ho n hi d hu hd hx (key w hg) (key w' hg') hl
/-- A struct that is built, by a fact that holds in every world. -/
theorem readsAs_bd {o : Oper} {a : Act} {t : TypeId} {parts : List (Nat × Operand)} {vals : List (Nat × Value)} {v : Value} {w w' : World}
    (ho : o.op = .build t parts.toArray) (hr : ∀ w, (Instr.build t vals.toArray).run P w = .ok v w) (he : parts.map (fun x => (x.1, a.eval x.2)) = vals) : readsAs P ops o a w w' := by
  subst he
  intro _
  unfold execOp
  simp only [ho, Sem.run_bind, List.map_toArray, hr, Result.andThen_ok, Sem.run_pure]
end
end Go.Proofs.Ytglcmlicfmmlpaa
