/-
  The program's net as an assertion; its functions' contracts by parts, from the elder ones.
-/
import Derived.Test.YtnfmmfodnhmfaaaNet4
import Derived.Test.YtnfmmfodnhmfaaaNetLaw
import Derived.Test.YtnfmmfodnhmfaaaC0
namespace Go.Proofs.Ytnfmmfodnhmfaaa
open Go.RowKit

section
variable {w w' : World} {G F : Nat → Prop} {k n : Nat} {v : Value} {xs : List Value}
theorem Sl.same' (h : Sl w G k v n xs) (hb : ∀ b, G b → b < w.heap.size → w'.heap[b]? = w.heap[b]?) : Sl w' G k v n xs := by
  obtain ⟨A, c, rfl, hc, hm, hl, hA⟩ := h
  refine ⟨A, c, rfl, hc, hm, hl, fun hn => ?_⟩
  obtain ⟨g, o, rfl, hlt, hG, hx⟩ := hA hn
  have hg := hb _ hG hlt
  refine ⟨g, o, rfl, heap_lt (hg.trans (Array.getElem?_eq_getElem hlt)), hG, fun j u hu => ?_⟩
  rw [World.cell?_of_block (w := w) (w' := w') hg]
  exact hx j u hu
end
section
variable {ω : Amb} {Γ : List HP} {w w' : World} {p : Nat} {L : List Letter} {F : Nat → Prop}
theorem NetAt.same' (h : NetAt w p L F) (hb : ∀ b, F b → w'.heap[b]? = w.heap[b]?) : NetAt w' p L F := by
  obtain ⟨A, cap, m, cs, M, hp, hown, hcs, hM, hto, hL, hFp, hFm, hFA, hFl⟩ := h
  refine ⟨A, cap, m, cs, M, hp.same (hb p hFp), own_same hown (fun g hg _ _ => hb g ?_), hcs.mono (fun x c _ hx => ?_), hM.same (hb m hFm), hto, hL, hFp, hFm, hFA, fun b hb' => heap_lt ((hb b hb').trans (Array.getElem?_eq_getElem (hFl b hb')))⟩
  · rw [ownBlock_slice] at hg
    cases A with
    | none => simp at hg
    | some a => simp at hg; subst hg; exact hFA a rfl
  · obtain ⟨hd, A3, c3, rfl, hb3⟩ := hx
    exact ⟨hd, A3, c3, rfl, Sl.same' hb3 (fun b hb' _ => hb b hb'.1)⟩

/-- A net with these letters. -/
def netP (p : Nat) (L : List Letter) : HP := fun π => ∃ F : Nat → Prop, (∀ b, F b → ∃ o, π b = some o) ∧ ∀ w : World, (∀ b, F b → w.heap[b]? = π b) → NetAt w p L F
theorem netP_of {π : Part} (h : NetAt w p L F) (hπ : ∀ b, F b → π b = w.heap[b]?) : netP p L π :=
  ⟨F, fun b hb => ⟨_, (hπ b hb).trans (Array.getElem?_eq_getElem (h.lt b hb))⟩, fun _ hw' => h.same' fun b hb => (hw' b hb).trans (hπ b hb)⟩
theorem netP_at {π : Part} (h : netP p L π) (l : π.le (Part.of w)) : ∃ F, NetAt w p L F ∧ ∀ b, F b → ∃ o, π b = some o := by
  obtain ⟨F, h1, h2⟩ := h
  refine ⟨F, h2 w (fun b hb => ?_), h1⟩
  obtain ⟨o, ho⟩ := h1 b hb
  rw [ho]; exact l b o ho
/-- A net in a world: what it may turn, and what it is then. -/
theorem Holds.net (hh : Holds ω (netP p L :: Γ) w) : ∃ F, NetAt w p L F ∧ ∀ w' F' L', NetAt w' p L' F' → Fr F w w' → (∀ b, F' b → F b ∨ w.heap.size ≤ b) →
    Holds ω (netP p L' :: Γ) w' ∧ ∀ v T k n cs, w'.ownsRow w.heap.size T k v n cs → (∀ b, F' b → F b) → Holds ω (own v T k n cs :: netP p L' :: Γ) w' := by
  obtain ⟨ba, h1, h2, l1, l2, ap, hp, hs⟩ := hh
  obtain ⟨F, hN, hF⟩ := netP_at hp l1
  have hne : ∀ x o, h2 x = some o → ¬ F x := fun x o e hx => by
    obtain ⟨o', ho'⟩ := hF x hx
    rcases ap x with e' | e'
    · rw [ho'] at e'; cases e'
    · rw [e] at e'; cases e'
  refine ⟨F, hN, fun w' F' L' hN' hf hF' => ?_⟩
  have hamb : World.amb w' = ω := by rw [← ba]; simp [World.amb, hf.os, hf.tape, hf.output]
  have l2' : h2.le (Part.of w') := fun x o e => (hf.block x (heap_lt (l2 x o e)) (hne x o e)).trans (l2 x o e)
  classical
  let h1' : Part := fun x => if F' x then w'.heap[x]? else none
  have l1' : h1'.le (Part.of w') := fun x o e => by
    dsimp only [h1'] at e
    split at e
    · exact e
    · cases e
  have ap' : h1'.apart h2 := fun x => by
    cases hx : h2 x with
    | none => exact .inr rfl
    | some o =>
      left
      dsimp only [h1']
      rw [if_neg]
      intro h
      rcases hF' x h with h | h
      · exact hne x o hx h
      · have := heap_lt (l2 x o hx); omega
  have hp' : netP p L' h1' := netP_of hN' (fun b hb => by dsimp only [h1']; rw [if_pos hb])
  refine ⟨⟨hamb, h1', h2, l1', l2', ap', hp', hs⟩, fun v T k n cs hr hFF => ?_⟩
  have hbase : ∀ g, v.ownBlock = some g → w.heap.size ≤ g := fun g hg => (own_blk hr hg).choose_spec.2
  refine ⟨hamb, fun x => if v.ownBlock = some x then w'.heap[x]? else none, h1'.or h2, fun x o e => ?_, Part.or_le l1' l2', fun x => ?_, own_of_row (own_base hr (fun _ _ _ => Nat.zero_le _)) _ (fun g e => by simp [e]), h1', h2, Part.or_left _ _, Part.or_right ap', ap', hp', hs⟩
  · dsimp only at e
    split at e
    · exact e
    · cases e
  · by_cases hv : v.ownBlock = some x
    · right
      have hx := hbase x hv
      unfold Part.or
      have e1 : h1' x = none := by
        dsimp only [h1']
        rw [if_neg]
        intro h
        have := hN.lt x (hFF x h); omega
      rw [e1]
      cases hx2 : h2 x with
      | none => rfl
      | some o => have := heap_lt (l2 x o hx2); omega
    · left
      dsimp only
      rw [if_neg hv]
end

/-- Letter k, or none. -/
def letK (L : List Letter) (k : Int) : Letter := if 0 ≤ k ∧ k < L.length then L.getD k.toNat ⟨0, 0, []⟩ else ⟨0, 0, []⟩
def whyK (L : List Letter) (k : Int) : Int := if 0 ≤ k ∧ k < L.length then 0 else 1
def outK (L : List Letter) (k : Int) : List Letter := if 0 ≤ k ∧ k < L.length then L.eraseIdx k.toNat else L
abbrev letV (x : Letter) (v : Value) : Value := .agg #[.int .i64 x.f, .int .i64 x.t, v]
section
variable {p : Nat} {L : List Letter}
theorem send_spec (Fm : HP) (f t : Int) (v : Value) (bs : List UInt8) (hF : VwB Fm v bs) (hl : bs.length ≤ 140737488351232) :
    Spec Try.prog 8 [.pointer (some ⟨p, 0, none⟩), .int .i64 f, .int .i64 t, v] [netP p L] Fm (fun _ : Unit => True) (fun _ => .int .i64 (sendWhy L f t bs)) (fun _ => [netP p (if sendWhy L f t bs = 0 then L ++ [⟨f, t, bs⟩] else L)]) := fun ω w hh => by
  obtain ⟨F, hN, hk⟩ := hh.net
  refine (send_any p L F (fun _ => True) f t v bs w hN (hF.sl (.tail .head) hh) hl).mono ?_
  rintro e w' ⟨he, F', h1, h2, h3⟩
  exact ⟨(), trivial, he, (hk w' F' _ h1 h2 h3).1⟩
theorem look_spec (Fm : HP) (k : Int) :
    Spec Try.prog 16 [.pointer (some ⟨p, 0, none⟩), .int .i64 k] [netP p L] Fm (fun _ : Value => True) (fun v => .tuple #[letV (letK L k) v, .int .i64 (whyK L k)]) (fun v => [bytesO v (letK L k).d, netP p L]) := fun ω w hh => by
  obtain ⟨F, hN, hK⟩ := hh.net
  by_cases hk : 0 ≤ k ∧ k < L.length
  · obtain ⟨q, rfl⟩ := Int.eq_ofNat_of_zero_le hk.1
    have hq : q < L.length := by omega
    have hx := List.getElem?_eq_getElem hq
    refine (look_some p L F q _ w hN hx).mono ?_
    rintro e w' ⟨A, c, he, h1, h2⟩
    have e1 : letK L q = L[q] := by simp [letK, hk, hx]
    have e2 : whyK L q = 0 := by simp [whyK, hk]
    refine ⟨.slice A L[q].d.length c, trivial, ?_, ?_⟩
    · rw [e1, e2]; exact he
    · rw [e1]; exact (hK w' F L (hN.fr h2 (fun _ _ => id)) (h2.mono fun _ _ h => h.elim) (fun _ => .inl)).2 _ _ _ _ _ h1 (fun _ => id)
  · have e1 : letK L k = ⟨0, 0, []⟩ := by simp only [letK, if_neg hk]
    have e2 : whyK L k = 1 := by simp only [whyK, if_neg hk]
    refine (look_none p L F k w hN (by omega)).mono ?_
    rintro e w' ⟨he, h2⟩
    refine ⟨.slice none 0 0, trivial, ?_, ?_⟩
    · rw [e1, e2]; exact he
    · rw [e1]
      exact ((hK w' F L (hN.fr h2 (fun _ _ => id)) (h2.mono fun _ _ h => h.elim) (fun _ => .inl)).1).own_nil
theorem take_spec (Fm : HP) (k : Int) :
    Spec Try.prog 11 [.pointer (some ⟨p, 0, none⟩), .int .i64 k] [netP p L] Fm (fun _ : Value => True) (fun v => .tuple #[letV (letK L k) v, .int .i64 (whyK L k)]) (fun v => [bytesO v (letK L k).d, netP p (outK L k)]) := fun ω w hh => by
  obtain ⟨F, hN, hK⟩ := hh.net
  by_cases hk : 0 ≤ k ∧ k < L.length
  · obtain ⟨q, rfl⟩ := Int.eq_ofNat_of_zero_le hk.1
    have hq : q < L.length := by omega
    have hx := List.getElem?_eq_getElem hq
    refine (take_some p L F q _ w hN hx).mono ?_
    rintro e w' ⟨A, c, he, h1, h2, h3⟩
    have e1 : letK L q = L[q] := by simp [letK, hk, hx]
    have e2 : whyK L q = 0 := by simp [whyK, hk]
    have e3 : outK L q = L.eraseIdx q := by simp [outK, hk]
    refine ⟨.slice A L[q].d.length c, trivial, ?_, ?_⟩
    · rw [e1, e2]; exact he
    · rw [e1, e3]; exact (hK w' F _ h2 h3 (fun _ => .inl)).2 _ _ _ _ _ h1 (fun _ => id)
  · have e1 : letK L k = ⟨0, 0, []⟩ := by simp only [letK, if_neg hk]
    have e2 : whyK L k = 1 := by simp only [whyK, if_neg hk]
    have e3 : outK L k = L := by simp only [outK, if_neg hk]
    refine (take_none p L F k w hN (by omega)).mono ?_
    rintro e w' ⟨he, h2⟩
    refine ⟨.slice none 0 0, trivial, ?_, ?_⟩
    · rw [e1, e2]; exact he
    · rw [e1, e3]
      exact ((hK w' F L (hN.fr h2 (fun _ _ => id)) (h2.mono fun _ _ h => h.elim) (fun _ => .inl)).1).own_nil
theorem drop_spec (Fm : HP) (k : Int) :
    Spec Try.prog 15 [.pointer (some ⟨p, 0, none⟩), .int .i64 k] [netP p L] Fm (fun _ : Unit => True) (fun _ => .int .i64 (whyK L k)) (fun _ => [netP p (outK L k)]) := fun ω w hh => by
  obtain ⟨F, hN, hK⟩ := hh.net
  refine (drop_any p L F k w hN).mono ?_
  rintro e w' ⟨he, h1, h2⟩
  exact ⟨(), trivial, he, (hK w' F _ h1 h2 (fun _ => .inl)).1⟩
theorem double_spec (Fm : HP) (k : Int) (hd : ∀ x ∈ L, x.d.length ≤ 140737488351232) :
    Spec Try.prog 17 [.pointer (some ⟨p, 0, none⟩), .int .i64 k] [netP p L] Fm (fun _ : Unit => True) (fun _ => .int .i64 (doubleWhy L k)) (fun _ => [netP p (doubleL L k)]) := fun ω w hh => by
  obtain ⟨F, hN, hK⟩ := hh.net
  refine (double_any p L F k w hN hd).mono ?_
  rintro e w' ⟨he, F', h1, h2, h3⟩
  exact ⟨(), trivial, he, (hK w' F' _ h1 h2 h3).1⟩
theorem len_spec (Fm : HP) :
    Spec Try.prog 10 [.pointer (some ⟨p, 0, none⟩)] [netP p L] Fm (fun _ : Unit => True) (fun _ => .int .i64 L.length) (fun _ => [netP p L]) := fun ω w hh => by
  obtain ⟨F, hN, hK⟩ := hh.net
  refine (len_any p L F w hN).mono ?_
  rintro e w' ⟨he, rfl⟩
  exact ⟨(), trivial, he, hh⟩
theorem to_spec (Fm : HP) (t : Int) :
    Spec Try.prog 9 [.pointer (some ⟨p, 0, none⟩), .int .i64 t] [netP p L] Fm (fun _ : Unit => True) (fun _ => .int .i64 (toN L t)) (fun _ => [netP p L]) := fun ω w hh => by
  obtain ⟨F, hN, hK⟩ := hh.net
  refine (to_any p L F t w hN).mono ?_
  rintro e w' ⟨he, h2⟩
  exact ⟨(), trivial, he, hh.fr h2⟩
theorem new_spec (Fm : HP) :
    Spec Try.prog 7 [] [] Fm (fun _ : Nat => True) (fun p => .pointer (some ⟨p, 0, none⟩)) (fun p => [netP p []]) := fun ω w hh =>
  (new_any w).mono fun e w' ⟨p, he, ⟨F, h1, h2⟩, hf⟩ => ⟨p, trivial, he, by
    classical
    exact hh.more hf (fun b => if F b then w'.heap[b]? else none) (fun x o e => by
      split at e
      · rename_i h; exact ⟨h2 x h, e⟩
      · cases e) (netP_of h1 fun b hb => by rw [if_pos hb])⟩
end
end Go.Proofs.Ytnfmmfodnhmfaaa
