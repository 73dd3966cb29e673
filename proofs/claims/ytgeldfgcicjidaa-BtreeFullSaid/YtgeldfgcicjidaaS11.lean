/-
  From the elder contracts to those by parts, and back: the law's own end.
-/
import Derived.Test.YtgeldfgcicjidaaS10
namespace Go.Proofs.Ytgeldfgcicjidaa
open Go.RowKit
set_option linter.unusedSimpArgs false
set_option linter.unusedVariables false

section
variable {P : Program} {ω : Amb} {n : Nat} {ds : List Deferred} {Γ Γ' Γ0 Γ1 Δ : List HP} {β β' : List (Nat × Value)} {F : HP} {f : FuncId} {vs : List Value} {v : Value}
theorem spec_fr (h : ∀ w, Calls P f vs.toArray w fun e w' => e = .returned v ∧ Fr nowhere w w') : Spec P f vs [] F (fun _ : Unit => True) (fun _ => v) (fun _ => []) := fun ω w hh =>
  (h w).mono fun e w' ⟨he, hf⟩ => ⟨(), trivial, he, hh.fr hf⟩
theorem spec_eq (h : ∀ w, Calls P f vs.toArray w fun e w' => e = .returned v ∧ w = w') : Spec P f vs [] F (fun _ : Unit => True) (fun _ => v) (fun _ => []) := fun ω w hh =>
  (h w).mono fun e w' ⟨he, hf⟩ => ⟨(), trivial, he, by rw [← hf]; exact hh⟩
theorem St.false {K : Act → World → Prop} (p : Sel (fun _ => False) Γ Γ') : St ω n ds Γ β K := fun _ _ b _ => by
  obtain ⟨h, _, hf⟩ := b.get p
  exact hf.elim
/-- A law: it returns true and turns nothing. -/
theorem law_of {w : World} {R : Ending → World → Prop} (h : Holds (World.amb w) [kept w] w → Calls P f vs.toArray w R) : Calls P f vs.toArray w R := h (Holds.init w)
end
end Go.Proofs.Ytgeldfgcicjidaa
