/-
  The plan of a region that draws its order, inside a fence and inside a round of a range over a function.
-/
import Derived.Test.YtgeldfgcicjidaaPlan
import Derived.RangeFuncNested
import Derived.RangeFuncBound
import Derived.RangeFuncCalls
import Derived.RangeFuncLeaves
import Derived.OwnWalkIn
import Derived.TacticsInMore
import Derived.LoopNIn
import Derived.LoopIn
import Derived.Maps.OwnIn
namespace Go.Proofs.Ytgeldfgcicjidaa
open Go.RowKit

def noDefer (ops : Array Oper) : Bool := ops.all fun o => match o.op with | .defer _ => false | _ => true
theorem noDefer_spec {ops : Array Oper} (h : noDefer ops = true) {j : Nat} {o : Oper} (ho : ops[j]? = some o) : ∀ c, o.op ≠ .defer c := by
  intro c hc
  have := Array.all_eq_true_iff_forall_mem.1 h o (Array.mem_of_getElem? ho)
  rw [hc] at this
  cases this
theorem semAt_any (r : Option Nat) (ρ : Operand → Value) (o : Oper) (h : ∀ c, o.op ≠ .defer c) : o.semAt r ρ = execOp ρ o := by
  cases r with
  | none => rw [Oper.semAt_none]
  | some l => exact Oper.semAt_some l ρ o h

section
variable {F : Fence} {n : Nat} {P : Program} {ops : Array Oper} {Q : Exit → Act → World → Prop} {md : Region.Mode} {W : Nat → List Nat}

/-- Whatever comes up next; each held condition holds behind every operation that need not wait for it. -/
def wpAnyMI (F : Fence) (n : Nat) (P : Program) (md : Region.Mode) (ops : Array Oper) (Q : Exit → Act → World → Prop) (W : Nat → List Nat) : Nat → List (Nat × (World → Prop)) → Array Bool → Act → World → Prop
  | 0, _, L, a, w => Region.ready md ops L = [] ∧ Q .normal a w
  | fuel + 1, hs, L, a, w =>
    (Region.ready md ops L = [] → Q .normal a w) ∧
    ∀ j ∈ Region.ready md ops L, wpOpIn F n P ops Q j (fun a' w' => (∀ h ∈ hs, j ∉ W h.1 → h.2 w') ∧ wpAnyMI F n P md ops Q W fuel (hs.filter fun h => !(W h.1).contains j) (L.setIfInBounds j true) a' w') a w

theorem wpAny_of_MI : ∀ (fuel : Nat) (hs : List (Nat × (World → Prop))) (L : Array Bool) (a : Act) (w : World), wpAnyMI F n P md ops Q W fuel hs L a w → wpAnyIn F n P md ops Q fuel L a w
  | 0, _, _, _, _, h => h
  | fuel + 1, _, _, _, _, h => ⟨h.1, fun j hj => wpOpIn_mono (fun a' w' h' => wpAny_of_MI fuel _ _ a' w' h'.2) (h.2 j hj)⟩

theorem wpAnyMI_sub : ∀ (fuel : Nat) (hs hs' : List (Nat × (World → Prop))) (L : Array Bool) (a : Act) (w : World), (∀ h ∈ hs', h ∈ hs) → wpAnyMI F n P md ops Q W fuel hs L a w → wpAnyMI F n P md ops Q W fuel hs' L a w
  | 0, _, _, _, _, _, _, h => h
  | fuel + 1, hs, hs', L, a, w, hsub, h => ⟨h.1, fun j hj => wpOpIn_mono (fun a' w' h' => ⟨fun x hx hn => h'.1 x (hsub x hx) hn,
      wpAnyMI_sub fuel _ _ _ a' w' (fun x hx => by
        rw [List.mem_filter] at hx ⊢
        exact ⟨hsub x hx.1, hx.2⟩) h'.2⟩) (h.2 j hj)⟩


theorem yieldsIf_wpOpIn {S : World → Prop} {i : Nat} {o : Oper} {v : Value} {a : Act} (hF : ∀ f, F.fn f) (hnd : noDefer ops = true) (hi : ops[i]? = some o) (hy : YieldsIf P ops S o v a)
    {K : Act → World → Prop} {w : World} (hS : S w) (h : K (a.put o.dst v) w) : wpOpIn F n P ops Q i K a w := by
  unfold wpOpIn
  simp only [hi]
  rcases hy with ⟨hw, hv⟩ | ⟨hw, rfl⟩
  · simp only [hw, if_true, Oper.wpIn, semAt_any _ _ _ (noDefer_spec hnd hi), hv w hS, Oper.uponIn]; exact ⟨fun f _ => hF f, h⟩
  · simp only [hw, Bool.false_eq_true, if_false]; exact ⟨fun f _ => hF f, h⟩

theorem wpOpIn_putIf {S : World → Prop} {j : Nat} {oi oj : Oper} {v : Value} (hnd : noDefer ops = true) (hF : ∀ f, F.fn f) (hj : ops[j]? = some oj) (hap : oi.apart ops oj = true)
    (hsi : ∀ cs b, oi.op ≠ .select cs b) (hsj : ∀ cs b, oj.op ≠ .select cs b)
    (hQ : ∀ c a w, Q (.panic c) (a.put oi.dst v) w → Q (.panic c) a w) {K : Act → World → Prop} {a : Act} {w : World}
    (hy : YieldsIf P ops S oi v a) (h : wpOpIn F n P ops Q j K (a.put oi.dst v) w) :
    wpOpIn F n P ops Q j (fun a' w' => YieldsIf P ops S oi v a' ∧ K (a'.put oi.dst v) w') a w := by
  obtain ⟨h1, h2, h3⟩ := Oper.apart_spec hap
  have keep : ∀ (a : Act), YieldsIf P ops S oi v a → ∀ u, YieldsIf P ops S oi v (a.put oj.dst u) := fun a hy u =>
    hy.of_same (execOp_put oi hsi a oj.dst u h3) (wanted_put oi a oj.dst u h3)
  have keepD : ∀ d, YieldsIf P ops S oi v { a with defers := d :: a.defers } := fun d => hy.of_same rfl rfl
  have hnj := noDefer_spec hnd hj
  unfold wpOpIn at *
  simp only [hj] at *
  rw [wanted_put oj a oi.dst v h1] at h
  split
  · rename_i hw
    simp only [hw, if_true] at h
    unfold Oper.wpIn at *
    refine ⟨fun f _ => hF f, ?_⟩
    have h := h.2
    rw [semAt_any _ _ _ hnj, execOp_put oj hsj a oi.dst v h1] at h
    rw [semAt_any _ _ _ hnj]
    generalize (execOp a.eval oj).run P w = r at *
    cases r with
    | ok x w' =>
      cases x <;> simp only [Oper.uponIn] at h ⊢
      case value u => exact ⟨keep a hy u, by rw [← Act.put_comm a v u h2]; exact h⟩
      case skip => exact ⟨keep a hy _, by rw [← Act.put_comm a v undef h2]; exact h⟩
      case defer d =>
        refine ⟨keep _ (keepD d) _, ?_⟩
        rw [← Act.put_comm _ v undef h2, ← Act.put_defers]
        exact h
      case enter f args =>
        refine ⟨h.1, CallsIn.mono h.2 fun e w'' he => ?_⟩
        cases e with
        | returned u => exact ⟨keep a hy u, by rw [← Act.put_comm a v u h2]; exact he⟩
        | panicked c => exact hQ _ _ _ he
        | outgrown => exact he
      case row row args => exact ⟨h.1, RowsIn.mono h.2 fun u w'' he => ⟨keep a hy u, by rw [← Act.put_comm a v u h2]; exact he⟩⟩
      case round l f tmps assign body =>
        refine ⟨h.1, RoundIn.mono h.2 fun e w'' he => ?_⟩
        cases e with
        | returned u => exact ⟨keep a hy u, by rw [← Act.put_comm a v u h2]; exact he⟩
        | panicked c => exact hQ _ _ _ he
        | outgrown => exact he
    | halt x w' =>
      cases x <;> simp only [Oper.uponIn] at h ⊢
      case panic u => exact hQ _ _ _ h
  · rename_i hw
    simp only [hw] at h
    exact ⟨fun f _ => hF f, keep a hy _, by rw [← Act.put_comm a v undef h2]; exact h.2⟩

theorem wpAnyMI_first {i : Nat} {oi : Oper} {v : Value} {S : World → Prop} (hi : ops[i]? = some oi) (hsel : ∀ (j : Nat) (o : Oper) cs b, ops[j]? = some o → o.op ≠ .select cs b)
    (hQ : ∀ c d v a w, Q (.panic c) (a.put (some d) v) w → Q (.panic c) a w) (hW : waitsOk md ops W i = true) (hnd : noDefer ops = true) (hF : ∀ f, F.fn f) :
    ∀ (fuel : Nat) (hs : List (Nat × (World → Prop))) (L : Array Bool) (a : Act) (w : World),
      (∀ j oj, ops[j]? = some oj → j ≠ i → L.getD j true = false → (∀ e ∈ oj.after, Region.binds md e = true → e.on ≠ i) → oi.apart ops oj = true) →
      (∀ k ∈ W i, L.getD k false = false) → i ∈ Region.ready md ops L → YieldsIf P ops S oi v a → S w → (∀ h ∈ hs, h.2 w) →
      wpAnyMI F n P md ops Q W fuel ((i, S) :: hs) (L.setIfInBounds i true) (a.put oi.dst v) w → wpAnyMI F n P md ops Q W (fuel + 1) hs L a w := by
  intro fuel
  induction fuel with
  | zero =>
    intro hs L a w _ _ hr hy hS hh H
    refine ⟨fun h => (by rw [h] at hr; cases hr), fun j hj => ?_⟩
    by_cases hji : j = i
    · subst hji; exact yieldsIf_wpOpIn hF hnd hi hy hS ⟨fun x hx _ => hh x hx, H⟩
    · have := ready_mono hj hji
      rw [H.1] at this
      cases this
  | succ fuel ih =>
    intro hs L a w hfree hun hr hy hS hh H
    have hiun : L.getD i true = false := (mem_ready.1 hr).1
    refine ⟨fun h => (by rw [h] at hr; cases hr), fun j hj => ?_⟩
    by_cases hji : j = i
    · subst hji
      exact yieldsIf_wpOpIn hF hnd hi hy hS ⟨fun x hx _ => hh x hx, wpAnyMI_sub _ _ _ _ _ _ (fun x hx => by rw [List.mem_filter] at hx; exact List.mem_cons_of_mem _ hx.1) H⟩
    · have hjW : j ∉ W i := not_waits hW (getD_false_of_true hiun) hun hj
      have h1 := H.2 j (ready_mono hj hji)
      obtain ⟨hjun, oj, hoj, hall⟩ := mem_ready.1 hj
      have hnot : ∀ e ∈ oj.after, Region.binds md e = true → e.on ≠ i := fun e he hb heq => by
        have h1 := hall e he hb
        rw [heq, getD_false_of_true hiun] at h1
        cases h1
      have h2 := wpOpIn_putIf (S := S) hnd hF hoj (hfree j oj hoj hji hjun hnot) (fun cs b => hsel i oi cs b hi) (fun cs b => hsel j oj cs b hoj) (fun c a w => by cases oi.dst with | none => exact id | some d => exact hQ c d v a w) hy h1
      have hfree' : ∀ k ok, ops[k]? = some ok → k ≠ i → (L.setIfInBounds j true).getD k true = false →
          (∀ e ∈ ok.after, Region.binds md e = true → e.on ≠ i) → oi.apart ops ok = true := fun k ok hk hki hkun hno => by
        refine hfree k ok hk hki ?_ hno
        by_cases hjk : j = k
        · subst hjk; exact hjun
        · rw [getD_set_ne true hjk] at hkun; exact hkun
      have hun' : ∀ k ∈ W i, (L.setIfInBounds j true).getD k false = false := fun k hk => by
        have hjk : j ≠ k := fun e => hjW (e ▸ hk)
        rw [getD_set_ne false hjk]; exact hun k hk
      refine wpOpIn_mono (fun a' w' h3 => ?_) h2
      obtain ⟨hy3, hh3, hm3⟩ := h3
      have hS3 : S w' := hh3 (i, S) (List.mem_cons_self ..) hjW
      refine ⟨fun x hx hn => hh3 x (List.mem_cons_of_mem _ hx) hn, ih (hs.filter fun h => !(W h.1).contains j) (L.setIfInBounds j true) a' w' hfree' hun' (ready_mono hr (Ne.symm hji)) hy3 hS3 ?_ ?_⟩
      · intro x hx
        rw [List.mem_filter] at hx
        exact hh3 x (List.mem_cons_of_mem _ hx.1) (by simpa using hx.2)
      · rw [Array.setIfInBounds_comm _ _ hji]
        have : ((i, S) :: hs).filter (fun h => !(W h.1).contains j) = (i, S) :: hs.filter (fun h => !(W h.1).contains j) := by
          rw [List.filter_cons, if_pos (by simpa using hjW)]
        rw [this] at hm3
        exact hm3

def planWpI (F : Fence) (n : Nat) (P : Program) (ops : Array Oper) (Q : Exit → Act → World → Prop) : List Item → List (Nat × (World → Prop)) → Act → World → Prop
  | [], _, a, w => Q .normal a w
  | .take i :: r, hs, a, w => wpListIn F n P ops (Exit.then (fun a' w' => w' = w ∧ planWpI F n P ops Q r hs a' w') nopost) [ops.getD i default] a w
  | .keep i :: r, hs, a, w => wpListIn F n P ops (Exit.then (fun a' w' => w' = w ∧ planWpI F n P ops Q r ((i, readsAs P ops (ops.getD i default) a w) :: hs) a' w') nopost) [ops.getD i default] a w
  | .run i [] :: r, hs, a, w => wpListIn F n P ops (Exit.then (fun a' w' => planWpI F n P ops Q r hs a' w') Q) [ops.getD i default] a w
  | .run i (x :: c) :: r, hs, a, w => wpListIn F n P ops (Exit.then (fun a' w' => heldAll hs (x :: c) w' ∧ planWpI F n P ops Q r hs a' w') Q) [ops.getD i default] a w

theorem wpIn_swap {o : Oper} {a : Act} {w : World} {K : Act → World → Prop} (h : o.wpIn F n P a w K (Exit.then K Q)) : o.wpIn F n P a w K Q := by
  unfold Oper.wpIn at *
  refine ⟨h.1, ?_⟩
  have h := h.2
  generalize (o.semAt F.round a.eval).run P w = r at *
  cases r with
  | ok x w' =>
    cases x <;> simp only [Oper.uponIn] at h ⊢
    case enter f args => exact ⟨h.1, h.2.mono fun e w'' he => by cases e <;> exact he⟩
    case round l f tmps assign body => exact ⟨h.1, h.2.mono fun e w'' he => by cases e <;> exact he⟩
    all_goals exact h
  | halt x w' => cases x <;> simp only [Oper.uponIn] at h ⊢ <;> exact h

theorem plan_takenI (hs0 : Region.noSelect ops = true) (hQ : ∀ c d v a w, Q (.panic c) (a.put (some d) v) w → Q (.panic c) a w) (hnd : noDefer ops = true) (hF : ∀ f, F.fn f) {i : Nat} {L : Array Bool} {fuel : Nat} {Hs : List (Nat × (World → Prop))} {a : Act} {w : World} {X : Act → World → Prop}
    (hok : takeOk md ops W L i = true) (hS : ∀ h ∈ Hs, h.2 w)
    (h : wpListIn F n P ops (Exit.then (fun a' w' => w' = w ∧ X a' w') nopost) [ops.getD i default] a w)
    (go : ∀ v, readsAs P ops (ops.getD i default) a w w → X (a.put (ops.getD i default).dst v) w → wpAnyMI F n P md ops Q W fuel ((i, readsAs P ops (ops.getD i default) a w) :: Hs) (L.setIfInBounds i true) (a.put (ops.getD i default).dst v) w) :
    wpAnyMI F n P md ops Q W (fuel + 1) Hs L a w := by
  simp only [takeOk, Bool.and_eq_true] at hok
  obtain ⟨⟨⟨⟨hrd, hop⟩, hfree⟩, hW⟩, hun⟩ := hok
  cases ho : ops[i]? with
  | none => simp [ho] at hop
  | some o =>
    have htk : takeable o = true := by simpa [ho] using hop
    have hgd : ops.getD i default = o := by rw [Array.getD_eq_getD_getElem?, ho]; rfl
    have hun' : ∀ k ∈ W i, L.getD k false = false := fun k hk => by
      have := List.all_eq_true.1 hun k hk
      simpa using this
    rw [hgd] at h go
    unfold wpListIn at h
    have go : ∀ v, YieldsIf P ops (readsAs P ops o a w) o v a → readsAs P ops o a w w → X (a.put o.dst v) w → wpAnyMI F n P md ops Q W (fuel + 1) Hs L a w := fun v hy hSw hp =>
      wpAnyMI_first (S := readsAs P ops o a w) ho (Region.noSelect_spec hs0) hQ hW hnd hF fuel Hs L a w (Region.free_spec ho hfree) hun' (by simpa using hrd) hy hSw hS (go v hSw hp)
    by_cases hw : Region.wanted o (yielded ops a.tmps) = true
    · rw [if_pos hw] at h
      unfold Oper.wpIn at h
      have h := h.2
      rw [semAt_any _ _ _ (noDefer_spec hnd ho)] at h
      cases hr : (execOp a.eval o).run P w with
      | halt x w' =>
        rw [hr] at h
        cases x <;> simp only [Oper.uponIn] at h
        case panic u => exact h.elim
      | ok n w' =>
        obtain ⟨v, rfl⟩ := takeable_value htk hr
        rw [hr] at h
        simp only [Oper.uponIn] at h
        obtain ⟨rfl, hp⟩ := h
        refine go v (.inl ⟨hw, fun w2 h2 => ?_⟩) ?_ hp
        · have := h2 hw
          rw [hr] at this
          exact this
        · intro _
          rw [hr]
    · rw [if_neg hw] at h
      obtain ⟨_, _, hp⟩ := h
      exact go undef (.inr ⟨by simpa using hw, rfl⟩) (fun h' => absurd h' hw) hp

theorem planWpI_any (hnd : noDefer ops = true) (hF : ∀ f, F.fn f) (hs0 : Region.noSelect ops = true) (hQ : ∀ c d v a w, Q (.panic c) (a.put (some d) v) w → Q (.panic c) a w) :
    ∀ (plan : List Item) (hs Hs : List (Nat × (World → Prop))) (L : Array Bool) (al an : List Nat) (a : Act) (w : World) (fuel : Nat), planOk md ops W plan L al an = true → plan.length ≤ fuel →
      (∀ h ∈ Hs, (h ∈ hs ∧ h.1 ∈ al) ∨ h.1 ∈ an) → (∀ h ∈ Hs, h.2 w) → planWpI F n P ops Q plan hs a w → wpAnyMI F n P md ops Q W fuel Hs L a w := by
  intro plan
  induction plan with
  | nil =>
    intro hs Hs L al an a w fuel hok _ _ _ h
    have hr : Region.ready md ops L = [] := by simpa [planOk] using hok
    cases fuel with
    | zero => exact ⟨hr, h⟩
    | succ fuel => exact ⟨fun _ => h, by rw [hr]; simp⟩
  | cons x r ih =>
    intro hs Hs L al an a w fuel hok hlen hal hS h
    obtain ⟨fuel, rfl⟩ : ∃ m, fuel = m + 1 := ⟨fuel - 1, by simp at hlen; omega⟩
    have hlen' : r.length ≤ fuel := by simpa using hlen
    cases x with
    | take i =>
      simp only [planOk, Bool.and_eq_true] at hok
      obtain ⟨htk, hok'⟩ := hok
      refine plan_takenI hs0 hQ hnd hF htk hS h fun v hSw hp => ih hs _ (L.setIfInBounds i true) al (i :: an) _ w fuel hok' hlen' ?_ ?_ hp
      · intro x hx
        rcases List.mem_cons.1 hx with rfl | hx
        · exact .inr (List.mem_cons_self ..)
        · exact (hal x hx).imp id (List.mem_cons_of_mem _)
      · intro x hx
        rcases List.mem_cons.1 hx with rfl | hx
        · exact hSw
        · exact hS x hx
    | keep i =>
      simp only [planOk, Bool.and_eq_true] at hok
      obtain ⟨htk, hok'⟩ := hok
      refine plan_takenI hs0 hQ hnd hF htk hS h fun v hSw hp => ih _ _ (L.setIfInBounds i true) (i :: al) an _ w fuel hok' hlen' ?_ ?_ hp
      · intro x hx
        rcases List.mem_cons.1 hx with rfl | hx
        · exact .inl ⟨List.mem_cons_self .., List.mem_cons_self ..⟩
        · exact (hal x hx).imp (fun h => ⟨List.mem_cons_of_mem _ h.1, List.mem_cons_of_mem _ h.2⟩) id
      · intro x hx
        rcases List.mem_cons.1 hx with rfl | hx
        · exact hSw
        · exact hS x hx
    | run j c =>
      simp only [planOk, Bool.and_eq_true, beq_iff_eq] at hok
      obtain ⟨⟨⟨hrd, hc⟩, hn⟩, hok'⟩ := hok
      refine ⟨fun h0 => (by rw [hrd] at h0; cases h0), fun k hk => ?_⟩
      rw [hrd] at hk
      have hk : k = j := by simpa using hk
      subst hk
      have hin : k ∈ Region.ready md ops L := by rw [hrd]; simp
      obtain ⟨_, o, ho, _⟩ := mem_ready.1 hin
      have hgd : ops.getD k default = o := by rw [Array.getD_eq_getD_getElem?, ho]; rfl
      have h' : wpOpIn F n P ops Q k (fun a' w' => heldAll hs c w' ∧ planWpI F n P ops Q r hs a' w') a w := by
        have h2 : wpListIn F n P ops (Exit.then (fun a' w' => heldAll hs c w' ∧ planWpI F n P ops Q r hs a' w') Q) [o] a w := by
          rw [← hgd]
          cases c with
          | nil =>
            unfold planWpI at h
            have hnil : ∀ w', heldAll hs [] w' := fun w' => by
              clear h hal hS hc
              induction hs with
              | nil => trivial
              | cons y hs ihh => exact ⟨by simp, ihh⟩
            simp only [hnil, true_and]
            exact h
          | cons y c => unfold planWpI at h; exact h
        unfold wpListIn at h2
        unfold wpOpIn
        simp only [ho]
        split
        · rename_i hw
          rw [if_pos hw] at h2
          exact wpIn_swap h2
        · rename_i hw
          rw [if_neg hw] at h2
          exact h2
      refine wpOpIn_mono (fun a' w' h3 => ?_) h'
      have hsp := heldAll_spec h3.1
      have hnw : ∀ x ∈ Hs, k ∉ W x.1 → x ∈ hs ∧ x.1 ∈ al := fun x hx hnk => by
        rcases hal x hx with h4 | h4
        · exact h4
        · have := List.all_eq_true.1 hn x.1 h4
          exact absurd (by simpa using this) hnk
      have hnew : ∀ x ∈ Hs, k ∉ W x.1 → x.2 w' := fun x hx hnk => by
        obtain ⟨h4, h5⟩ := hnw x hx hnk
        refine hsp x h4 ?_
        have := List.all_eq_true.1 hc x.1 h5
        simp only [Bool.or_eq_true, List.contains_iff_mem] at this
        exact this.resolve_left hnk
      refine ⟨hnew, ih hs _ (L.setIfInBounds k true) (al.filter fun i => !(W i).contains k) [] a' w' fuel hok' hlen' ?_ ?_ h3.2⟩
      · intro x hx
        rw [List.mem_filter] at hx
        obtain ⟨h4, h5⟩ := hnw x hx.1 (by simpa using hx.2)
        exact .inl ⟨h4, by rw [List.mem_filter]; exact ⟨h5, hx.2⟩⟩
      · intro x hx
        rw [List.mem_filter] at hx
        exact hnew x hx.1 (by simpa using hx.2)

/-- **A region that draws its order, by a plan.** -/
theorem wpIn_region_plan {id : Nat} {a : Act} {w : World} (plan : List Item) (Wl : List (List Nat)) (hF : ∀ f, F.fn f) (hnd : noDefer ops = true) (hm : P.follows .mixedOrders = true) (hs0 : Region.noSelect ops = true) (hlen : plan.length ≤ ops.size)
    (hok : planOk .any ops (fun i => Wl.getD i []) plan (Array.replicate ops.size false) [] [] = true) (hQ : ∀ c d v a w, Q (.panic c) (a.put (some d) v) w → Q (.panic c) a w)
    (h : planWpI F n P ops Q plan [] a w.drew) : (Code.region id ops true).wpIn F n P Q a w :=
  wpIn_region_any hm (wpAny_of_MI _ [] _ _ _ (planWpI_any hnd hF hs0 hQ plan [] [] _ [] [] a w.drew _ hok hlen (by simp) (by simp) h))
end
end Go.Proofs.Ytgeldfgcicjidaa
