/-
  A region that draws its order, walked once: a plan says in which order, and which readings must stay what they are behind an operation that may also come first.
-/
import Derived.Test.YtgeldfgcicjidaaBase
namespace Go.Proofs.Ytgeldfgcicjidaa
open Go.RowKit

section
variable {P : Program} {ops : Array Oper} {Q : Exit → Act → World → Prop} {md : Region.Mode} {W : Nat → List Nat}

/-- Whatever comes up next; each held condition holds behind every operation that need not wait for it. -/
def wpAnyM (P : Program) (md : Region.Mode) (ops : Array Oper) (Q : Exit → Act → World → Prop) (W : Nat → List Nat) : Nat → List (Nat × (World → Prop)) → Array Bool → Act → World → Prop
  | 0, _, L, a, w => Region.ready md ops L = [] ∧ Q .normal a w
  | fuel + 1, hs, L, a, w =>
    (Region.ready md ops L = [] → Q .normal a w) ∧
    ∀ j ∈ Region.ready md ops L, wpOp P ops Q j (fun a' w' => (∀ h ∈ hs, j ∉ W h.1 → h.2 w') ∧ wpAnyM P md ops Q W fuel (hs.filter fun h => !(W h.1).contains j) (L.setIfInBounds j true) a' w') a w

theorem wpAny_of_M : ∀ (fuel : Nat) (hs : List (Nat × (World → Prop))) (L : Array Bool) (a : Act) (w : World), wpAnyM P md ops Q W fuel hs L a w → wpAny P md ops Q fuel L a w
  | 0, _, _, _, _, h => h
  | fuel + 1, _, _, _, _, h => ⟨h.1, fun j hj => wpOp_mono (fun a' w' h' => wpAny_of_M fuel _ _ a' w' h'.2) (h.2 j hj)⟩

theorem wpAnyM_sub : ∀ (fuel : Nat) (hs hs' : List (Nat × (World → Prop))) (L : Array Bool) (a : Act) (w : World), (∀ h ∈ hs', h ∈ hs) → wpAnyM P md ops Q W fuel hs L a w → wpAnyM P md ops Q W fuel hs' L a w
  | 0, _, _, _, _, _, _, h => h
  | fuel + 1, hs, hs', L, a, w, hsub, h => ⟨h.1, fun j hj => wpOp_mono (fun a' w' h' => ⟨fun x hx hn => h'.1 x (hsub x hx) hn,
      wpAnyM_sub fuel _ _ _ a' w' (fun x hx => by
        rw [List.mem_filter] at hx ⊢
        exact ⟨hsub x hx.1, hx.2⟩) h'.2⟩) (h.2 j hj)⟩

/-- Those who wait for i do: each has i, or another one who waits, ahead of it. -/
def waitsOk (md : Region.Mode) (ops : Array Oper) (W : Nat → List Nat) (i : Nat) : Bool :=
  (W i).all fun j => match ops[j]? with
    | some o => o.after.any fun e => Region.binds md e && (e.on == i || (W i).contains e.on)
    | none => false

theorem not_waits {i j : Nat} {L : Array Bool} (hW : waitsOk md ops W i = true) (hi : L.getD i false = false) (hun : ∀ k ∈ W i, L.getD k false = false) (hj : j ∈ Region.ready md ops L) : j ∉ W i := by
  intro hin
  have h := List.all_eq_true.1 hW j hin
  obtain ⟨_, o, ho, hall⟩ := mem_ready.1 hj
  simp only [ho] at h
  obtain ⟨e, he, hb⟩ := Array.any_eq_true'.1 h
  simp only [Bool.and_eq_true, Bool.or_eq_true, beq_iff_eq, List.contains_iff_mem] at hb
  have h1 := hall e he hb.1
  rcases hb.2 with h2 | h2
  · rw [h2, hi] at h1; cases h1
  · rw [hun _ h2] at h1; cases h1

theorem getD_false_of_true {L : Array Bool} {i : Nat} (h : L.getD i true = false) : L.getD i false = false := by
  rcases Nat.lt_or_ge i L.size with h' | h'
  · simp [h'] at h ⊢; exact h
  · simp [Array.getElem?_eq_none h']

theorem wpAnyM_first {i : Nat} {oi : Oper} {v : Value} {S : World → Prop} (hi : ops[i]? = some oi) (hsel : ∀ (j : Nat) (o : Oper) cs b, ops[j]? = some o → o.op ≠ .select cs b)
    (hQ : ∀ c d v a w, Q (.panic c) (a.put (some d) v) w → Q (.panic c) a w) (hW : waitsOk md ops W i = true) :
    ∀ (fuel : Nat) (hs : List (Nat × (World → Prop))) (L : Array Bool) (a : Act) (w : World),
      (∀ j oj, ops[j]? = some oj → j ≠ i → L.getD j true = false → (∀ e ∈ oj.after, Region.binds md e = true → e.on ≠ i) → oi.apart ops oj = true) →
      (∀ k ∈ W i, L.getD k false = false) → i ∈ Region.ready md ops L → YieldsIf P ops S oi v a → S w → (∀ h ∈ hs, h.2 w) →
      wpAnyM P md ops Q W fuel ((i, S) :: hs) (L.setIfInBounds i true) (a.put oi.dst v) w → wpAnyM P md ops Q W (fuel + 1) hs L a w := by
  intro fuel
  induction fuel with
  | zero =>
    intro hs L a w _ _ hr hy hS hh H
    refine ⟨fun h => (by rw [h] at hr; cases hr), fun j hj => ?_⟩
    by_cases hji : j = i
    · subst hji; exact hy.wpOp hi hS ⟨fun x hx _ => hh x hx, H⟩
    · have := ready_mono hj hji
      rw [H.1] at this
      cases this
  | succ fuel ih =>
    intro hs L a w hfree hun hr hy hS hh H
    have hiun : L.getD i true = false := (mem_ready.1 hr).1
    refine ⟨fun h => (by rw [h] at hr; cases hr), fun j hj => ?_⟩
    by_cases hji : j = i
    · subst hji
      exact hy.wpOp hi hS ⟨fun x hx _ => hh x hx, wpAnyM_sub _ _ _ _ _ _ (fun x hx => by rw [List.mem_filter] at hx; exact List.mem_cons_of_mem _ hx.1) H⟩
    · have hjW : j ∉ W i := not_waits hW (getD_false_of_true hiun) hun hj
      have h1 := H.2 j (ready_mono hj hji)
      obtain ⟨hjun, oj, hoj, hall⟩ := mem_ready.1 hj
      have hnot : ∀ e ∈ oj.after, Region.binds md e = true → e.on ≠ i := fun e he hb heq => by
        have h1 := hall e he hb
        rw [heq, getD_false_of_true hiun] at h1
        cases h1
      have h2 := wpOp_putIf (S := S) hoj (hfree j oj hoj hji hjun hnot) (fun cs b => hsel i oi cs b hi) (fun cs b => hsel j oj cs b hoj) (fun c a w => by cases oi.dst with | none => exact id | some d => exact hQ c d v a w) hy h1
      have hfree' : ∀ k ok, ops[k]? = some ok → k ≠ i → (L.setIfInBounds j true).getD k true = false →
          (∀ e ∈ ok.after, Region.binds md e = true → e.on ≠ i) → oi.apart ops ok = true := fun k ok hk hki hkun hno => by
        refine hfree k ok hk hki ?_ hno
        by_cases hjk : j = k
        · subst hjk; exact hjun
        · rw [getD_set_ne true hjk] at hkun; exact hkun
      have hun' : ∀ k ∈ W i, (L.setIfInBounds j true).getD k false = false := fun k hk => by
        have hjk : j ≠ k := fun e => hjW (e ▸ hk)
        rw [getD_set_ne false hjk]; exact hun k hk
      refine wpOp_mono (fun a' w' h3 => ?_) h2
      obtain ⟨hy3, hh3, hm3⟩ := h3
      have hS3 : S w' := hh3 (i, S) (List.mem_cons_self ..) hjW
      refine ⟨fun x hx hn => hh3 x (List.mem_cons_of_mem _ hx) hn, ih (hs.filter fun h => !(W h.1).contains j) (L.setIfInBounds j true) a' w' hfree' hun' (ready_mono hr (Ne.symm hji)) hy3 hS3 ?_ ?_⟩
      · intro x hx
        rw [List.mem_filter] at hx
        exact hh3 x (List.mem_cons_of_mem _ hx.1) (by simpa using hx.2)
      · rw [Array.setIfInBounds_comm _ _ hji]
        have : ((i, S) :: hs).filter (fun h => !(W h.1).contains j) = (i, S) :: hs.filter (fun h => !(W h.1).contains j) := by
          rw [List.filter_cons, if_pos (by simpa using hjW)]
        rw [this] at hm3
        exact hm3

/-- A step of a plan: a reading that is taken now ('keep': operations that turn the world might come first: it is asked anew behind them), or an operation that comes now and no other. -/
inductive Item where
  | take (i : Nat)
  | keep (i : Nat)
  | run (i : Nat) (c : List Nat)

/-- Those held conditions that the step asks. -/
def heldAll : List (Nat × (World → Prop)) → List Nat → World → Prop
  | [], _, _ => True
  | h :: hs, c, w => (h.1 ∈ c → h.2 w) ∧ heldAll hs c w

theorem heldAll_spec {hs : List (Nat × (World → Prop))} {c : List Nat} {w : World} (h : heldAll hs c w) : ∀ x ∈ hs, x.1 ∈ c → x.2 w := by
  induction hs with
  | nil => simp
  | cons y hs ih =>
    intro x hx
    rcases List.mem_cons.1 hx with rfl | hx
    · exact h.1
    · exact ih h.2 x hx

def nopost : Exit → Act → World → Prop := fun _ _ _ => False

/-- What an operation reads in another world is what it read. -/
def readsAs (P : Program) (ops : Array Oper) (o : Oper) (a : Act) (w w' : World) : Prop :=
  Region.wanted o (yielded ops a.tmps) = true → (execOp a.eval o).run P w' = match (execOp a.eval o).run P w with
    | .ok n _ => .ok n w'
    | .halt h _ => .halt h w'

def planWp (P : Program) (ops : Array Oper) (Q : Exit → Act → World → Prop) : List Item → List (Nat × (World → Prop)) → Act → World → Prop
  | [], _, a, w => Q .normal a w
  | .take i :: r, hs, a, w => wpList P ops (Exit.then (fun a' w' => w' = w ∧ planWp P ops Q r hs a' w') nopost) [ops.getD i default] a w
  | .keep i :: r, hs, a, w => wpList P ops (Exit.then (fun a' w' => w' = w ∧ planWp P ops Q r ((i, readsAs P ops (ops.getD i default) a w) :: hs) a' w') nopost) [ops.getD i default] a w
  | .run i [] :: r, hs, a, w => wpList P ops (Exit.then (fun a' w' => planWp P ops Q r hs a' w') Q) [ops.getD i default] a w
  | .run i (x :: c) :: r, hs, a, w => wpList P ops (Exit.then (fun a' w' => heldAll hs (x :: c) w' ∧ planWp P ops Q r hs a' w') Q) [ops.getD i default] a w

/-- Operations that yield a value, and nothing else. -/
def takeable (o : Oper) : Bool :=
  match o.op with
  | .move _ | .assign _ | .pick .. | .load .. | .binOp .. | .unOp .. | .convert .. | .makeInterface .. | .makeFunc .. | .slice .. | .fieldAddr .. | .field .. | .indexAddr .. | .index .. | .lookup .. | .extract .. | .build .. | .nilCheck _ => true
  | .call { callee := .builtin b, .. } => match b with | .len | .cap | .max | .min => true | _ => false
  | _ => false

theorem run_v {P : Program} {w w' : World} {s : Sem Value} {n : Next} (h : (do pure (Next.value (← s)) : Sem Next).run P w = .ok n w') : ∃ v, n = .value v := by
  change ((s >>= fun v => pure (Next.value v)).run P w) = _ at h
  rw [Sem.run_bind] at h
  cases hs : s.run P w with
  | ok v w1 => rw [hs] at h; simp at h; exact ⟨v, h.1.symm⟩
  | halt x w1 => rw [hs] at h; simp at h

theorem takeable_value {o : Oper} (ht : takeable o = true) {ρ : Operand → Value} {w w' : World} {n : Next} (h : (execOp ρ o).run P w = .ok n w') : ∃ v, n = .value v := by
  obtain ⟨dst, op, type, pos, after, guard⟩ := o
  cases op <;> simp only [takeable] at ht
  case nilCheck x =>
    simp only [execOp] at h
    split at h
    · simp [runtimePanic] at h
    · simp [runtimePanic] at h
    · simp [runtimePanic] at h
    · split at h
      · simp [runtimePanic] at h
      · simp only [Sem.run_bind] at h
        revert h
        generalize Sem.run P program w = r1
        intro h
        cases r1 with
        | halt x w1 => simp at h
        | ok p w1 =>
          simp only [Result.andThen_ok] at h
          revert h
          generalize Sem.run P (nilAhead _ _ _ _) w1 = r2
          intro h
          cases r2 with
          | halt x w2 => simp at h
          | ok q w2 =>
            simp only [Result.andThen_ok] at h
            split at h
            · simp [unsupported] at h
            · simp at h; exact ⟨_, h.1.symm⟩
      · simp at h; exact ⟨_, h.1.symm⟩
    · simp at h; exact ⟨_, h.1.symm⟩
  case call c =>
    obtain ⟨callee, args, tys⟩ := c
    cases callee with
    | value f => simp at ht
    | invoke r m => simp at ht
    | builtin b =>
      cases b <;> simp at ht
      case len => exact run_v (s := Builtin.len_ tys type (args.map ρ)) h
      case cap => exact run_v (s := Builtin.cap_ tys type (args.map ρ)) h
      case max => exact run_v (s := Builtin.max_ tys type (args.map ρ)) h
      case min => exact run_v (s := Builtin.min_ tys type (args.map ρ)) h
  all_goals first
    | exact absurd ht (by decide)
    | exact run_v h
    | (simp [execOp] at h; exact ⟨_, h.1.symm⟩)
    | (simp only [execOp, Sem.run_bind] at h
       revert h
       generalize Sem.run P (asBool _) w = r1
       intro h
       cases r1 with
       | halt x w1 => simp at h
       | ok p w1 => simp at h; exact ⟨_, h.1.symm⟩)

def takeOk (md : Region.Mode) (ops : Array Oper) (W : Nat → List Nat) (L : Array Bool) (i : Nat) : Bool :=
  (Region.ready md ops L).contains i && (match ops[i]? with | some o => takeable o | none => false) && Region.free md ops L i && waitsOk md ops W i && (W i).all (fun k => !L.getD k false)

def planOk (md : Region.Mode) (ops : Array Oper) (W : Nat → List Nat) : List Item → Array Bool → List Nat → List Nat → Bool
  | [], L, _, _ => (Region.ready md ops L).isEmpty
  | .take i :: r, L, al, an => takeOk md ops W L i && planOk md ops W r (L.setIfInBounds i true) al (i :: an)
  | .keep i :: r, L, al, an => takeOk md ops W L i && planOk md ops W r (L.setIfInBounds i true) (i :: al) an
  | .run j c :: r, L, al, an => (Region.ready md ops L == [j]) && al.all (fun i => (W i).contains j || c.contains i) && an.all (fun i => (W i).contains j) &&
      planOk md ops W r (L.setIfInBounds j true) (al.filter fun i => !(W i).contains j) []

theorem wp_swap {o : Oper} {a : Act} {w : World} {K : Act → World → Prop} (h : o.wp P a w K (Exit.then K Q)) : o.wp P a w K Q := by
  unfold Oper.wp at *
  generalize (execOp a.eval o).run P w = r at *
  cases r with
  | ok n w' =>
    cases n <;> simp only [Oper.upon] at h ⊢
    case enter f args => exact h.mono fun e w'' he => by cases e <;> exact he
    all_goals exact h
  | halt x w' => cases x <;> simp only [Oper.upon] at h ⊢ <;> exact h

theorem plan_taken (hs0 : Region.noSelect ops = true) (hQ : ∀ c d v a w, Q (.panic c) (a.put (some d) v) w → Q (.panic c) a w) {i : Nat} {L : Array Bool} {fuel : Nat} {Hs : List (Nat × (World → Prop))} {a : Act} {w : World} {X : Act → World → Prop}
    (hok : takeOk md ops W L i = true) (hS : ∀ h ∈ Hs, h.2 w)
    (h : wpList P ops (Exit.then (fun a' w' => w' = w ∧ X a' w') nopost) [ops.getD i default] a w)
    (go : ∀ v, readsAs P ops (ops.getD i default) a w w → X (a.put (ops.getD i default).dst v) w → wpAnyM P md ops Q W fuel ((i, readsAs P ops (ops.getD i default) a w) :: Hs) (L.setIfInBounds i true) (a.put (ops.getD i default).dst v) w) :
    wpAnyM P md ops Q W (fuel + 1) Hs L a w := by
  simp only [takeOk, Bool.and_eq_true] at hok
  obtain ⟨⟨⟨⟨hrd, hop⟩, hfree⟩, hW⟩, hun⟩ := hok
  cases ho : ops[i]? with
  | none => simp [ho] at hop
  | some o =>
    have htk : takeable o = true := by simpa [ho] using hop
    have hgd : ops.getD i default = o := by rw [Array.getD_eq_getD_getElem?, ho]; rfl
    have hun' : ∀ k ∈ W i, L.getD k false = false := fun k hk => by
      have := List.all_eq_true.1 hun k hk
      simpa using this
    rw [hgd] at h go
    unfold wpList at h
    have go : ∀ v, YieldsIf P ops (readsAs P ops o a w) o v a → readsAs P ops o a w w → X (a.put o.dst v) w → wpAnyM P md ops Q W (fuel + 1) Hs L a w := fun v hy hSw hp =>
      wpAnyM_first (S := readsAs P ops o a w) ho (Region.noSelect_spec hs0) hQ hW fuel Hs L a w (Region.free_spec ho hfree) hun' (by simpa using hrd) hy hSw hS (go v hSw hp)
    by_cases hw : Region.wanted o (yielded ops a.tmps) = true
    · rw [if_pos hw] at h
      rcases h with h | ⟨_, _, _, hf⟩
      case inr => exact hf.elim
      unfold Oper.wp at h
      cases hr : (execOp a.eval o).run P w with
      | halt x w' =>
        rw [hr] at h
        cases x <;> simp only [Oper.upon] at h
        case panic u => exact h.elim
      | ok n w' =>
        obtain ⟨v, rfl⟩ := takeable_value htk hr
        rw [hr] at h
        simp only [Oper.upon] at h
        obtain ⟨rfl, hp⟩ := h
        refine go v (.inl ⟨hw, fun w2 h2 => ?_⟩) ?_ hp
        · have := h2 hw
          rw [hr] at this
          exact this
        · intro _
          rw [hr]
    · rw [if_neg hw] at h
      obtain ⟨_, hp⟩ := h
      exact go undef (.inr ⟨by simpa using hw, rfl⟩) (fun h' => absurd h' hw) hp

theorem planWp_any (hs0 : Region.noSelect ops = true) (hQ : ∀ c d v a w, Q (.panic c) (a.put (some d) v) w → Q (.panic c) a w) :
    ∀ (plan : List Item) (hs Hs : List (Nat × (World → Prop))) (L : Array Bool) (al an : List Nat) (a : Act) (w : World) (fuel : Nat), planOk md ops W plan L al an = true → plan.length ≤ fuel →
      (∀ h ∈ Hs, (h ∈ hs ∧ h.1 ∈ al) ∨ h.1 ∈ an) → (∀ h ∈ Hs, h.2 w) → planWp P ops Q plan hs a w → wpAnyM P md ops Q W fuel Hs L a w := by
  intro plan
  induction plan with
  | nil =>
    intro hs Hs L al an a w fuel hok _ _ _ h
    have hr : Region.ready md ops L = [] := by simpa [planOk] using hok
    cases fuel with
    | zero => exact ⟨hr, h⟩
    | succ fuel => exact ⟨fun _ => h, by rw [hr]; simp⟩
  | cons x r ih =>
    intro hs Hs L al an a w fuel hok hlen hal hS h
    obtain ⟨fuel, rfl⟩ : ∃ m, fuel = m + 1 := ⟨fuel - 1, by simp at hlen; omega⟩
    have hlen' : r.length ≤ fuel := by simpa using hlen
    cases x with
    | take i =>
      simp only [planOk, Bool.and_eq_true] at hok
      obtain ⟨htk, hok'⟩ := hok
      refine plan_taken hs0 hQ htk hS h fun v hSw hp => ih hs _ (L.setIfInBounds i true) al (i :: an) _ w fuel hok' hlen' ?_ ?_ hp
      · intro x hx
        rcases List.mem_cons.1 hx with rfl | hx
        · exact .inr (List.mem_cons_self ..)
        · exact (hal x hx).imp id (List.mem_cons_of_mem _)
      · intro x hx
        rcases List.mem_cons.1 hx with rfl | hx
        · exact hSw
        · exact hS x hx
    | keep i =>
      simp only [planOk, Bool.and_eq_true] at hok
      obtain ⟨htk, hok'⟩ := hok
      refine plan_taken hs0 hQ htk hS h fun v hSw hp => ih _ _ (L.setIfInBounds i true) (i :: al) an _ w fuel hok' hlen' ?_ ?_ hp
      · intro x hx
        rcases List.mem_cons.1 hx with rfl | hx
        · exact .inl ⟨List.mem_cons_self .., List.mem_cons_self ..⟩
        · exact (hal x hx).imp (fun h => ⟨List.mem_cons_of_mem _ h.1, List.mem_cons_of_mem _ h.2⟩) id
      · intro x hx
        rcases List.mem_cons.1 hx with rfl | hx
        · exact hSw
        · exact hS x hx
    | run j c =>
      simp only [planOk, Bool.and_eq_true, beq_iff_eq] at hok
      obtain ⟨⟨⟨hrd, hc⟩, hn⟩, hok'⟩ := hok
      refine ⟨fun h0 => (by rw [hrd] at h0; cases h0), fun k hk => ?_⟩
      rw [hrd] at hk
      have hk : k = j := by simpa using hk
      subst hk
      have hin : k ∈ Region.ready md ops L := by rw [hrd]; simp
      obtain ⟨_, o, ho, _⟩ := mem_ready.1 hin
      have hgd : ops.getD k default = o := by rw [Array.getD_eq_getD_getElem?, ho]; rfl
      have h' : wpOp P ops Q k (fun a' w' => heldAll hs c w' ∧ planWp P ops Q r hs a' w') a w := by
        have h2 : wpList P ops (Exit.then (fun a' w' => heldAll hs c w' ∧ planWp P ops Q r hs a' w') Q) [o] a w := by
          rw [← hgd]
          cases c with
          | nil =>
            unfold planWp at h
            have hnil : ∀ w', heldAll hs [] w' := fun w' => by
              clear h hal hS hc
              induction hs with
              | nil => trivial
              | cons y hs ihh => exact ⟨by simp, ihh⟩
            simp only [hnil, true_and]
            exact h
          | cons y c => unfold planWp at h; exact h
        unfold wpList at h2
        unfold wpOp
        simp only [ho]
        split
        · rename_i hw
          rw [if_pos hw] at h2
          rcases h2 with h2 | ⟨ha, a1, w1, hl⟩
          · exact .inl (wp_swap h2)
          · exact .inr ⟨ha, a1, w1, hl⟩
        · rename_i hw
          rw [if_neg hw] at h2
          exact h2
      refine wpOp_mono (fun a' w' h3 => ?_) h'
      have hsp := heldAll_spec h3.1
      have hnw : ∀ x ∈ Hs, k ∉ W x.1 → x ∈ hs ∧ x.1 ∈ al := fun x hx hnk => by
        rcases hal x hx with h4 | h4
        · exact h4
        · have := List.all_eq_true.1 hn x.1 h4
          exact absurd (by simpa using this) hnk
      have hnew : ∀ x ∈ Hs, k ∉ W x.1 → x.2 w' := fun x hx hnk => by
        obtain ⟨h4, h5⟩ := hnw x hx hnk
        refine hsp x h4 ?_
        have := List.all_eq_true.1 hc x.1 h5
        simp only [Bool.or_eq_true, List.contains_iff_mem] at this
        exact this.resolve_left hnk
      refine ⟨hnew, ih hs _ (L.setIfInBounds k true) (al.filter fun i => !(W i).contains k) [] a' w' fuel hok' hlen' ?_ ?_ h3.2⟩
      · intro x hx
        rw [List.mem_filter] at hx
        obtain ⟨h4, h5⟩ := hnw x hx.1 (by simpa using hx.2)
        exact .inl ⟨h4, by rw [List.mem_filter]; exact ⟨h5, hx.2⟩⟩
      · intro x hx
        rw [List.mem_filter] at hx
        exact hnew x hx.1 (by simpa using hx.2)

/-- **A region that draws its order, by a plan.** -/
theorem wp_region_plan {id : Nat} {a : Act} {w : World} (plan : List Item) (Wl : List (List Nat)) (hm : P.follows .mixedOrders = true) (hs0 : Region.noSelect ops = true) (hlen : plan.length ≤ ops.size)
    (hok : planOk .any ops (fun i => Wl.getD i []) plan (Array.replicate ops.size false) [] [] = true) (hQ : ∀ c d v a w, Q (.panic c) (a.put (some d) v) w → Q (.panic c) a w)
    (h : planWp P ops Q plan [] a w.drew) : (Code.region id ops true).wp P Q a w :=
  wp_region_any hm (wpAny_of_M _ [] _ _ _ (planWp_any hs0 hQ plan [] [] _ [] [] a w.drew _ hok hlen (by simp) (by simp) h))
end
end Go.Proofs.Ytgeldfgcicjidaa
