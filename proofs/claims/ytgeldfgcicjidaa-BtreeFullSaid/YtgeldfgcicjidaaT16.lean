/-
  The pairs of a tree, from one key on, ahead of another one.
-/
import Derived.Test.YtgeldfgcicjidaaT15
namespace Go.Proofs.Ytgeldfgcicjidaa
open Go.RowKit
set_option linter.unusedSimpArgs false
set_option linter.unusedVariables false

theorem each_spec (F : HP) (t p : Nat) (root : Int) (fr to : List UInt8) :
    Spec Try.prog 29 [.pointer (some ⟨t, 0, none⟩), .string (strOf fr), .string (strOf to)] [treeO t p root] F (fun _ : Nat × Nat × Nat => True)
      (fun x => .func (.func 50) #[] #[.pointer (some ⟨x.1, 0, none⟩), .pointer (some ⟨x.2.1, 0, none⟩), .pointer (some ⟨x.2.2, 0, none⟩)])
      (fun x => [treeO x.1 p root, pts x.2.1 9 [.string (strOf fr)], pts x.2.2 9 [.string (strOf to)], treeO t p root]) := by
  intro ω w hh
  refine enter Try.func29 rfl Try.ntmps29 rfl hh ?_
  simp only [List.cons_append, List.nil_append, argsB]
  refine St.ent (Q := pts t 71 [.pointer (some ⟨p, 0, none⟩), .int .i64 root]) (fun _ h => h) ?_
  refine sr ?_
  refine r_b1 fun b4 => ?_
  refine r_b1 fun b5 => ?_
  refine rr (rd_assign rfl) ?_
  refine nx ?_
  refine do_seq ?_
  refine sr ?_
  refine rr (rd_move rfl) ?_
  refine rr (rd_ptr_eq_nil Try.underlying29 rfl rfl) ?_
  refine run_nil ?_
  refine St.kp [(0, _), (4, _), (5, _), (9, _)] ?_
  refine St.then_n ?_
  refine do_cond_f rfl ?_
  refine do_skip ?_
  refine St.then_n ?_
  refine sr ?_
  refine rr (rd_move rfl) ?_
  refine rr (rd_nilCheck rfl) ?_
  refine rr (rd_ldr [_, _] rfl row71) ?_
  refine r_al zero71 fun b7 => ?_
  first | refine r_sa row71 ?_ | refine r_sm row71 ?_
  refine run_nil ?_
  refine St.kp [(4, _), (5, _), (7, _)] ?_
  refine St.then_n ?_
  refine sr ?_
  refine rr (rd_makeFunc rfl) ?_
  refine rr (rd_assign rfl) ?_
  refine run_nil ?_
  refine St.kp [(6, _)] ?_
  refine St.then_n ?_
  refine do_ret ?_
  refine do_ret1 Try.results29 (res_tmp rfl) ?_
  intro w hw
  exact ⟨(b7, b4, b5), trivial, rfl, (show Holds _ [pts _ _ _, pts _ _ _, pts _ _ _, pts _ _ _, F] _ from hw.sb)⟩
/-- A tree that is not there has no pairs. -/
theorem each_nil (F : HP) (fr to : List UInt8) :
    Spec Try.prog 29 [.pointer none, .string (strOf fr), .string (strOf to)] [] F (fun _ : Unit => True) (fun _ => .func (.func 49) #[] #[]) (fun _ => []) := by
  intro ω w hh
  refine enter Try.func29 rfl Try.ntmps29 rfl hh ?_
  simp only [List.nil_append, argsB]
  refine sr ?_
  refine r_b1 fun b4 => ?_
  refine r_b1 fun b5 => ?_
  refine rr (rd_assign rfl) ?_
  refine nx ?_
  refine do_seq ?_
  refine sr ?_
  refine rr (rd_move rfl) ?_
  refine rr (rd_ptr_eq_nil Try.underlying29 rfl rfl) ?_
  refine run_nil ?_
  refine St.kp [(0, _), (4, _), (5, _), (9, _)] ?_
  refine St.then_n ?_
  refine do_cond_t rfl ?_
  refine sr ?_
  refine rr (rd_assign rfl) ?_
  refine run_nil ?_
  refine St.kp [(6, _)] ?_
  refine St.then_n ?_
  refine do_ret ?_
  refine St.then_r ?_
  refine do_ret1 Try.results29 (res_tmp rfl) ?_
  intro w hw
  exact ⟨(), trivial, rfl, hw.sb⟩
abbrev capE (b4 b5 : Nat) (fr to : List UInt8) : HP := Sep [pts b4 9 [.string (strOf fr)], pts b5 9 [.string (strOf to)]]
theorem each_iter (c b4 b5 p d k : Nat) (root : Int) (S : PS) (hS : S.good k) (dep r : Nat) (m : List KV) (hT : IsR S dep r root m) (hms : KSrt m) (fr to : List UInt8) (F0 : HP) :
    IterS Try.prog 50 [.pointer (some ⟨c, 0, none⟩), .pointer (some ⟨b4, 0, none⟩), .pointer (some ⟨b5, 0, none⟩)] (wkIT c p d root S (capE b4 b5 fr to)) (wkX (sel fr to m)) (wkR (sel fr to m)) (fun i => i = (sel fr to m).length) F0 := by
  intro ω l J Jx w hy hh
  refine enter Try.func50 rfl Try.ntmps50 rfl hh ?_
  simp only [argsB]
  have hwalk : ∀ dep, Walks ω c p d root S (capE b4 b5 fr to) fr to (sel fr to m) l J Jx dep := by
    intro dep
    induction dep with
    | zero => exact walk_step ω c p d k root S hS _ fr to _ l J Jx hy 0 (fun d' h => by omega)
    | succ n ih => exact walk_step ω c p d k root S hS _ fr to _ l J Jx hy (n + 1) (fun d' h => by cases h; exact ih)
  refine St.sel (P := wkIT c p d root S (capE b4 b5 fr to)) (.tail .head) (St.flat ?_)
  simp only [List.cons_append, List.nil_append]
  refine St.ent (Q := pts c 71 [.pointer (some ⟨p, 0, none⟩), .int .i64 root]) (fun _ h => h) ?_
  refine St.sl (P := capE b4 b5 fr to) (St.flat ?_)
  simp only [List.cons_append, List.nil_append]
  refine sr ?_
  refine rr (rd_fa rfl fld71_1) ?_
  refine rr (rd_ld rfl row3) ?_
  refine rr (rd_ge rfl rfl) ?_
  refine nx ?_
  first | refine do_condp rfl (fun h7 => ?_) (fun h7 => ?_) | refine do_cond rfl (fun h7 => ?_) (fun h7 => ?_)
  · obtain ⟨i, rfl, hTi⟩ : ∃ i : Nat, root = i ∧ IsT S dep r i m := by
      rcases hT with ⟨h, _⟩ | h
      · omega
      · exact h
    refine do_region ?_
    refine rr (rd_fa rfl fld71_1) ?_
    refine rr (rd_ld rfl row3) ?_
    refine rr (rd_ld rfl row9) ?_
    refine rr (rd_ld rfl row9) ?_
    refine rr (rd_move rfl) ?_
    refine St.pack (Ps := [pts b4 9 [.string (strOf fr)], pts b5 9 [.string (strOf to)]]) (by repeat (first | exact Pick.nil | apply Pick.cons (by repeat (first | with_reducible exact Sel.head | apply Sel.tail)))) ?_
    refine St.sl (P := pts c 71 [.pointer (some ⟨p, 0, none⟩), .int .i64 (i : Int)]) (St.ent (Q := treeO c p i) (fun _ h => h) ?_)
    refine St.pack (Ps := [treeO c p i, pagerO d p S, capE b4 b5 fr to]) (by repeat (first | exact Pick.nil | apply Pick.cons (by repeat (first | with_reducible exact Sel.head | apply Sel.tail)))) ?_
    refine rcW (hs := hwalk dep r i m hTi hms 0 _ (fun j x hj => by rw [Nat.zero_add]; exact hj)) (k := ?_)
    rintro ⟨go, jo⟩ ⟨y1, y2⟩
    dsimp only at y1 y2 ⊢
    simp only [List.cons_append, List.nil_append, Nat.zero_add]
    refine run_nil ?_
    refine St.kp [] ?_
    refine do_end0 Try.results50 ?_
    intro w hw
    refine ⟨⟨_, rfl⟩, ?_⟩
    cases jo
    · exact .inr (show Holds _ [Jx, _] _ from (show Holds _ (Jx :: _) _ from hw).sb)
    · exact .inl ⟨_, rfl, Holds.flat.1 (show Holds _ [Sep [J _, _], _] _ from (show Holds _ (Sep [J (sel fr to m).length, wkIT c p d i S (capE b4 b5 fr to)] :: _) _ from hw).sb)⟩
  · obtain rfl : m = [] := by
      rcases hT with ⟨_, h, _⟩ | ⟨i, h, _⟩
      · exact h
      · omega
    refine do_skip ?_
    refine St.pack (Ps := [pts b4 9 [.string (strOf fr)], pts b5 9 [.string (strOf to)]]) (by repeat (first | exact Pick.nil | apply Pick.cons (by repeat (first | with_reducible exact Sel.head | apply Sel.tail)))) ?_
    refine St.sl (P := pts c 71 [.pointer (some ⟨p, 0, none⟩), .int .i64 root]) (St.ent (Q := treeO c p root) (fun _ h => h) ?_)
    refine St.pack (Ps := [treeO c p root, pagerO d p S, capE b4 b5 fr to]) (by repeat (first | exact Pick.nil | apply Pick.cons (by repeat (first | with_reducible exact Sel.head | apply Sel.tail)))) ?_
    refine do_end0 Try.results50 ?_
    intro w hw
    exact ⟨⟨_, rfl⟩, .inl ⟨0, rfl, hw.sb⟩⟩
theorem eachNil_iter (X : Nat → List Value → Prop) (R : Nat → List Value → HP) (F0 : HP) : IterS Try.prog 49 [] (Sep []) X R (fun i => i = 0) F0 := by
  intro ω l J Jx w hy hh
  refine enter Try.func49 rfl Try.ntmps49 rfl hh ?_
  simp only [argsB]
  refine do_skip ?_
  refine do_end0 Try.results49 ?_
  intro w hw
  exact ⟨⟨_, rfl⟩, .inl ⟨0, rfl, hw⟩⟩

/-- A pair in memory. -/
structure Pm where
  k : List UInt8
  A : Option Addr
  cp : Nat
  b : List UInt8
  del : Bool
abbrev Pm.v (x : Pm) : Value := .slice x.A x.b.length x.cp
abbrev Pm.kv (x : Pm) : KV := (x.k, x.b)
def prC (x : Pm) : List Value := [.string (strOf x.k), x.v, .bool x.del]
theorem prC_len (x : Pm) : (prC x).length = 3 := rfl
theorem prC_one (x : Pm) : (prC x).all (·.oneCell') = true := rfl
abbrev ownP (v : Value) (n : Nat) (L : List Pm) : HP := ownQ prC 55 3 v n L
def prO (x : Pm) : HP := bytesO x.v x.b
/-- Pairs, each with a value of its own. -/
abbrev pairsO (v : Value) (L : List Pm) : HP := Sep [ownP v L.length L, sepA prO L]
theorem pr_vw {L : List Pm} {x : Pm} (h : x ∈ L) : VwB (sepA prO L) x.v x.b := fun h0 hs => by
  obtain ⟨i, hi⟩ := List.getElem?_of_mem h
  obtain ⟨h1, l1, hq⟩ := sepA_at hi hs
  exact (vw_bytes h1 hq).mono l1
/-- What a loop over pairs has gathered. -/
def accO (b : Nat) (l : List KV) : HP := fun h => ∃ (v : Value) (L : List Pm), (L.map Pm.kv = l ∧ ∀ x ∈ L, x.del = Bool.false) ∧ Sep [pts b 22 [v], ownP v L.length L, sepA prO L] h
section
variable {ω : Amb} {m : Nat} {ds : List Deferred} {Γ Γ1 : List HP} {β : List (Nat × Value)} {K : Act → World → Prop} {b : Nat} {l : List KV}
theorem St.acc_open (h : ∀ v L, L.map Pm.kv = l → (∀ x ∈ L, x.del = Bool.false) → St ω m ds (pts b 22 [v] :: ownP v L.length L :: sepA prO L :: Γ) β K) : St ω m ds (accO b l :: Γ) β K := by
  unfold accO
  exact St.ex fun v => St.ex fun L => St.pure fun h1 => St.flat (h v L h1.1 h1.2)
theorem St.acc_shut (v : Value) (L : List Pm) (h1 : L.map Pm.kv = l) (h2 : ∀ x ∈ L, x.del = Bool.false) (h : St ω m ds (accO b l :: Γ1) β K) (p : Pick [pts b 22 [v], ownP v L.length L, sepA prO L] Γ Γ1 := by repeat (first | exact Pick.nil | apply Pick.cons (by repeat (first | with_reducible exact Sel.head | apply Sel.tail)))) : St ω m ds Γ β K :=
  St.pack p (St.ent (fun _ hh => ⟨v, L, ⟨h1, h2⟩, hh⟩) h)
end
/-- What all answers with. -/
def allOk (l : List KV) (x : (Option Addr × Nat) × List Pm) : Prop := x.2.map Pm.kv = l ∧ ∀ y ∈ x.2, y.del = false
theorem all_any (F : HP) (tv : Option Addr) (fr to : List UInt8) (l : List KV) (hl : l.length ≤ 1000000) (A0 : List HP) {α : Type} (IT : α → HP) (E : HP) (hIT : ∀ (x : α) (ω : Amb) (Γ : List HP) (w : World), Holds ω (IT x :: E :: Γ) w → Holds ω (Sep A0 :: Γ) w) (gf : FuncId) (cap : α → List Value) (hb : hasBody Try.prog gf = true)
    (hE : ∀ F, Spec Try.prog 29 [.pointer tv, .string (strOf fr), .string (strOf to)] [Sep A0] F (fun _ : α => True) (fun x => .func (.func gf) #[] (cap x).toArray) (fun x => [IT x, E]))
    (it : ∀ x F0, IterS Try.prog gf (cap x) (IT x) (wkX l) (wkR l) (fun i => i = l.length) F0) :
    Spec Try.prog 11 [.pointer tv, .string (strOf fr), .string (strOf to)] [Sep A0] F (allOk l) (fun x => .slice x.1.1 x.2.length x.1.2) (fun x => [ownP (.slice x.1.1 x.2.length x.1.2) x.2.length x.2, sepA prO x.2, Sep A0]) := by
  intro ω w hh
  refine enterM Try.func11 rfl Try.ntmps11 rfl hh ?_
  simp only [List.cons_append, List.nil_append, argsB]
  refine sr ?_
  refine rr (rd_assign rfl) ?_
  refine nx ?_
  refine sr ?_
  refine r_al zero22 fun b7 => ?_
  refine nx ?_
  refine sr ?_
  refine rr (rd_move rfl) ?_
  refine rr (rd_move rfl) ?_
  refine rr (rd_move rfl) ?_
  refine rc (hs := hE _) (k := ?_)
  rintro cx -
  try simp only [List.cons_append, List.nil_append]
  refine rr (rd_assign rfl) ?_
  refine run_nil ?_
  refine St.kp [(6, _), (7, _), (8, _)] ?_
  refine St.then_n ?_
  refine do_seq ?_
  refine sr ?_
  refine rr (rd_move rfl) ?_
  refine rr ((rd_fn_eq_nil Try.underlying78 rfl rfl)) ?_
  refine nx ?_
  refine do_cond_f rfl ?_
  refine do_skip ?_
  refine St.then_n ?_
  refine do_seq ?_
  refine sr ?_
  refine rr (rd_move rfl) ?_
  refine nx ?_
  refine do_block ?_
  refine St.nilQ (f := prC) (T := 55) (k := 3) (St.ent (Q := ownP (.slice none 0 0) ([] : List Pm).length []) (fun _ h => h) ?_)
  refine St.sepA_nil (f := prO) ?_
  refine St.acc_shut (b := b7) (.slice none 0 0) [] (l := []) rfl (fun _ h => nomatch h) ?_
  refine do_range rfl hb (fun i => [accO b7 (l.take i)]) (fun _ => [fun _ => False])
    (it cx) (.cons (.tail .head) (.cons .head .nil))
    (fun i vs (y : KV × (Option Addr × Nat)) => l[i]? = some y.1)
    (fun i vs y => [(7, .pointer (some ⟨b7, 0, none⟩)), (9, .string (strOf y.1.1)), (10, .slice y.2.1 y.1.2.length y.2.2)])
    (fun i vs y => [bytesO (.slice y.2.1 y.1.2.length y.2.2) y.1.2, accO b7 (l.take i), IT cx])
    (fun _ _ ⟨_, _, _, h⟩ => by rw [h]; rfl) (by decide) ?_ ?_ (fun Dm1 i hi => ?_) (fun _ _ => St.false (.tail .head))
  · rintro l1 FR i vs ⟨x1, v1, hx1, rfl⟩ hL1
    simp only [List.cons_append, List.nil_append]
    refine St.sel (P := wkR l i [.string (strOf x1.1), v1]) (by repeat (first | with_reducible exact Sel.head | apply Sel.tail)) (St.ex fun x2 => St.ex fun v2 => St.pure fun h2 => ?_)
    obtain ⟨h2, h3⟩ := h2
    obtain rfl : x1 = x2 := Option.some.inj (hx1.symm.trans h2)
    obtain rfl : v1 = v2 := by simpa using h3
    refine St.vw vw_bytes .head (fun A1 c1 hv _ _ _ => ?_)
    subst hv
    refine sr ?_
    refine rr (rd_assign rfl) ?_
    refine run_nil ?_
    refine St.kp [(7, _), (9, _), (19, _)] ?_
    refine St.then_n ?_
    refine do_region ?_
    refine rr (rd_assign rfl) ?_
    refine nx ?_
    exact fun a w hw hb => ⟨(x1, (A1, c1)), hx1, hw.sb, hb.sub ⟨rfl, rfl, rfl, trivial⟩⟩
  · rintro l1 FR i vs ⟨⟨xk, xb⟩, ⟨A1, c1⟩⟩ - hx1 hL1
    dsimp only at hx1 ⊢
    simp only [List.cons_append, List.nil_append]
    have htk := take_get' hx1
    have hil := (List.getElem?_eq_some_iff.1 hx1).1
    refine St.sel (P := accO b7 (l.take i)) (by repeat (first | with_reducible exact Sel.head | apply Sel.tail)) (St.acc_open fun v7 L7 hL7 hd7 => ?_)
    have hn7 : L7.length = i := by have := congrArg List.length hL7; rw [List.length_map, List.length_take] at this; omega
    refine do_block ?_
    refine do_region ?_
    refine rr (rd_ld rfl row22) ?_
    refine rr (rd_move rfl) ?_
    refine rr (rd_move rfl) ?_
    refine rr (rd_bd [_, _, _] zero55 plc55) ?_
    refine r_bs1 (f := prC) ⟨xk, A1, c1, xb, false⟩ (prC_len _) Try.underlying22 ei55 (by decide) (fun b24 => ?_)
    refine r_apQ (f := prC) (n := L7.length) (M := [⟨xk, A1, c1, xb, false⟩]) prC_len prC_one Try.underlying22 ei55 (L := L7) (X := ownQ prC 55 3 (.slice (some ⟨b24, 0, none⟩) 1 1) 1 [⟨xk, A1, c1, xb, false⟩]) vw_Q rfl (by omega) (by omega) (by omega) (fun v8 _ => ?_)
    refine St.Q_sl fun A8 k8 hv8 _ _ _ => ?_
    subst hv8
    refine r_st row22 ?_
    refine run_nil ?_
    refine St.kp [] ?_
    refine St.blk_n ?_
    refine St.sl (P := bytesO (.slice A1 xb.length c1) xb) (St.ent (Q := prO ⟨xk, A1, c1, xb, false⟩) (fun _ h => h) ?_)
    refine St.sepA_snoc (f := prO) (L := L7) (y := ⟨xk, A1, c1, xb, false⟩) ?_
    refine St.sl (P := ownQ prC 55 3 (.slice A8 (L7.length + 1) k8) (L7.length + 1) (L7 ++ [(⟨xk, A1, c1, xb, false⟩ : Pm)])) (St.ent (Q := ownP (.slice A8 (L7.length + 1) k8) (L7 ++ [(⟨xk, A1, c1, xb, false⟩ : Pm)]).length (L7 ++ [(⟨xk, A1, c1, xb, false⟩ : Pm)])) (fun _ h => by rw [List.length_append]; exact h) ?_)
    refine St.acc_shut (b := b7) (.slice A8 (L7.length + 1) k8) (L7 ++ [(⟨xk, A1, c1, xb, false⟩ : Pm)]) (l := l.take (i + 1)) (by rw [List.map_append, hL7, htk]; rfl) (fun x hx => by rcases List.mem_append.1 hx with h | h; exact hd7 x h; rw [List.mem_singleton.1 h]) ?_
    exact fun a w hw _ => (show Holds ω [accO b7 (l.take (i + 1)), IT cx, FR] w from hw.sb)
  simp only [List.cons_append, List.nil_append]
  subst hi
  rw [List.take_of_length_le (Nat.le_refl _)]
  refine St.sl (P := accO b7 l) (St.acc_open fun v7 L7 hL7 hd7 => ?_)
  refine St.sl (P := ownP v7 L7.length L7) (St.Q_sl fun A7 c7 hv7 _ _ _ => ?_)
  subst hv7
  refine St.sl (P := E) ?_
  refine St.sl (P := IT cx) (fun a w b c => ?_)
  refine (?_ : St ω _ _ (Sep A0 :: _) _ _) a w (hIT cx ω _ w b) c
  refine St.blk_n ?_
  refine St.then_n ?_
  refine sr ?_
  refine rr (rd_ld rfl row22) ?_
  refine rr (rd_assign rfl) ?_
  refine run_nil ?_
  refine St.kp [(6, _)] ?_
  refine St.then_n ?_
  refine do_ret ?_
  refine do_retM1 [Dm1] rfl (by repeat (first | exact Pick.nil | apply Pick.cons (by repeat (first | with_reducible exact Sel.head | apply Sel.tail)))) Try.results11 (res_tmp rfl) ?_
  intro w hw
  exact ⟨((A7, c7), L7), ⟨hL7, hd7⟩, rfl, hw.sb⟩
theorem all_spec (F : HP) (t p d k : Nat) (root : Int) (S : PS) (hS : S.good k) (dep r : Nat) (m : List KV) (hT : IsR S dep r root m) (hms : KSrt m) (fr to : List UInt8) (hl : (sel fr to m).length ≤ 1000000) :
    Spec Try.prog 11 [.pointer (some ⟨t, 0, none⟩), .string (strOf fr), .string (strOf to)] [treeO t p root, pagerO d p S] F (allOk (sel fr to m)) (fun x => .slice x.1.1 x.2.length x.1.2)
      (fun x => [ownP (.slice x.1.1 x.2.length x.1.2) x.2.length x.2, sepA prO x.2, treeO t p root, pagerO d p S]) := fun ω w hh => by
  refine (all_any F (some ⟨t, 0, none⟩) fr to (sel fr to m) hl [treeO t p root, pagerO d p S] (α := Nat × Nat × Nat) (fun x => wkIT x.1 p d root S (capE x.2.1 x.2.2 fr to)) (treeO t p root) (fun x ω Γ w hh => ?_) 50 (fun x => [.pointer (some ⟨x.1, 0, none⟩), .pointer (some ⟨x.2.1, 0, none⟩), .pointer (some ⟨x.2.2, 0, none⟩)]) (by kernel_rfl) (fun F1 ω1 w1 h1 => ?_) (fun x F0 => each_iter x.1 x.2.1 x.2.2 p d k root S hS dep r m hT hms fr to F0) ω w (Holds.flat.2 hh)).mono ?_
  · have h1 : Holds ω (treeO x.1 p root :: pagerO d p S :: capE x.2.1 x.2.2 fr to :: treeO t p root :: Γ) w := Holds.flat.1 hh
    have h2 := Holds.unpick (h1.pick (Ps := [treeO x.1 p root, capE x.2.1 x.2.2 fr to]) (.cons .head (.cons (.tail .head) .nil)))
    have h3 : Holds ω (treeO x.1 p root :: capE x.2.1 x.2.2 fr to :: pagerO d p S :: treeO t p root :: Γ) w := h2
    exact (Holds.flat (Γ := [treeO t p root, pagerO d p S])).2 h3.drop.drop.swap_
  · have h2 : Holds ω1 (treeO t p root :: pagerO d p S :: [F1]) w1 := Holds.flat.1 h1
    refine (each_spec (Sep [pagerO d p S, F1]) t p root fr to ω1 w1 (h2.pick (Ps := [treeO t p root]) (.cons .head .nil))).mono ?_
    rintro e w' ⟨x, -, he, h3⟩
    refine ⟨x, trivial, he, ?_⟩
    have h4 : Holds ω1 [treeO x.1 p root, pts x.2.1 9 [.string (strOf fr)], pts x.2.2 9 [.string (strOf to)], treeO t p root, pagerO d p S, F1] w' := Holds.unpick h3
    have h6 : Holds ω1 [capE x.2.1 x.2.2 fr to, treeO x.1 p root, treeO t p root, pagerO d p S, F1] w' := (Holds.flat (Γ := [pts x.2.1 9 [.string (strOf fr)], pts x.2.2 9 [.string (strOf to)]])).2 (show Holds ω1 [pts x.2.1 9 [.string (strOf fr)], pts x.2.2 9 [.string (strOf to)], treeO x.1 p root, treeO t p root, pagerO d p S, F1] w' from h4.sb)
    exact (Holds.flat (Γ := [treeO x.1 p root, pagerO d p S, capE x.2.1 x.2.2 fr to])).2 (show Holds ω1 [treeO x.1 p root, pagerO d p S, capE x.2.1 x.2.2 fr to, treeO t p root, F1] w' from h6.sb)
  · rintro e w' ⟨x, hx, he, h2⟩
    have h3 : Holds ω [Sep [treeO t p root, pagerO d p S], ownP (.slice x.1.1 x.2.length x.1.2) x.2.length x.2, sepA prO x.2, F] w' := (show Holds ω [ownP (.slice x.1.1 x.2.length x.1.2) x.2.length x.2, sepA prO x.2, Sep [treeO t p root, pagerO d p S], F] w' from h2).sb
    have h4 : Holds ω [treeO t p root, pagerO d p S, ownP (.slice x.1.1 x.2.length x.1.2) x.2.length x.2, sepA prO x.2, F] w' := Holds.flat.1 h3
    exact ⟨x, hx, he, h4.sb⟩
theorem all_nil (F : HP) (fr to : List UInt8) :
    Spec Try.prog 11 [.pointer none, .string (strOf fr), .string (strOf to)] [] F (fun _ : Option Addr × Nat => True) (fun x => .slice x.1 0 x.2) (fun _ => []) := fun ω w hh => by
  refine (all_any F none fr to [] (by decide) [] (α := Unit) (fun _ => Sep []) (Sep []) (fun x ω Γ w hh => (Holds.flat.1 hh)) 49 (fun _ => []) (by kernel_rfl) (fun F1 ω1 w1 h1 => ?_) (fun x F0 => eachNil_iter _ _ F0) ω w (Holds.flat.2 hh)).mono ?_
  · refine (each_nil F1 fr to ω1 w1 (Holds.flat.1 h1)).mono ?_
    rintro e w' ⟨x, -, he, h3⟩
    exact ⟨(), trivial, he, (Holds.flat (Γ := [])).2 ((Holds.flat (Γ := [])).2 h3)⟩
  · rintro e w' ⟨x, ⟨hx, -⟩, he, h2⟩
    have h0 : x.2 = [] := List.map_eq_nil_iff.1 hx
    refine ⟨x.1, trivial, by rw [he]; dsimp only; rw [h0]; rfl, ?_⟩
    exact (show Holds ω [_, _, _, F] w' from h2).drop.drop.drop
end Go.Proofs.Ytgeldfgcicjidaa
