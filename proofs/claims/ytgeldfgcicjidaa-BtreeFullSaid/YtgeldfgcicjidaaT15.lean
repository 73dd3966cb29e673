/-
  A walk through a tree, from one key on, ahead of another one.
-/
import Derived.Test.YtgeldfgcicjidaaT14
namespace Go.Proofs.Ytgeldfgcicjidaa
open Go.RowKit
set_option linter.unusedSimpArgs false
set_option linter.unusedVariables false

def inR (fr to : List UInt8) (x : KV) : Bool := decide (0 ≤ cmpB x.1 fr) && (decide (to = []) || decide (cmpB x.1 to < 0))
abbrev sel (fr to : List UInt8) (l : List KV) : List KV := l.filter (inR fr to)
/-- A node's pairs, item by item. -/
structure Grp (S : PS) (dep : Nat) (leaf : Bool) (l0 : List It) (m : List KV) (G : List (List KV)) : Prop where
  len : G.length = l0.length
  eq : m = G.flatten
  pos : 0 < l0.length
  nth : ∀ (i : Nat) (x : It), l0[i]? = some x → ∃ g, G[i]? = some g ∧ g ≠ [] ∧ x.k = (g.headD ([], [])).1 ∧ (leaf = true → g = [(x.k, x.b)]) ∧ (leaf = false → ∃ d' r', dep = d' + 1 ∧ IsT S d' r' x.c g)
theorem isT_grp {S : PS} : ∀ {dep r i : Nat} {m : List KV}, IsT S dep r i m → ∃ leaf l0 G, IsN S i leaf l0 ∧ Grp S dep leaf l0 m G
  | 0, r, i, m, ⟨h1, h2⟩ => ⟨true, _, m.map fun x => [x], h2, by simp, by simp [List.flatten_eq_flatMap, List.flatMap_map], List.length_pos_iff.2 h2.nd.ne, fun i x hx => by
      rw [List.getElem?_map] at hx
      obtain ⟨y, hy, rfl⟩ := Option.map_eq_some_iff.1 hx
      exact ⟨[y], by rw [List.getElem?_map, hy]; rfl, by simp, rfl, fun _ => rfl, fun h => nomatch h⟩⟩
  | d + 1, r, i, m, ⟨K, h1, h2, h3, h4⟩ => ⟨false, _, K.map (·.2), h2, by simp, by rw [h4, kvs, List.flatMap_def], List.length_pos_iff.2 h2.nd.ne, fun i x hx => by
      rw [List.getElem?_map] at hx
      obtain ⟨y, hy, rfl⟩ := Option.map_eq_some_iff.1 hx
      obtain ⟨r', h⟩ := h3 y (List.mem_of_getElem? hy)
      exact ⟨y.2, by rw [List.getElem?_map, hy]; rfl, h.ne, rfl, fun h => (by cases h), fun _ => ⟨d, r', rfl, h⟩⟩⟩
theorem flat_at' {α : Type} {G : List (List α)} {i : Nat} {g : List α} (h : G[i]? = some g) : (G.take (i + 1)).flatten = (G.take i).flatten ++ g ∧ G.flatten = (G.take i).flatten ++ (g ++ (G.drop (i + 1)).flatten) := by
  obtain ⟨hi, rfl⟩ := List.getElem?_eq_some_iff.1 h
  constructor
  · rw [List.take_add_one, List.flatten_append, List.getElem?_eq_getElem hi]; simp
  · have : G = G.take i ++ G[i] :: G.drop (i + 1) := by rw [← List.drop_eq_getElem_cons hi, List.take_append_drop]
    conv => lhs; rw [this]
    rw [List.flatten_append, List.flatten_cons]
theorem ge_head {l : List KV} {x : KV} (hs : KSrt (x :: l)) (to : List UInt8) (h : 0 ≤ cmpB x.1 to) : ∀ y ∈ x :: l, 0 ≤ cmpB y.1 to := by
  intro y hy
  rcases List.mem_cons.1 hy with rfl | hy
  · exact h
  · have h1 := List.rel_of_pairwise_cons hs hy
    have h2 := cmpB_trans x.1 y.1 to h1
    have := cmpB_range y.1 to
    omega
theorem sel_hi {fr to : List UInt8} {l : List KV} (hto : to ≠ []) (h : ∀ y ∈ l, 0 ≤ cmpB y.1 to) : sel fr to l = [] := by
  refine List.filter_eq_nil_iff.2 fun y hy hr => ?_
  have := h y hy
  simp [inR, hto] at hr
  omega
theorem sel_lo {fr to : List UInt8} {l : List KV} (h : ∀ y ∈ l, cmpB y.1 fr < 0) : sel fr to l = [] := by
  refine List.filter_eq_nil_iff.2 fun y hy hr => ?_
  have := h y hy
  simp [inR] at hr
  omega
theorem sel_app (fr to : List UInt8) (a b : List KV) : sel fr to (a ++ b) = sel fr to a ++ sel fr to b := List.filter_append ..
/-- Behind a key that is not ahead of the end nothing is wanted. -/
theorem sel_rest {fr to : List UInt8} {a b : List KV} (hto : to ≠ []) (hs : KSrt (a ++ b)) (h : ∃ x ∈ a, 0 ≤ cmpB x.1 to) : sel fr to b = [] := by
  obtain ⟨x, hx, hk⟩ := h
  refine sel_hi hto fun y hy => ?_
  have h1 := (List.pairwise_append.1 hs).2.2 x hx y hy
  have h2 := cmpB_trans x.1 y.1 to h1
  have := cmpB_range y.1 to
  omega
theorem grp_lo {fr to : List UInt8} {g b : List KV} {x : KV} (hs : KSrt (g ++ b)) (hx : x ∈ b) (h : cmpB x.1 fr ≤ 0) : sel fr to g = [] := by
  refine sel_lo fun y hy => ?_
  have h1 := (List.pairwise_append.1 hs).2.2 y hy x hx
  by_cases h0 : cmpB x.1 fr = 0
  · rw [← cmpB_eq _ _ h0]; exact h1
  · exact cmpB_trans y.1 x.1 fr h1 (by omega)
theorem sel_one {fr to : List UInt8} {x : KV} (h1 : 0 ≤ cmpB x.1 fr) (h2 : ¬ (to ≠ [] ∧ 0 ≤ cmpB x.1 to)) : sel fr to [x] = [x] := by
  refine List.filter_eq_self.2 fun y hy => ?_
  rw [List.mem_singleton.1 hy]
  by_cases h : to = []
  · simp [inR, h1, h]
  · have : cmpB x.1 to < 0 := by
      by_cases h3 : 0 ≤ cmpB x.1 to
      · exact absurd ⟨h, h3⟩ h2
      · omega
    simp [inR, h1, this]

/-- Item j of what is handed out. -/
def wkX (s : List KV) (j : Nat) (vs : List Value) : Prop := ∃ x v, s[j]? = some x ∧ vs = [.string (strOf x.1), v]
def wkR (s : List KV) (j : Nat) (vs : List Value) : HP := fun h => ∃ x v, (s[j]? = some x ∧ vs = [.string (strOf x.1), v]) ∧ bytesO v x.2 h
abbrev wkIT (c p d : Nat) (root : Int) (S : PS) (C : HP) : HP := Sep [treeO c p root, pagerO d p S, C]
/-- A contract where the world's own is known. -/
def SpecW (P : Program) (ω : Amb) (f : FuncId) (vs : List Value) (Ps : List HP) (F : HP) {α : Sort _} (φ : α → Prop) (ret : α → Value) (Qs : α → List HP) : Prop :=
  ∀ w, Holds ω (Ps ++ [F]) w → Calls P f vs.toArray w (fun e w' => ∃ x, φ x ∧ e = .returned (ret x) ∧ Holds ω (Qs x ++ [F]) w')
section
variable {P : Program} {ω : Amb} {n : Nat} {ds : List Deferred} {Γ Γ' : List HP} {β : List (Nat × Value)} {r : Option Nat} {ops : Array Oper} {Q : Exit → Act → World → Prop} {rest : List Oper}
theorem rcW {d : Nat} {ty : TypeId} {pos : String} {af : Array Edge} {gd : Option (Nat × Bool)} {f : FuncId} {l : List Operand} {vs : List Value} {tys : Array TypeId} {Ps : List HP} {α : Sort _} {φ : α → Prop} {ret : α → Value} {Qs : α → List HP}
    (hl : evs β l = some vs := by exact rfl) (hp : Pick Ps Γ Γ' := by repeat (first | exact Pick.nil | apply Pick.cons (by repeat (first | with_reducible exact Sel.head | apply Sel.tail)))) (hs : SpecW P ω f vs Ps (Sep Γ') φ ret Qs)
    (k : ∀ x, φ x → St ω n ds (Qs x ++ Γ') ((d, ret x) :: β) (Run P r ops Q rest)) (hw : wants ops β gd = some true := by exact rfl) (hd : d < n := by decide) (hf : hasBody P f = true := by kernel_rfl) :
    St ω n ds Γ β (Run P r ops Q (⟨some d, .call { callee := .value (.func f), args := l.toArray, argTypes := tys }, ty, pos, af, gd⟩ :: rest)) :=
  run_call hw hf hl fun a w hh hb => (hs w (hh.pick hp)).mono fun e w' ⟨x, hφ, he, hw'⟩ => ⟨_, he, k x hφ _ _ hw'.unpick (hb.put hd _)⟩
end
/-- What a walk through a part of a tree does. -/
def Walks (ω : Amb) (c p d : Nat) (root : Int) (S : PS) (C : HP) (fr to : List UInt8) (s : List KV) (l : Nat) (J : Nat → HP) (Jx : HP) (dep : Nat) : Prop :=
  ∀ (r i : Nat) (m : List KV), IsT S dep r i m → KSrt m → ∀ (n0 : Nat) (F0 : HP), (∀ j x, (sel fr to m)[j]? = some x → s[n0 + j]? = some x) →
    SpecW Try.prog ω 51 [.pointer (some ⟨c, 0, none⟩), .int .i64 i, .string (strOf fr), .string (strOf to), .func (.yield l) #[] #[]] [J n0, wkIT c p d root S C] F0
      (fun y : Bool × Bool => (y.1 = true → y.2 = true) ∧ (y.1 = false → y.2 = true → to ≠ [] ∧ ∃ x ∈ m, 0 ≤ cmpB x.1 to)) (fun y => .bool y.1) (fun y => [yP y.2 (Sep [J (n0 + (sel fr to m).length), wkIT c p d root S C]) Jx])
set_option maxHeartbeats 8000000 in
theorem walk_step (ω : Amb) (c p d k : Nat) (root : Int) (S : PS) (hS : S.good k) (C : HP) (fr to : List UInt8) (s : List KV) (l : Nat) (J : Nat → HP) (Jx : HP) (hy : YieldOk Try.prog ω l J Jx (wkIT c p d root S C) (wkX s) (wkR s)) (dep : Nat) (ih : ∀ d', dep = d' + 1 → Walks ω c p d root S C fr to s l J Jx d') : Walks ω c p d root S C fr to s l J Jx dep := by
  intro r i m hT hms n0 F0 hsel w hh
  refine enter Try.func51 rfl Try.ntmps51 rfl hh ?_
  simp only [List.cons_append, List.nil_append, argsB]
  have hmok := hT.ok
  obtain ⟨leaf, l0, G, hN, hG⟩ := isT_grp hT
  have hl64 := hN.nd.len
  have hpos := hG.pos
  have hGl := hG.len
  have hme := hG.eq
  subst hme
  refine St.sel (P := wkIT c p d root S C) (.tail .head) (St.flat ?_)
  simp only [List.cons_append, List.nil_append]
  refine sr ?_
  refine rr (rd_assign rfl) ?_
  refine nx ?_
  refine sr ?_
  refine rr (rd_move rfl) ?_
  refine rr (rd_move rfl) ?_
  refine rc (hs := read_spec _ c p d i k root S hS.1 leaf l0 hN) (k := ?_)
  rintro ⟨⟨A5, c5⟩, L5, X5⟩ ⟨hL5, hX5⟩
  dsimp only at hL5 hX5 ⊢
  have hn5 : L5.length = l0.length := by rw [← hL5, List.length_map]
  try simp only [List.cons_append, List.nil_append]
  refine rr (rd_move rfl) ?_
  refine rr (rd_extract rfl rfl) ?_
  refine rr (rd_extract rfl rfl) ?_
  refine r_al zero105 fun b11 => ?_
  first | refine r_sa row105 ?_ | refine r_sm row105 ?_
  refine rr (rd_assign rfl) ?_
  refine run_nil ?_
  refine St.kp [(0, _), (2, _), (3, _), (4, _), (11, _), (12, _)] ?_
  refine St.then_n ?_
  refine do_seq ?_
  refine sr ?_
  refine rr (rd_move rfl) ?_
  refine rr ((rd_ne rfl rfl).eq (show _ = Value.bool false by simp)) ?_
  refine nx ?_
  refine do_cond_f rfl ?_
  refine do_skip ?_
  refine St.then_n ?_
  refine do_seq ?_
  refine sr ?_
  refine rr (rd_fa rfl fld105_1) ?_
  refine rr (rd_ld rfl row67) ?_
  refine rr (rd_len Try.underlying67 rfl) ?_
  refine rr (rd_move rfl) ?_
  refine run_nil ?_
  refine St.kp [(0, _), (2, _), (3, _), (4, _), (11, _), (24, _), (25, _), (26, _)] ?_
  refine St.then_n ?_
  refine do_block ?_
  refine St.sl (P := ownI (.slice A5 l0.length c5) l0.length L5) (St.Q_some (by omega) (fun g5 c6 hg5 _ _ => ?_))
  simp only [Value.slice.injEq] at hg5
  obtain ⟨rfl, -, rfl⟩ := hg5
  refine St.sl (P := J n0) (St.ent (Q := J (n0 + (sel fr to (G.take 0).flatten).length)) (fun _ h => by simpa using h) ?_)
  refine do_lp (fun q : Nat => q ≤ l0.length) (fun q => [(0, .pointer (some ⟨c, 0, none⟩)), (2, .string (strOf fr)), (3, .string (strOf to)), (4, .func (.yield l) #[] #[]), (11, .pointer (some ⟨b11, 0, none⟩)), (24, .slice (some ⟨g5, 0, none⟩) l0.length c5), (25, .int .i64 l0.length), (26, .int .i64 q)]) (fun q => [J (n0 + (sel fr to (G.take q).flatten).length), treeO c p root, pagerO d p S, C, pts b11 105 [.bool leaf, .slice (some ⟨g5, 0, none⟩) l0.length c5], ownI (.slice (some ⟨g5, 0, none⟩) l0.length c5) l0.length L5, X5, F0]) (fun q => l0.length - q) 0 (Nat.zero_le _) ?_
  intro q hq
  refine sr ?_
  refine rr (rd_lt rfl rfl) ?_
  refine nx ?_
  refine do_seq ?_
  first | refine do_condp rfl (fun h27 => ?_) (fun h27 => ?_) | refine do_cond rfl (fun h27 => ?_) (fun h27 => ?_)
  · have hql : q < l0.length := by omega
    have hxL := List.getElem?_eq_getElem (l := L5) (i := q) (by omega)
    have hxm := List.mem_of_getElem? hxL
    generalize L5[q]'_ = xm at hxL hxm
    have hxl := ps_at hxL
    rw [hL5] at hxl
    have hxv := hX5 xm hxm
    obtain ⟨xk, xA, xc, xb, xd⟩ := xm
    dsimp only at hxv
    obtain ⟨g, hg, hgne, hgk, hgl, hgm⟩ := hG.nth q _ hxl
    dsimp only at hgk hgl hgm
    obtain ⟨hf1, hf2⟩ := flat_at' hg
    have hms1 := hms
    rw [hf2] at hms1
    obtain ⟨R2, hR2⟩ : ∃ R2, (G.drop (q + 1)).flatten = R2 := ⟨_, rfl⟩
    obtain ⟨P2, hP2⟩ : ∃ P2, (G.take q).flatten = P2 := ⟨_, rfl⟩
    rw [hR2, hP2] at hf2 hms1
    rw [hP2] at hf1
    have hsm : sel fr to G.flatten = sel fr to P2 ++ (sel fr to g ++ sel fr to R2) := by rw [hf2, sel_app, sel_app]
    have hs1 : sel fr to (G.take (q + 1)).flatten = sel fr to P2 ++ sel fr to g := by rw [hf1, sel_app]
    have hgs : KSrt (g ++ R2) := (List.pairwise_append.1 hms1).2.1
    obtain ⟨N1, hN1⟩ : ∃ N1, n0 + (sel fr to (G.take (q + 1)).flatten).length = N1 := ⟨_, rfl⟩
    obtain ⟨N0, hN0⟩ : ∃ N0, n0 + (sel fr to P2).length = N0 := ⟨_, rfl⟩
    have hN01 : N1 = N0 + (sel fr to g).length := by rw [← hN1, hs1, List.length_append, ← hN0]; omega
    have hhi : to ≠ [] → 0 ≤ cmpB xk to → N0 = n0 + (sel fr to G.flatten).length ∧ ∃ x ∈ G.flatten, 0 ≤ cmpB x.1 to := by
      intro hto h0
      obtain ⟨y0, g', rfl⟩ := List.exists_cons_of_ne_nil hgne
      have hyk : xk = y0.1 := hgk
      rw [hyk] at h0
      have h1 := sel_hi (fr := fr) hto (ge_head (l := g' ++ R2) hgs to h0)
      refine ⟨?_, y0, by rw [hf2]; simp, h0⟩
      have h2 : sel fr to (y0 :: g') ++ sel fr to R2 = [] := by rw [← sel_app]; exact h1
      rw [hsm, h2, List.append_nil, ← hN0]
    obtain ⟨tB, htB⟩ : ∃ tB, decide (to ≠ []) = tB := ⟨_, rfl⟩
    obtain ⟨tF, htF⟩ : ∃ tF, decide (0 ≤ cmpB xk fr) = tF := ⟨_, rfl⟩
    rw [hP2, hN0]
    refine do_skip ?_
    refine St.then_n ?_
    refine do_seq ?_
    refine do_block ?_
    refine sr ?_
    refine rr (rd_move rfl) ?_
    refine rr ((rd_indexAddr Try.underlying67 ei69 rfl rfl (by omega) (by omega)).eq (show _ = Value.pointer (some ⟨g5, 0 + q * 3, none⟩) by simp)) ?_
    refine rr (rd_ldr _ rfl row69 (show CellsIn _ _ _ _ [.string (strOf xk), .slice xA xb.length xc, .int .i64 xd] from cells_Q (n := l0.length) (c := c5) (T := 69) (L := L5) imC_len hxL)) ?_
    refine r_al zero69 fun b14 => ?_
    refine rr (rd_assign rfl) ?_
    first | refine r_sa row69 ?_ | refine r_sm row69 ?_
    refine run_nil ?_
    refine St.kp [(0, _), (2, _), (3, _), (4, _), (11, _), (13, _), (14, _), (24, _), (25, _), (26, _)] ?_
    refine St.then_n ?_
    refine do_block ?_
    refine do_seq ?_
    refine do_cut (fun _ : Nat => True) (fun g' => [(0, .pointer (some ⟨c, 0, none⟩)), (2, .string (strOf fr)), (3, .string (strOf to)), (4, .func (.yield l) #[] #[]), (11, .pointer (some ⟨b11, 0, none⟩)), (13, .int .i64 q), (14, .pointer (some ⟨g', 0, none⟩)), (24, .slice (some ⟨g5, 0, none⟩) l0.length c5), (25, .int .i64 l0.length), (26, .int .i64 q), (31, .bool (tB && decide (0 ≤ cmpB xk to)))]) (fun g' => [pts g' 69 [.string (strOf xk), .slice xA xb.length xc, .int .i64 xd], J N0, treeO c p root, pagerO d p S, C, pts b11 105 [.bool leaf, .slice (some ⟨g5, 0, none⟩) l0.length c5], ownI (.slice (some ⟨g5, 0, none⟩) l0.length c5) l0.length L5, X5, F0]) (fun K hK => ?_) ?_
    · cases tB
      · refine do_region ?_
        refine rr (rd_move rfl) ?_
        refine rr ((rd_str_neq (b := []) rfl rfl).eq (congrArg Value.bool htB)) ?_
        refine rr (rd_move rfl) ?_
        first | refine sk ?_ | (refine rr (rd_fa rfl fld69_0) ?_)
        first | refine sk ?_ | (refine rr (rd_ld rfl row9) ?_)
        first | refine sk ?_ | (refine rr (rd_move rfl) ?_)
        first | refine sk ?_ | (refine rr (rd_str_geq rfl rfl) ?_)
        refine rr (rd_pick rfl rfl) ?_
        refine rr (rd_assign rfl) ?_
        refine run_nil ?_
        refine St.kp [(0, _), (2, _), (3, _), (4, _), (11, _), (13, _), (14, _), (24, _), (25, _), (26, _), (31, _), (35, _), (36, _), (37, _), (38, _)] ?_
        refine St.then_n ?_
        exact St.sb (St.kq [(0, _), (2, _), (3, _), (4, _), (11, _), (13, _), (14, _), (24, _), (25, _), (26, _), (31, _)] (h := hK b14 trivial))
      · refine do_region ?_
        refine rr (rd_move rfl) ?_
        refine rr ((rd_str_neq (b := []) rfl rfl).eq (congrArg Value.bool htB)) ?_
        refine rr (rd_move rfl) ?_
        first | refine sk ?_ | (refine rr (rd_fa rfl fld69_0) ?_)
        first | refine sk ?_ | (refine rr (rd_ld rfl row9) ?_)
        first | refine sk ?_ | (refine rr (rd_move rfl) ?_)
        first | refine sk ?_ | (refine rr (rd_str_geq rfl rfl) ?_)
        refine rr (rd_pick rfl rfl) ?_
        refine rr (rd_assign rfl) ?_
        refine run_nil ?_
        refine St.kp [(0, _), (2, _), (3, _), (4, _), (11, _), (13, _), (14, _), (24, _), (25, _), (26, _), (31, _), (35, _), (36, _), (37, _), (38, _)] ?_
        refine St.then_n ?_
        exact St.sb (St.kq [(0, _), (2, _), (3, _), (4, _), (11, _), (13, _), (14, _), (24, _), (25, _), (26, _), (31, _)] (h := hK b14 trivial))
    rintro b14 -
    first | refine do_condp rfl (fun h31 => ?_) (fun h31 => ?_) | refine do_cond rfl (fun h31 => ?_) (fun h31 => ?_)
    · obtain ⟨h3, h4⟩ := hhi (by have := (Bool.and_eq_true _ _ ▸ h31).1; rw [← htB] at this; exact of_decide_eq_true this) (by have := (Bool.and_eq_true _ _ ▸ h31).2; exact of_decide_eq_true this)
      rw [h3]
      refine St.pack (Ps := [treeO c p root, pagerO d p S, C]) (by repeat (first | exact Pick.nil | apply Pick.cons (by repeat (first | with_reducible exact Sel.head | apply Sel.tail)))) ?_
      refine St.pack (Ps := [J (n0 + (sel fr to G.flatten).length), wkIT c p d root S C]) (by repeat (first | exact Pick.nil | apply Pick.cons (by repeat (first | with_reducible exact Sel.head | apply Sel.tail)))) ?_
      refine sr ?_
      refine rr (rd_assign rfl) ?_
      refine run_nil ?_
      refine St.kp [(10, _)] ?_
      refine St.then_n ?_
      refine do_ret ?_
      refine St.blk_r ?_
      refine St.blk_r ?_
      refine St.then_r ?_
      refine St.then_r ?_
      refine St.blk_r ?_
      refine St.then_r ?_
      refine do_ret1 Try.results51 (res_tmp rfl) ?_
      intro w hw
      exact ⟨(false, true), ⟨(fun h => nomatch h), fun _ _ => ⟨(by have := (Bool.and_eq_true _ _ ▸ h31).1; rw [← htB] at this; exact of_decide_eq_true this), h4⟩⟩, rfl, (show Holds _ [Sep _, _] _ from hw.sb)⟩
    · have hnhi : ¬ (to ≠ [] ∧ 0 ≤ cmpB xk to) := fun h => by rw [← htB] at h31; simp [h.1, h.2] at h31
      have hleaf : ∀ b : Bool, leaf = b → leaf = b := fun _ h => h
      refine sr ?_
      refine rr (rd_fa rfl fld105_0) ?_
      refine rr (rd_ld rfl row4) ?_
      refine rr (rd_assign rfl) ?_
      refine nx ?_
      first | refine do_condp rfl (fun h40 => ?_) (fun h40 => ?_) | refine do_cond rfl (fun h40 => ?_) (fun h40 => ?_)
      · refine do_seq ?_
        have hg1 : g = [(xk, xb)] := hgl (by simpa using h40)
        refine do_cut (fun _ : Bool => True) (fun b => [(0, .pointer (some ⟨c, 0, none⟩)), (2, .string (strOf fr)), (3, .string (strOf to)), (4, .func (.yield l) #[] #[]), (11, .pointer (some ⟨b11, 0, none⟩)), (24, .slice (some ⟨g5, 0, none⟩) l0.length c5), (25, .int .i64 l0.length), (26, .int .i64 q), (56, .bool (!b))]) (fun b => [yP b (Sep [J N1, wkIT c p d root S C]) Jx, pts b11 105 [.bool leaf, .slice (some ⟨g5, 0, none⟩) l0.length c5], ownI (.slice (some ⟨g5, 0, none⟩) l0.length c5) l0.length L5, X5, F0]) (fun K hK => ?_) ?_
        · cases tF
          · refine do_draw [[1, 3, 4, 5, 6, 7, 8, 9, 10, 11, 12, 13], [3, 4, 5, 6, 7, 8, 9, 10, 11, 12, 13], [3, 4, 5, 6, 7, 8, 9, 10, 11, 12, 13], [4, 5, 6, 7, 8, 9, 10, 11, 12, 13], [5, 6, 7, 8, 9, 10, 11, 12, 13], [11, 12, 13], [7, 11, 12, 13], [11, 12, 13], [9, 10, 11, 12, 13], [10, 11, 12, 13], [11, 12, 13], [12, 13], [13], []] (by kernel_rfl) rfl ?_
            refine ta 0 rfl (rd_fa rfl fld69_0) ?_
            refine ta 1 rfl (rd_ld rfl row9) ?_
            refine ta 2 rfl (rd_move rfl) ?_
            refine ta 3 rfl ((rd_str_geq rfl rfl).eq (congrArg Value.bool htF)) ?_
            refine ta 4 rfl (rd_move rfl) ?_
            first | refine ts 5 ?_ | refine ta 5 rfl (rd_move rfl) ?_
            first | refine ts 6 ?_ | refine ta 6 rfl (rd_fa rfl fld69_0) ?_
            first | refine ts 7 ?_ | refine ta 7 rfl (rd_ld rfl row9) ?_
            first | refine ts 8 ?_ | refine ta 8 rfl (rd_fa rfl fld69_1) ?_
            first | refine ts 9 ?_ | refine ta 9 rfl (rd_ld rfl row44) ?_
            refine tr 10 ?_
            first
              | refine sk ?_
              | (refine rc (hs := cloneB_spec _ _ xb (Vw.sep hxv (by repeat (first | with_reducible exact Sel.head | apply Sel.tail))) (by have := (hmok (xk, xb) (by rw [hf2, hg1]; simp)).b80; dsimp only at this; omega)) (k := ?_)
                 rintro v1 -
                 have hsel1 : sel fr to g = [(xk, xb)] := by rw [hg1]; exact sel_one (of_decide_eq_true htF) hnhi
                 have hsx : s[N0]? = some (xk, xb) := by rw [← hN0]; exact hsel _ _ (by rw [hsm, hsel1, List.getElem?_append_right (Nat.le_refl _), Nat.sub_self]; rfl)
                 have e1 : N0 + 1 = N1 := by rw [hN01, hsel1]; rfl
                 refine St.ent (Q := wkR s N0 [.string (strOf xk), v1]) (fun h hb => ⟨(xk, xb), v1, ⟨hsx, rfl⟩, hb⟩) ?_
                 refine St.pack (Ps := [treeO c p root, pagerO d p S, C]) (by repeat (first | exact Pick.nil | apply Pick.cons (by repeat (first | with_reducible exact Sel.head | apply Sel.tail)))) ?_
                 try simp only [List.cons_append, List.nil_append])
            refine nx ?_
            refine any_next (by (try (apply bd 9)); (try (apply bd 8)); (try (apply bk 7 rfl (rd_ld rfl row9))); (try (apply bk 6 rfl (rd_fa rfl fld69_0))); (try (apply bk 5 rfl (rd_move rfl))); apply bd 4; apply bd 3; apply bd 2; apply bd 1; apply bd 0; exact .nil) ?_
            refine tr 11 ?_
            first
              | refine sk ?_
              | (refine run_yieldB rfl (by decide) rfl rfl hy N0 ⟨(xk, xb), v1, hsx, rfl⟩ (by repeat (first | exact Pick.nil | apply Pick.cons (by repeat (first | with_reducible exact Sel.head | apply Sel.tail)))) (fun b54 => ?_)
                 rw [e1])
            refine nx ?_
            refine any_next (by (try (apply bd 7)); (try (apply bd 6)); (try (apply bd 5)); exact .nil) ?_
            first | refine ts 12 ?_ | refine ta 12 rfl (rd_not rfl) ?_
            refine ta 13 rfl (rd_pick rfl rfl) ?_
            refine any_nil (by kernel_rfl) ?_
            refine St.then_n ?_
            first | exact St.sb (St.kq [(0, _), (2, _), (3, _), (4, _), (11, _), (24, _), (25, _), (26, _), (56, _)] (h := hK b54 trivial)) | (have e0 : N0 = N1 := by { rw [hN01, hg1, sel_lo (fun y hy => by rw [List.mem_singleton.1 hy]; have := of_decide_eq_false htF; show cmpB xk fr < 0; omega)]; rfl }; rw [e0]; refine St.pack (Ps := [treeO c p root, pagerO d p S, C]) (by repeat (first | exact Pick.nil | apply Pick.cons (by repeat (first | with_reducible exact Sel.head | apply Sel.tail)))) ?_; refine St.pack (Ps := [J N1, wkIT c p d root S C]) (by repeat (first | exact Pick.nil | apply Pick.cons (by repeat (first | with_reducible exact Sel.head | apply Sel.tail)))) ?_; refine St.ent (Q := yP true (Sep [J N1, wkIT c p d root S C]) Jx) (fun _ h => h) ?_; exact St.sb (St.kq [(0, _), (2, _), (3, _), (4, _), (11, _), (24, _), (25, _), (26, _), (56, _)] (h := hK true trivial)))
          · refine do_draw [[1, 3, 4, 5, 6, 7, 8, 9, 10, 11, 12, 13], [3, 4, 5, 6, 7, 8, 9, 10, 11, 12, 13], [3, 4, 5, 6, 7, 8, 9, 10, 11, 12, 13], [4, 5, 6, 7, 8, 9, 10, 11, 12, 13], [5, 6, 7, 8, 9, 10, 11, 12, 13], [11, 12, 13], [7, 11, 12, 13], [11, 12, 13], [9, 10, 11, 12, 13], [10, 11, 12, 13], [11, 12, 13], [12, 13], [13], []] (by kernel_rfl) rfl ?_
            refine ta 0 rfl (rd_fa rfl fld69_0) ?_
            refine ta 1 rfl (rd_ld rfl row9) ?_
            refine ta 2 rfl (rd_move rfl) ?_
            refine ta 3 rfl ((rd_str_geq rfl rfl).eq (congrArg Value.bool htF)) ?_
            refine ta 4 rfl (rd_move rfl) ?_
            first | refine ts 5 ?_ | refine ta 5 rfl (rd_move rfl) ?_
            first | refine ts 6 ?_ | refine ta 6 rfl (rd_fa rfl fld69_0) ?_
            first | refine ts 7 ?_ | refine ta 7 rfl (rd_ld rfl row9) ?_
            first | refine ts 8 ?_ | refine ta 8 rfl (rd_fa rfl fld69_1) ?_
            first | refine ts 9 ?_ | refine ta 9 rfl (rd_ld rfl row44) ?_
            refine tr 10 ?_
            first
              | refine sk ?_
              | (refine rc (hs := cloneB_spec _ _ xb (Vw.sep hxv (by repeat (first | with_reducible exact Sel.head | apply Sel.tail))) (by have := (hmok (xk, xb) (by rw [hf2, hg1]; simp)).b80; dsimp only at this; omega)) (k := ?_)
                 rintro v1 -
                 have hsel1 : sel fr to g = [(xk, xb)] := by rw [hg1]; exact sel_one (of_decide_eq_true htF) hnhi
                 have hsx : s[N0]? = some (xk, xb) := by rw [← hN0]; exact hsel _ _ (by rw [hsm, hsel1, List.getElem?_append_right (Nat.le_refl _), Nat.sub_self]; rfl)
                 have e1 : N0 + 1 = N1 := by rw [hN01, hsel1]; rfl
                 refine St.ent (Q := wkR s N0 [.string (strOf xk), v1]) (fun h hb => ⟨(xk, xb), v1, ⟨hsx, rfl⟩, hb⟩) ?_
                 refine St.pack (Ps := [treeO c p root, pagerO d p S, C]) (by repeat (first | exact Pick.nil | apply Pick.cons (by repeat (first | with_reducible exact Sel.head | apply Sel.tail)))) ?_
                 try simp only [List.cons_append, List.nil_append])
            refine nx ?_
            refine any_next (by (try (apply bd 9)); (try (apply bd 8)); (try (apply bk 7 rfl (rd_ld rfl row9))); (try (apply bk 6 rfl (rd_fa rfl fld69_0))); (try (apply bk 5 rfl (rd_move rfl))); apply bd 4; apply bd 3; apply bd 2; apply bd 1; apply bd 0; exact .nil) ?_
            refine tr 11 ?_
            first
              | refine sk ?_
              | (refine run_yieldB rfl (by decide) rfl rfl hy N0 ⟨(xk, xb), v1, hsx, rfl⟩ (by repeat (first | exact Pick.nil | apply Pick.cons (by repeat (first | with_reducible exact Sel.head | apply Sel.tail)))) (fun b54 => ?_)
                 rw [e1])
            refine nx ?_
            refine any_next (by (try (apply bd 7)); (try (apply bd 6)); (try (apply bd 5)); exact .nil) ?_
            first | refine ts 12 ?_ | refine ta 12 rfl (rd_not rfl) ?_
            refine ta 13 rfl (rd_pick rfl rfl) ?_
            refine any_nil (by kernel_rfl) ?_
            refine St.then_n ?_
            first | exact St.sb (St.kq [(0, _), (2, _), (3, _), (4, _), (11, _), (24, _), (25, _), (26, _), (56, _)] (h := hK b54 trivial)) | (have e0 : N0 = N1 := by { rw [hN01, hg1, sel_lo (fun y hy => by rw [List.mem_singleton.1 hy]; have := of_decide_eq_false htF; show cmpB xk fr < 0; omega)]; rfl }; rw [e0]; refine St.pack (Ps := [treeO c p root, pagerO d p S, C]) (by repeat (first | exact Pick.nil | apply Pick.cons (by repeat (first | with_reducible exact Sel.head | apply Sel.tail)))) ?_; refine St.pack (Ps := [J N1, wkIT c p d root S C]) (by repeat (first | exact Pick.nil | apply Pick.cons (by repeat (first | with_reducible exact Sel.head | apply Sel.tail)))) ?_; refine St.ent (Q := yP true (Sep [J N1, wkIT c p d root S C]) Jx) (fun _ h => h) ?_; exact St.sb (St.kq [(0, _), (2, _), (3, _), (4, _), (11, _), (24, _), (25, _), (26, _), (56, _)] (h := hK true trivial)))
        rintro go -
        first | refine do_condp rfl (fun h56 => ?_) (fun h56 => ?_) | refine do_cond rfl (fun h56 => ?_) (fun h56 => ?_)
        · obtain rfl : go = false := by simpa using h56
          refine sr ?_
          refine rr (rd_assign rfl) ?_
          refine run_nil ?_
          refine St.kp [(10, _)] ?_
          refine St.then_n ?_
          refine do_ret ?_
          refine St.blk_r ?_
          refine St.blk_r ?_
          refine St.then_r ?_
          refine St.then_r ?_
          refine St.blk_r ?_
          refine St.then_r ?_
          refine do_ret1 Try.results51 (res_tmp rfl) ?_
          intro w hw
          exact ⟨(false, false), ⟨(fun h => nomatch h), fun _ h => nomatch h⟩, rfl, (show Holds _ [Jx, _] _ from (show Holds _ (Jx :: _) _ from hw).sb)⟩
        · obtain rfl : go = true := by simpa using h56
          refine St.ent (Q := Sep [J N1, wkIT c p d root S C]) (fun _ h => h) (St.flat ?_)
          simp only [List.cons_append, List.nil_append]
          refine St.sel (P := wkIT c p d root S C) (.tail .head) (St.flat ?_)
          simp only [List.cons_append, List.nil_append]
          subst hN1
          refine do_skip ?_
          refine St.blk_n ?_
          refine St.blk_n ?_
          refine St.then_n ?_
          refine do_region ?_
          refine rr (rd_addi rfl rfl) ?_
          refine rr (rd_move rfl) ?_
          refine nx ?_
          exact loop_bk (q + 1) (by omega)
      · refine do_seq ?_
        obtain ⟨d2, r2, hd2, hTg⟩ := hgm (by simpa using h40)
        obtain ⟨tL, htL⟩ : ∃ tL, decide ((q : Int) + 1 < l0.length) = tL := ⟨_, rfl⟩
        obtain ⟨ym, hym⟩ : ∃ ym : Im, tL = true → L5[q + 1]? = some ym := by
          by_cases h : q + 1 < L5.length
          · exact ⟨_, fun _ => List.getElem?_eq_getElem h⟩
          · exact ⟨⟨[], none, 0, [], 0⟩, fun ht => by rw [← htL] at ht; have := of_decide_eq_true ht; omega⟩
        refine do_cut (fun _ : Unit => True) (fun _ => [(0, .pointer (some ⟨c, 0, none⟩)), (2, .string (strOf fr)), (3, .string (strOf to)), (4, .func (.yield l) #[] #[]), (11, .pointer (some ⟨b11, 0, none⟩)), (14, .pointer (some ⟨b14, 0, none⟩)), (24, .slice (some ⟨g5, 0, none⟩) l0.length c5), (25, .int .i64 l0.length), (26, .int .i64 q), (57, .bool (tL && decide (cmpB ym.k fr ≤ 0)))]) (fun _ => [pts b14 69 [.string (strOf xk), .slice xA xb.length xc, .int .i64 xd], J N0, treeO c p root, pagerO d p S, C, pts b11 105 [.bool leaf, .slice (some ⟨g5, 0, none⟩) l0.length c5], ownI (.slice (some ⟨g5, 0, none⟩) l0.length c5) l0.length L5, X5, F0]) (fun K hK => ?_) ?_
        · cases tL
          · refine do_region ?_
            refine rr (rd_move rfl) ?_
            refine rr (rd_addi rfl rfl) ?_
            refine rr (rd_fa rfl fld105_1) ?_
            refine rr (rd_ld rfl row67) ?_
            refine rr (rd_len Try.underlying67 rfl) ?_
            refine rr ((rd_lt rfl rfl).eq (congrArg Value.bool htL)) ?_
            refine rr (rd_move rfl) ?_
            first | refine sk ?_ | (refine rr (rd_fa rfl fld105_1) ?_)
            first | refine sk ?_ | (refine rr (rd_ld rfl row67) ?_)
            first | refine sk ?_ | (refine rr (rd_move rfl) ?_)
            first | refine sk ?_ | (refine rr (rd_addi rfl rfl) ?_)
            first | refine sk ?_ | (refine rr ((rd_indexAddr Try.underlying67 ei69 rfl rfl (by omega) (by have := of_decide_eq_true htL; omega)).eq (show _ = Value.pointer (some ⟨g5, 0 + (q + 1) * 3, none⟩) by rw [show ((q : Int) + 1).toNat = q + 1 by omega])) ?_)
            first | refine sk ?_ | (refine rr (rd_fa (off' := 0 + (q + 1) * 3 + 0) rfl fld69_0 rfl) ?_)
            first | refine sk ?_ | (refine rr (rd_ld rfl row9 (cellQ (L := L5) (i := q + 1) (j := 0) (T := 69) (c := c5) (n := l0.length) imC_len (x := ym) (u := .string (strOf ym.k)) (hym rfl) (by decide) rfl)) ?_)
            first | refine sk ?_ | (refine rr (rd_move rfl) ?_)
            first | refine sk ?_ | (refine rr (rd_str_leq rfl rfl) ?_)
            refine rr (rd_pick rfl rfl) ?_
            refine rr (rd_assign rfl) ?_
            refine run_nil ?_
            refine St.kp [(0, _), (2, _), (3, _), (4, _), (11, _), (14, _), (24, _), (25, _), (26, _), (57, _), (65, _), (66, _), (67, _), (68, _), (69, _), (70, _), (71, _), (72, _), (73, _)] ?_
            refine St.then_n ?_
            exact St.sb (St.kq [(0, _), (2, _), (3, _), (4, _), (11, _), (14, _), (24, _), (25, _), (26, _), (57, _)] (h := hK () trivial))
          · refine do_region ?_
            refine rr (rd_move rfl) ?_
            refine rr (rd_addi rfl rfl) ?_
            refine rr (rd_fa rfl fld105_1) ?_
            refine rr (rd_ld rfl row67) ?_
            refine rr (rd_len Try.underlying67 rfl) ?_
            refine rr ((rd_lt rfl rfl).eq (congrArg Value.bool htL)) ?_
            refine rr (rd_move rfl) ?_
            first | refine sk ?_ | (refine rr (rd_fa rfl fld105_1) ?_)
            first | refine sk ?_ | (refine rr (rd_ld rfl row67) ?_)
            first | refine sk ?_ | (refine rr (rd_move rfl) ?_)
            first | refine sk ?_ | (refine rr (rd_addi rfl rfl) ?_)
            first | refine sk ?_ | (refine rr ((rd_indexAddr Try.underlying67 ei69 rfl rfl (by omega) (by have := of_decide_eq_true htL; omega)).eq (show _ = Value.pointer (some ⟨g5, 0 + (q + 1) * 3, none⟩) by rw [show ((q : Int) + 1).toNat = q + 1 by omega])) ?_)
            first | refine sk ?_ | (refine rr (rd_fa (off' := 0 + (q + 1) * 3 + 0) rfl fld69_0 rfl) ?_)
            first | refine sk ?_ | (refine rr (rd_ld rfl row9 (cellQ (L := L5) (i := q + 1) (j := 0) (T := 69) (c := c5) (n := l0.length) imC_len (x := ym) (u := .string (strOf ym.k)) (hym rfl) (by decide) rfl)) ?_)
            first | refine sk ?_ | (refine rr (rd_move rfl) ?_)
            first | refine sk ?_ | (refine rr (rd_str_leq rfl rfl) ?_)
            refine rr (rd_pick rfl rfl) ?_
            refine rr (rd_assign rfl) ?_
            refine run_nil ?_
            refine St.kp [(0, _), (2, _), (3, _), (4, _), (11, _), (14, _), (24, _), (25, _), (26, _), (57, _), (65, _), (66, _), (67, _), (68, _), (69, _), (70, _), (71, _), (72, _), (73, _)] ?_
            refine St.then_n ?_
            exact St.sb (St.kq [(0, _), (2, _), (3, _), (4, _), (11, _), (14, _), (24, _), (25, _), (26, _), (57, _)] (h := hK () trivial))
        rintro ⟨⟩ -
        first | refine do_condp rfl (fun h57 => ?_) (fun h57 => ?_) | refine do_cond rfl (fun h57 => ?_) (fun h57 => ?_)
        · have hL1 : tL = true := by cases tL; cases h57; rfl
          have hlo : cmpB ym.k fr ≤ 0 := by rw [hL1] at h57; exact of_decide_eq_true h57
          have hyl := ps_at (hym hL1)
          rw [hL5] at hyl
          obtain ⟨g2, hg2, hg2n, hg2k, -, -⟩ := hG.nth (q + 1) _ hyl
          obtain ⟨y0, g2', rfl⟩ := List.exists_cons_of_ne_nil hg2n
          have hyR : y0 ∈ R2 := by
            rw [← hR2]
            refine List.mem_flatten.2 ⟨y0 :: g2', ?_, List.mem_cons_self⟩
            refine List.mem_of_getElem? (i := 0) ?_
            rw [List.getElem?_drop]; exact hg2
          have hg0 : sel fr to g = [] := grp_lo hgs hyR (by rw [show y0.1 = ym.k from hg2k.symm]; exact hlo)
          have e0 : N0 = N1 := by rw [hN01, hg0]; rfl
          rw [e0]
          subst hN1
          refine do_skip ?_
          refine St.blk_n ?_
          refine St.blk_n ?_
          refine St.then_n ?_
          refine do_region ?_
          refine rr (rd_addi rfl rfl) ?_
          refine rr (rd_move rfl) ?_
          refine nx ?_
          exact loop_bk (q + 1) (by omega)
        · refine St.pack (Ps := [treeO c p root, pagerO d p S, C]) (by repeat (first | exact Pick.nil | apply Pick.cons (by repeat (first | with_reducible exact Sel.head | apply Sel.tail)))) ?_
          have hsubs : ∀ j x, (sel fr to g)[j]? = some x → s[N0 + j]? = some x := fun j x hj => by
            rw [← hN0, Nat.add_assoc]
            refine hsel _ _ ?_
            rw [hsm, List.getElem?_append_right (by omega), Nat.add_sub_cancel_left, List.getElem?_append_left (List.getElem?_eq_some_iff.1 hj).1]
            exact hj
          refine sr ?_
          refine rr (rd_move rfl) ?_
          refine rr (rd_fa rfl fld69_2) ?_
          refine rr (rd_ld rfl row3) ?_
          refine rr (rd_move rfl) ?_
          refine rr (rd_move rfl) ?_
          refine rr (rd_move rfl) ?_
          refine rcW (hs := ih d2 hd2 r2 xd g hTg (List.pairwise_append.1 hgs).1 N0 _ hsubs) (k := ?_)
          rintro ⟨go, jo⟩ ⟨y1, y2⟩
          dsimp only at y1 y2 ⊢
          simp only [List.cons_append, List.nil_append]
          rw [← hN01]
          refine rr (rd_not rfl) ?_
          refine rr (rd_assign rfl) ?_
          refine run_nil ?_
          refine St.kp [(0, _), (2, _), (3, _), (4, _), (11, _), (24, _), (25, _), (26, _), (75, _)] ?_
          refine St.then_n ?_
          first | refine do_condp rfl (fun h75 => ?_) (fun h75 => ?_) | refine do_cond rfl (fun h75 => ?_) (fun h75 => ?_)
          · obtain rfl : go = false := by simpa using h75
            refine sr ?_
            refine rr (rd_assign rfl) ?_
            refine run_nil ?_
            refine St.kp [(10, _)] ?_
            refine St.then_n ?_
            refine do_ret ?_
            refine St.blk_r ?_
            refine St.blk_r ?_
            refine St.then_r ?_
            refine St.then_r ?_
            refine St.blk_r ?_
            refine St.then_r ?_
            refine do_ret1 Try.results51 (res_tmp rfl) ?_
            intro w hw
            refine ⟨(false, jo), ⟨(fun h => nomatch h), fun _ hj => ?_⟩, rfl, ?_⟩
            · obtain ⟨q1, x, hx, hx2⟩ := y2 rfl hj
              exact ⟨q1, x, by rw [hf2]; simp [hx], hx2⟩
            · cases jo
              · exact (show Holds _ [Jx, _] _ from (show Holds _ (Jx :: _) _ from hw).sb)
              · obtain ⟨q1, hx⟩ := y2 rfl rfl
                have h0 : sel fr to R2 = [] := sel_rest q1 hgs hx
                have h1 : N1 = n0 + (sel fr to G.flatten).length := by rw [hsm, h0, List.append_nil, hN01, ← hN0, List.length_append]; omega
                exact (show Holds _ [Sep [J (n0 + _), _], _] _ from h1 ▸ (show Holds _ (Sep [J N1, wkIT c p d root S C] :: _) _ from hw).sb)
          · obtain rfl : go = true := by simpa using h75
            obtain rfl : jo = true := y1 rfl
            refine St.ent (Q := Sep [J N1, wkIT c p d root S C]) (fun _ h => h) (St.flat ?_)
            simp only [List.cons_append, List.nil_append]
            refine St.sel (P := wkIT c p d root S C) (.tail .head) (St.flat ?_)
            simp only [List.cons_append, List.nil_append]
            subst hN1
            refine do_skip ?_
            refine St.blk_n ?_
            refine St.blk_n ?_
            refine St.then_n ?_
            refine do_region ?_
            refine rr (rd_addi rfl rfl) ?_
            refine rr (rd_move rfl) ?_
            refine nx ?_
            exact loop_bk (q + 1) (by omega)
  · obtain rfl : q = l0.length := by omega
    rw [List.take_of_length_le (by omega)]
    refine St.pack (Ps := [treeO c p root, pagerO d p S, C]) (by repeat (first | exact Pick.nil | apply Pick.cons (by repeat (first | with_reducible exact Sel.head | apply Sel.tail)))) ?_
    refine St.pack (Ps := [J (n0 + (sel fr to G.flatten).length), wkIT c p d root S C]) (by repeat (first | exact Pick.nil | apply Pick.cons (by repeat (first | with_reducible exact Sel.head | apply Sel.tail)))) ?_
    refine do_exit ?_
    refine St.then_x ?_
    refine St.then_x ?_
    refine St.blk_s ?_
    refine St.then_n ?_
    refine sr ?_
    refine rr (rd_assign rfl) ?_
    refine run_nil ?_
    refine St.kp [(10, _)] ?_
    refine St.then_n ?_
    refine do_ret ?_
    refine do_ret1 Try.results51 (res_tmp rfl) ?_
    intro w hw
    exact ⟨(true, true), ⟨fun _ => rfl, fun h => nomatch h⟩, rfl, (show Holds _ [Sep _, _] _ from hw.sb)⟩
end Go.Proofs.Ytgeldfgcicjidaa
