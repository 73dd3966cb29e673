/-
  Items as nodes that have room for them: the program's parts.
-/
import Derived.Test.YtgeldfgcicjidaaT4
namespace Go.Proofs.Ytgeldfgcicjidaa
open Go.RowKit
set_option linter.unusedSimpArgs false
set_option linter.unusedVariables false

section
variable {α : Type} {f : α → HP} {ω : Amb} {m : Nat} {ds : List Deferred} {Γ Γ1 : List HP} {β : List (Nat × Value)} {K : Act → World → Prop} {L : List α} {y : α} {w : World}
/-- One's own things, one behind the other. -/
def sepA (f : α → HP) (L : List α) : HP := Sep (L.map f)
theorem Holds.sepA_snoc (h : Holds ω (sepA f L :: f y :: Γ) w) : Holds ω (sepA f (L ++ [y]) :: Γ) w := by
  refine Holds.flat.2 ?_
  have h1 : Holds ω (L.map f ++ (f y :: Γ)) w := Holds.flat.1 h
  rwa [List.map_append, List.append_assoc]
theorem Holds.sepA_last (h : Holds ω (sepA f (L ++ [y]) :: Γ) w) : Holds ω (sepA f L :: f y :: Γ) w := by
  refine Holds.flat.2 ?_
  have h1 : Holds ω ((L ++ [y]).map f ++ Γ) w := Holds.flat.1 h
  rwa [List.map_append, List.append_assoc] at h1
theorem St.sepA_snoc (h : St ω m ds (sepA f (L ++ [y]) :: Γ1) β K) (p : Pick [sepA f L, f y] Γ Γ1 := by repeat (first | exact Pick.nil | apply Pick.cons (by repeat (first | with_reducible exact Sel.head | apply Sel.tail)))) : St ω m ds Γ β K := fun a w b c =>
  h a w (Go.Proofs.Ytgeldfgcicjidaa.Holds.sepA_snoc (Holds.unpick (b.pick p))) c
theorem St.sepA_last (h : St ω m ds (sepA f L :: f y :: Γ) β K) : St ω m ds (sepA f (L ++ [y]) :: Γ) β K := fun a w b c => h a w (Go.Proofs.Ytgeldfgcicjidaa.Holds.sepA_last b) c
theorem St.sepA_nil (h : St ω m ds (sepA f [] :: Γ) β K) : St ω m ds Γ β K := St.emp h
theorem sepA_at {i : Nat} {x : α} (h : L[i]? = some x) {h0 : Part} (hs : sepA f L h0) : ∃ h1, Part.le h1 h0 ∧ f x h1 := by
  obtain ⟨hi, rfl⟩ := List.getElem?_eq_some_iff.1 h
  have h2 : (L.map f) = (L.take i).map f ++ f L[i] :: (L.drop (i + 1)).map f := by
    conv => lhs; rw [← List.take_append_drop i L, List.drop_eq_getElem_cons hi]
    rw [List.map_append, List.map_cons]
  unfold sepA at hs
  rw [h2] at hs
  obtain ⟨_, h3, _, l3, _, _, h4⟩ := Sep.append.1 hs
  obtain ⟨h5, _, l5, _, _, h6, _⟩ := h4
  exact ⟨h5, l5.trans l3, h6⟩
end
/-- A node in memory. -/
structure Nm where
  leaf : Bool
  A : Option Addr
  cp : Nat
  l : List Im
abbrev Nm.v (x : Nm) : Value := .slice x.A x.l.length x.cp
def ndC (x : Nm) : List Value := [.bool x.leaf, x.v]
theorem ndC_len (x : Nm) : (ndC x).length = 2 := rfl
theorem ndC_one (x : Nm) : (ndC x).all (·.oneCell') = true := rfl
abbrev ownI (v : Value) (n : Nat) (L : List Im) : HP := ownQ imC 69 3 v n L
abbrev ownN (v : Value) (n : Nat) (L : List Nm) : HP := ownQ ndC 105 2 v n L
def ndO (x : Nm) : HP := ownI x.v x.l.length x.l
def szM (leaf : Bool) (x : Im) : Nat := sizeI leaf x.p
/-- What is packed so far, in memory. -/
def PkR (q : Option (List (List Im) × List Im × Nat)) (N : List Nm) (s : Nat) : Prop := match q with
  | none => N = [] ∧ s = 253
  | some (C, c, s') => N.map (·.l) = C ++ [c] ∧ s = s'
theorem pkR_parts {q : Option (List (List Im) × List Im × Nat)} {N : List Nm} {s : Nat} (h : PkR q N s) : N.map (·.l) = pkL q := by
  cases q with
  | none => rw [h.1]; rfl
  | some q => obtain ⟨C, c, s'⟩ := q; exact h.1
theorem PkR.new {leaf : Bool} {q : Option (List (List Im) × List Im × Nat)} {N : List Nm} {s : Nat} {x : Im} (h : PkR q N s) (hc : 252 < s + szM leaf x ∨ ∃ N' y, N = N' ++ [y] ∧ 64 ≤ y.l.length) (A : Option Addr) (cp : Nat) : PkR (pkStep (szM leaf) q x) (N ++ [⟨leaf, A, cp, [x]⟩]) (2 + szM leaf x) := by
  cases q with
  | none =>
    obtain ⟨rfl, rfl⟩ := h
    exact ⟨rfl, rfl⟩
  | some q =>
    obtain ⟨C, c, s'⟩ := q
    obtain ⟨h1, rfl⟩ := h
    have hc2 : 252 < s + szM leaf x ∨ 64 ≤ c.length := by
      rcases hc with hc | ⟨N', y, rfl, hy⟩
      · exact .inl hc
      · right
        rw [List.map_append, List.map_cons, List.map_nil] at h1
        rw [← (List.append_inj' h1 rfl).2 |> List.cons.inj |>.1]
        exact hy
    unfold pkStep
    dsimp only
    rw [if_pos hc2]
    exact ⟨by rw [List.map_append, h1]; rfl, rfl⟩
theorem PkR.more {leaf : Bool} {q : Option (List (List Im) × List Im × Nat)} {N : List Nm} {y : Nm} {s : Nat} {x : Im} (h : PkR q (N ++ [y]) s) (hc : ¬ 252 < s + szM leaf x) (hy : ¬ 64 ≤ y.l.length) (A : Option Addr) (cp : Nat) : PkR (pkStep (szM leaf) q x) (N ++ [⟨leaf, A, cp, y.l ++ [x]⟩]) (s + szM leaf x) := by
  cases q with
  | none => exact absurd h.1 (by simp)
  | some q =>
    obtain ⟨C, c, s'⟩ := q
    obtain ⟨h1, rfl⟩ := h
    rw [List.map_append, List.map_cons, List.map_nil] at h1
    obtain ⟨h2, h3⟩ := List.append_inj' h1 rfl
    obtain rfl := (List.cons.inj h3).1
    unfold pkStep
    dsimp only
    rw [if_neg (by omega)]
    exact ⟨by rw [List.map_append, h2]; rfl, rfl⟩
set_option maxHeartbeats 4000000 in
theorem parts_spec (F : HP) (leaf : Bool) (A : Option Addr) (n c : Nat) (l : List Im) (hV : Vw F (.slice A n c) 3 n (l.flatMap imC)) (hn : l.length = n) (hl : n ≤ 1048576) (hok : ∀ x ∈ l, x.p.ok) :
    Spec Try.prog 27 [.slice A n c, .bool leaf] [] F (fun x : (Option Addr × Nat) × List Nm => x.2.map (·.l) = parts (szM leaf) l ∧ ∀ y ∈ x.2, y.leaf = leaf) (fun x => .slice x.1.1 x.2.length x.1.2) (fun x => [ownN (.slice x.1.1 x.2.length x.1.2) x.2.length x.2, sepA ndO x.2]) := by
  intro ω w hh
  refine enter Try.func27 rfl Try.ntmps27 rfl hh ?_
  simp only [List.nil_append, argsB]
  refine sr ?_
  refine rr (rd_assign rfl) ?_
  refine nx ?_
  refine sr ?_
  refine rr (rd_assign rfl) ?_
  refine nx ?_
  refine sr ?_
  refine rr (rd_assign rfl) ?_
  refine nx ?_
  refine do_seq ?_
  refine sr ?_
  refine rr (rd_move rfl) ?_
  refine rr (rd_len Try.underlying67 rfl) ?_
  refine rr (rd_move rfl) ?_
  refine nx ?_
  refine do_block ?_
  refine St.nilQ (f := ndC) (T := 105) (k := 2) ?_
  refine St.sepA_nil (f := ndO) ?_
  refine do_lp (fun y : Nat × List Nm × Nat × (Option Addr × Nat) => y.1 ≤ n ∧ PkR (pkS (szM leaf) (l.take y.1)) y.2.1 y.2.2.1 ∧ (∀ z ∈ y.2.1, z.leaf = leaf) ∧ y.2.1.length ≤ y.1 ∧ y.2.2.1 ≤ 253)
    (fun y => [(1, .bool leaf), (5, .slice y.2.2.2.1 y.2.1.length y.2.2.2.2), (6, .int .i64 y.2.2.1), (11, .slice A n c), (12, .int .i64 n), (13, .int .i64 y.1)])
    (fun y => [ownN (.slice y.2.2.2.1 y.2.1.length y.2.2.2.2) y.2.1.length y.2.1, sepA ndO y.2.1, F])
    (fun y => n - y.1) (0, [], 253, (none, 0)) ⟨Nat.zero_le _, ⟨rfl, rfl⟩, (fun _ h => nomatch h), Nat.le_refl _, Nat.le_refl _⟩ ?_ (hΓ := by dsimp only [List.length_nil]; exact (by repeat (first | exact Pick.nil | apply Pick.cons (by repeat (first | with_reducible exact Sel.head | apply Sel.tail)))))
  rintro ⟨i, N, s, ⟨A1, c1⟩⟩ ⟨hi, hR, hlf, hNi, hs⟩
  dsimp only at hi hR hlf hNi hs ⊢
  refine sr ?_
  refine rr (rd_lt rfl rfl) ?_
  refine nx ?_
  refine do_seq ?_
  first | refine do_condp rfl (fun h14 => ?_) (fun h14 => ?_) | refine do_cond rfl (fun h14 => ?_) (fun h14 => ?_)
  · have hx := List.getElem?_eq_getElem (l := l) (i := i) (by omega)
    have hxm := List.mem_of_getElem? hx
    generalize l[i]'_ = x at hx hxm
    have htk := take_get' hx
    have hpi := flat_at (f := imC) imC_len hx
    have hxo := hok x hxm
    have hsz : szM leaf x ≤ 106 := sizeI_any hxo
    obtain ⟨q1, q2, q3, q4⟩ := hxo
    refine St.vw_some hV (by repeat (first | with_reducible exact Sel.head | apply Sel.tail)) (by omega) (fun g of hg _ _ => ?_)
    subst hg
    obtain ⟨xk, xA, xc, xb, xd⟩ := x
    obtain ⟨z, hz⟩ : ∃ z, szM leaf ⟨xk, xA, xc, xb, xd⟩ = z := ⟨_, rfl⟩
    have hcase : 252 < s + z ∨ (¬ 252 < s + z ∧ ∃ N' y, N = N' ++ [y]) := by
      rcases Nat.lt_or_ge 252 (s + z) with h1 | h1
      · exact .inl h1
      · refine .inr ⟨by omega, ?_⟩
        cases hq : pkS (szM leaf) (l.take i) with
        | none => rw [hq] at hR; have := hR.2; omega
        | some q =>
          obtain ⟨C, c0, s'⟩ := q
          rw [hq] at hR
          rcases List.eq_nil_or_concat N with h2 | ⟨N', y, h2⟩
          · rw [h2] at hR; have := hR.1; simp at this
          · exact ⟨N', y, by rw [h2, List.concat_eq_append]⟩
    refine do_skip ?_
    refine St.then_n ?_
    refine do_seq ?_
    refine do_block ?_
    refine sr ?_
    refine rr ((rd_indexAddr Try.underlying67 ei69 rfl rfl (by omega) (by omega)).eq (show _ = Value.pointer (some ⟨g, of + i * 3, none⟩) by simp)) ?_
    refine rr (rd_ldr _ rfl row69 (Vw.cells (k := 3) (vs := [.string (strOf xk), .slice xA xb.length xc, .int .i64 xd]) hV (by repeat (first | with_reducible exact Sel.head | apply Sel.tail)) (by omega) hpi)) ?_
    refine r_al zero69 fun b8 => ?_
    first | refine r_sa row69 ?_ | refine r_sm row69 ?_
    refine nx ?_
    refine sr ?_
    refine rr (rd_ldr [_, _, _] rfl row69) ?_
    refine rr (rd_move rfl) ?_
    refine rc (hs := size_spec _ leaf ⟨xk, xA, xc, xb, xd⟩ (by dsimp only at q2 ⊢; omega) (by dsimp only at q3 ⊢; omega)) (k := ?_)
    rintro ⟨⟩ -
    rw [show sizeI leaf (Im.p ⟨xk, xA, xc, xb, xd⟩) = z from hz]
    try simp only [List.cons_append, List.nil_append]
    refine rr (rd_assign rfl) ?_
    refine run_nil ?_
    refine St.kp [(1, _), (5, _), (6, _), (8, _), (9, _), (11, _), (12, _), (13, _)] ?_
    refine St.then_n ?_
    refine do_seq ?_
    refine do_seq ?_
    refine do_cut (fun q : Bool => (q = true ∧ (252 < s + z ∨ ∃ N' y, N = N' ++ [y] ∧ 64 ≤ y.l.length)) ∨ (q = false ∧ ∃ N' y, N = N' ++ [y] ∧ ¬ 252 < s + z ∧ ¬ 64 ≤ y.l.length)) (fun q => [(1, .bool leaf), (5, .slice A1 N.length c1), (6, .int .i64 s), (8, .pointer (some ⟨b8, 0, none⟩)), (9, .int .i64 z), (11, .slice (some ⟨g, of, none⟩) n c), (12, .int .i64 n), (13, .int .i64 i), (34, .bool q)])
      (fun _ => [pts b8 69 [.string (strOf xk), .slice xA xb.length xc, .int .i64 xd], ownN (.slice A1 N.length c1) N.length N, sepA ndO N, F]) (fun K hK => ?_) ?_
    · rcases hcase with hA | ⟨hA, N', y, rfl⟩
      · refine do_region ?_
        refine rr (rd_move rfl) ?_
        refine rr (rd_move rfl) ?_
        refine rr (rd_addi rfl rfl) ?_
        first | refine rr ((rd_gt rfl rfl).eq (show _ = Value.bool true from congrArg _ (decide_eq_true (by omega)))) ?_ | refine rr ((rd_gt rfl rfl).eq (show _ = Value.bool false from congrArg _ (decide_eq_false (by omega)))) ?_
        refine rr (rd_move rfl) ?_
        try (refine St.sl (P := ownN (.slice A1 (N' ++ [y]).length c1) (N' ++ [y]).length (N' ++ [y])) (St.Q_some (by simp) (fun g1 c2 hg _ _ => ?_)); simp only [Value.slice.injEq] at hg; obtain ⟨rfl, -, rfl⟩ := hg; have hNl : (N' ++ [y]).length = N'.length + 1 := by simp)
        first | refine sk ?_ | (refine rr (rd_move rfl) ?_)
        first | refine sk ?_ | (refine rr (rd_move rfl) ?_)
        first | refine sk ?_ | (refine rr (rd_len Try.underlying74 rfl) ?_)
        first | refine sk ?_ | (refine rr (rd_subi rfl rfl) ?_)
        first | refine sk ?_ | (refine rr ((rd_indexAddr Try.underlying74 ei105 rfl rfl (by omega) (by omega)).eq (show _ = Value.pointer (some ⟨g1, 0 + N'.length * 2, none⟩) by simp)) ?_)
        first | refine sk ?_ | (refine rr (rd_fa (off' := 0 + N'.length * 2 + 1) rfl fld105_1 rfl) ?_)
        first | refine sk ?_ | (refine rr (rd_ld rfl row67 (cellQ (L := N' ++ [y]) (i := N'.length) (j := 1) ndC_len (x := y) (u := y.v) (by simp) (by decide) rfl)) ?_)
        first | refine sk ?_ | (refine rr (rd_len Try.underlying67 rfl) ?_)
        first | refine sk ?_ | (refine rr (rd_ge rfl rfl) ?_)
        refine rr (rd_pick rfl rfl) ?_
        refine run_nil ?_
        refine St.kp [(1, _), (5, _), (6, _), (8, _), (9, _), (11, _), (12, _), (13, _), (25, _), (26, _), (27, _), (28, _), (29, _), (30, _), (31, _), (32, _), (33, _), (34, _)] ?_
        refine St.then_n ?_
        first
          | (have hm := (show 252 < s + z from hA)
             exact St.sb (St.kq [(1, _), (5, _), (6, _), (8, _), (9, _), (11, _), (12, _), (13, _), (34, _)] (h := hK true (.inl ⟨rfl, .inl hA⟩))))
          | (refine St.sb (St.kq [(1, _), (5, _), (6, _), (8, _), (9, _), (11, _), (12, _), (13, _), (34, _)] (h := hK (decide ((64 : Int) ≤ y.l.length)) ?_))
             by_cases h64 : 64 ≤ y.l.length
             · exact .inl ⟨decide_eq_true (by omega), .inr ⟨N', y, rfl, h64⟩⟩
             · exact .inr ⟨decide_eq_false (by omega), N', y, rfl, hA, h64⟩)
      · refine do_region ?_
        refine rr (rd_move rfl) ?_
        refine rr (rd_move rfl) ?_
        refine rr (rd_addi rfl rfl) ?_
        first | refine rr ((rd_gt rfl rfl).eq (show _ = Value.bool true from congrArg _ (decide_eq_true (by omega)))) ?_ | refine rr ((rd_gt rfl rfl).eq (show _ = Value.bool false from congrArg _ (decide_eq_false (by omega)))) ?_
        refine rr (rd_move rfl) ?_
        try (refine St.sl (P := ownN (.slice A1 (N' ++ [y]).length c1) (N' ++ [y]).length (N' ++ [y])) (St.Q_some (by simp) (fun g1 c2 hg _ _ => ?_)); simp only [Value.slice.injEq] at hg; obtain ⟨rfl, -, rfl⟩ := hg; have hNl : (N' ++ [y]).length = N'.length + 1 := by simp)
        first | refine sk ?_ | (refine rr (rd_move rfl) ?_)
        first | refine sk ?_ | (refine rr (rd_move rfl) ?_)
        first | refine sk ?_ | (refine rr (rd_len Try.underlying74 rfl) ?_)
        first | refine sk ?_ | (refine rr (rd_subi rfl rfl) ?_)
        first | refine sk ?_ | (refine rr ((rd_indexAddr Try.underlying74 ei105 rfl rfl (by omega) (by omega)).eq (show _ = Value.pointer (some ⟨g1, 0 + N'.length * 2, none⟩) by simp)) ?_)
        first | refine sk ?_ | (refine rr (rd_fa (off' := 0 + N'.length * 2 + 1) rfl fld105_1 rfl) ?_)
        first | refine sk ?_ | (refine rr (rd_ld rfl row67 (cellQ (L := N' ++ [y]) (i := N'.length) (j := 1) ndC_len (x := y) (u := y.v) (by simp) (by decide) rfl)) ?_)
        first | refine sk ?_ | (refine rr (rd_len Try.underlying67 rfl) ?_)
        first | refine sk ?_ | (refine rr (rd_ge rfl rfl) ?_)
        refine rr (rd_pick rfl rfl) ?_
        refine run_nil ?_
        refine St.kp [(1, _), (5, _), (6, _), (8, _), (9, _), (11, _), (12, _), (13, _), (25, _), (26, _), (27, _), (28, _), (29, _), (30, _), (31, _), (32, _), (33, _), (34, _)] ?_
        refine St.then_n ?_
        first
          | (have hm := (show 252 < s + z from hA)
             exact St.sb (St.kq [(1, _), (5, _), (6, _), (8, _), (9, _), (11, _), (12, _), (13, _), (34, _)] (h := hK true (.inl ⟨rfl, .inl hA⟩))))
          | (refine St.sb (St.kq [(1, _), (5, _), (6, _), (8, _), (9, _), (11, _), (12, _), (13, _), (34, _)] (h := hK (decide ((64 : Int) ≤ y.l.length)) ?_))
             by_cases h64 : 64 ≤ y.l.length
             · exact .inl ⟨decide_eq_true (by omega), .inr ⟨N', y, rfl, h64⟩⟩
             · exact .inr ⟨decide_eq_false (by omega), N', y, rfl, hA, h64⟩)
    rintro q hq
    refine do_cut (fun e : List Nm × Nm × Nat × (Option Addr × Nat) => (∀ A cp, PkR (pkStep (szM leaf) (pkS (szM leaf) (l.take i)) ⟨xk, xA, xc, xb, xd⟩) (e.1 ++ [⟨leaf, A, cp, e.2.1.l ++ [⟨xk, xA, xc, xb, xd⟩]⟩]) (e.2.2.1 + z)) ∧ (∀ w ∈ e.1, w.leaf = leaf) ∧ e.2.1.leaf = leaf ∧ e.1.length ≤ i ∧ e.2.2.1 + z ≤ 253 ∧ e.2.1.l.length ≤ 64)
      (fun e => [(1, .bool leaf), (5, .slice e.2.2.2.1 (e.1.length + 1) e.2.2.2.2), (6, .int .i64 e.2.2.1), (8, .pointer (some ⟨b8, 0, none⟩)), (9, .int .i64 z), (11, .slice (some ⟨g, of, none⟩) n c), (12, .int .i64 n), (13, .int .i64 i)])
      (fun e => [pts b8 69 [.string (strOf xk), .slice xA xb.length xc, .int .i64 xd], ownN (.slice e.2.2.2.1 (e.1.length + 1) e.2.2.2.2) (e.1.length + 1) (e.1 ++ [e.2.1]), sepA ndO e.1, ndO e.2.1, F]) (fun K hK => ?_) ?_
    · first | refine do_condp rfl (fun h34 => ?_) (fun h34 => ?_) | refine do_cond rfl (fun h34 => ?_) (fun h34 => ?_)
      · have hq2 : 252 < s + z ∨ ∃ N' y, N = N' ++ [y] ∧ 64 ≤ y.l.length := by
          rcases hq with ⟨_, hq⟩ | ⟨hq, _⟩
          · exact hq
          · rw [h34] at hq; cases hq
        refine sr ?_
        refine rr (rd_move rfl) ?_
        refine rr (rd_move rfl) ?_
        refine rr (rd_bd [_, _] zero105 plc105) ?_
        refine r_bs1 (f := ndC) ⟨leaf, none, 0, []⟩ (ndC_len _) Try.underlying74 ei105 (by decide) (fun b38 => ?_)
        refine r_apQ (f := ndC) (L := N) (M := [⟨leaf, none, 0, []⟩]) (n := N.length) ndC_len ndC_one Try.underlying74 ei105 (X := ownQ ndC 105 2 (.slice (some ⟨b38, 0, none⟩) 1 1) 1 [⟨leaf, none, 0, []⟩]) vw_Q rfl (by omega) (by omega) (by omega) (fun v5 _ => ?_)
        refine St.vw vw_Q .head (fun A5 c5 hv5 _ _ _ => ?_)
        subst hv5
        refine St.nilQ (f := imC) (T := 69) (k := 3) (St.ent (Q := ndO ⟨leaf, none, 0, []⟩) (fun _ h => h) ?_)
        refine rr (rd_assign rfl) ?_
        refine run_nil ?_
        refine St.kp [(1, _), (5, _), (8, _), (9, _), (11, _), (12, _), (13, _)] ?_
        refine St.then_n ?_
        refine do_region ?_
        refine rr (rd_assign rfl) ?_
        refine nx ?_
        first
          | (have hm := hq2
             refine St.sb (St.kq [(1, _), (5, _), (6, _), (8, _), (9, _), (11, _), (12, _), (13, _)] (h := hK (N, ⟨leaf, none, 0, []⟩, 2, (A5, c5)) ⟨fun A cp => ?_, hlf, rfl, by omega, by dsimp only; omega, Nat.zero_le _⟩))
             have := PkR.new (leaf := leaf) (x := ⟨xk, xA, xc, xb, xd⟩) hR (by rw [hz]; exact hq2) A cp
             rwa [hz] at this)
          | (refine St.sb (St.kq [(1, _), (5, _), (6, _), (8, _), (9, _), (11, _), (12, _), (13, _)] (h := hK (N', y, s, (A1, c1)) ⟨fun A cp => ?_, fun w hw => hlf w (List.mem_append_left _ hw), hlf y (List.mem_append_right _ List.mem_cons_self), by rw [hNl] at hNi; dsimp only; omega, by dsimp only; omega, by dsimp only; omega⟩))
             have := PkR.more (leaf := leaf) (x := ⟨xk, xA, xc, xb, xd⟩) hR (by rw [hz]; exact hq3) hq4 A cp
             rwa [hz] at this)
      · obtain ⟨N', y, rfl, hq3, hq4⟩ : ∃ N' y, N = N' ++ [y] ∧ ¬ 252 < s + z ∧ ¬ 64 ≤ y.l.length := by
          rcases hq with ⟨hq, _⟩ | ⟨_, hq⟩
          · rw [h34] at hq; cases hq
          · exact hq
        have hNl : (N' ++ [y]).length = N'.length + 1 := by simp
        rw [hNl]
        refine St.sl (P := sepA ndO (N' ++ [y])) (St.sepA_last ?_)
        refine do_skip ?_
        refine St.then_n ?_
        first
          | (have hm := hq2
             refine St.sb (St.kq [(1, _), (5, _), (6, _), (8, _), (9, _), (11, _), (12, _), (13, _)] (h := hK (N, ⟨leaf, none, 0, []⟩, 2, (A5, c5)) ⟨fun A cp => ?_, hlf, rfl, by omega, by dsimp only; omega, Nat.zero_le _⟩))
             have := PkR.new (leaf := leaf) (x := ⟨xk, xA, xc, xb, xd⟩) hR (by rw [hz]; exact hq2) A cp
             rwa [hz] at this)
          | (refine St.sb (St.kq [(1, _), (5, _), (6, _), (8, _), (9, _), (11, _), (12, _), (13, _)] (h := hK (N', y, s, (A1, c1)) ⟨fun A cp => ?_, fun w hw => hlf w (List.mem_append_left _ hw), hlf y (List.mem_append_right _ List.mem_cons_self), by rw [hNl] at hNi; dsimp only; omega, by dsimp only; omega, by dsimp only; omega⟩))
             have := PkR.more (leaf := leaf) (x := ⟨xk, xA, xc, xb, xd⟩) hR (by rw [hz]; exact hq3) hq4 A cp
             rwa [hz] at this)
    rintro ⟨N', y, s', ⟨A2, c2⟩⟩ ⟨hR', hlf', hyl, hNl', hs', hy64⟩
    dsimp only at hR' hlf' hyl hNl' hs' hy64 ⊢
    refine St.sl (P := ownN (.slice A2 (N'.length + 1) c2) (N'.length + 1) (N' ++ [y])) (St.Q_some (Nat.succ_pos _) (fun g1 c3 hg _ _ => ?_))
    simp only [Value.slice.injEq] at hg
    obtain ⟨rfl, -, rfl⟩ := hg
    obtain ⟨yl, yA, yc, yL⟩ := y
    dsimp only at hyl hy64 hR' ⊢
    subst hyl
    refine St.sl (P := ndO ⟨yl, yA, yc, yL⟩) (St.ent (Q := ownI (.slice yA yL.length yc) yL.length yL) (fun _ h => h) ?_)
    refine sr ?_
    refine rr (rd_move rfl) ?_
    refine rr (rd_move rfl) ?_
    refine rr (rd_len Try.underlying74 rfl) ?_
    refine rr (rd_subi rfl rfl) ?_
    refine rr ((rd_indexAddr Try.underlying74 ei105 rfl rfl (by omega) (by omega)).eq (show _ = Value.pointer (some ⟨g1, 0 + N'.length * 2, none⟩) by simp)) ?_
    refine rr (rd_assign rfl) ?_
    refine run_nil ?_
    refine St.kp [(1, _), (5, _), (6, _), (8, _), (9, _), (10, _), (11, _), (12, _), (13, _)] ?_
    refine St.then_n ?_
    refine do_seq ?_
    refine do_draw [[8, 9, 10], [2, 3, 4, 7, 8, 9, 10], [3, 4, 7, 8, 9, 10], [4, 7, 8, 9, 10], [7, 8, 9, 10], [6, 7, 8, 9, 10], [7, 8, 9, 10], [8, 9, 10], [9, 10], [10], []] (by kernel_rfl) rfl ?_
    refine ta 0 rfl (rd_move rfl) ?_
    refine ta 1 rfl (rd_move rfl) ?_
    refine ta 2 rfl (rd_nilCheck rfl) ?_
    refine ta 3 rfl (rd_fa (off' := 0 + N'.length * 2 + 1) rfl fld105_1 rfl) ?_
    refine ta 4 rfl (rd_ld rfl row67 (cellQ (L := N' ++ [⟨yl, yA, yc, yL⟩]) (i := N'.length) (j := 1) ndC_len (x := ⟨yl, yA, yc, yL⟩) (u := .slice yA yL.length yc) (by simp) (by decide) rfl)) ?_
    refine ta 5 rfl (rd_ldr [_, _, _] rfl row69) ?_
    refine tr 6 ?_
    refine r_bs1 (f := imC) ⟨xk, xA, xc, xb, xd⟩ (imC_len _) Try.underlying67 ei69 (by decide) (fun b51 => ?_)
    refine nx ?_
    refine any_next (by apply bd 5; apply bk 4 rfl (rd_ld rfl row67 (cellQ (L := N' ++ [⟨yl, yA, yc, yL⟩]) (i := N'.length) (j := 1) ndC_len (x := ⟨yl, yA, yc, yL⟩) (u := .slice yA yL.length yc) (by simp) (by decide) rfl)); apply bk 3 rfl (rd_fa (off' := 0 + N'.length * 2 + 1) rfl fld105_1 rfl); apply bk 2 rfl (rd_nilCheck rfl); apply bk 1 rfl (rd_move rfl); apply bk 0 rfl (rd_move rfl); exact .nil) ?_
    refine tr 7 ?_
    refine r_apQ (f := imC) (L := yL) (M := [⟨xk, xA, xc, xb, xd⟩]) (n := yL.length) imC_len imC_one Try.underlying67 ei69 (X := ownQ imC 69 3 (.slice (some ⟨b51, 0, none⟩) 1 1) 1 [⟨xk, xA, xc, xb, xd⟩]) vw_Q rfl (by omega) (by omega) (by omega) (fun v6 _ => ?_)
    refine St.vw vw_Q .head (fun A6 c6 hv6 _ _ _ => ?_)
    subst hv6
    refine nx ?_
    refine any_next (by apply bd 4; apply bd 3; apply bd 2; apply bd 1; apply bk 0 rfl (rd_move rfl); exact .nil) ?_
    refine ta 8 rfl (rd_nilCheck rfl) ?_
    refine ta 9 rfl (rd_fa (off' := 0 + N'.length * 2 + 1) rfl fld105_1 rfl) ?_
    refine tr 10 ?_
    refine r_stQ1 (L := N' ++ [⟨yl, yA, yc, yL⟩]) (u := .slice A6 (yL.length + 1) c6) (n := N'.length + 1) ndC_len (z := ⟨yl, yA, yc, yL⟩) (z' := ⟨yl, A6, c6, yL ++ [⟨xk, xA, xc, xb, xd⟩]⟩) N'.length 1 (by simp) (by decide) (by simp [ndC]) row67 rfl ?_
    rw [show (N' ++ [(⟨yl, yA, yc, yL⟩ : Nm)]).set N'.length ⟨yl, A6, c6, yL ++ [⟨xk, xA, xc, xb, xd⟩]⟩ = N' ++ [⟨yl, A6, c6, yL ++ [⟨xk, xA, xc, xb, xd⟩]⟩] by simp]
    refine nx ?_
    refine any_next (by apply bd 9; apply bd 8; apply bd 0; exact .nil) ?_
    refine any_nil (by kernel_rfl) ?_
    refine St.kp [(1, _), (5, _), (6, _), (9, _), (11, _), (12, _), (13, _)] ?_
    refine St.then_n ?_
    refine do_region ?_
    refine rr (rd_move rfl) ?_
    refine rr (rd_move rfl) ?_
    refine rr (rd_addi rfl rfl) ?_
    refine rr (rd_assign rfl) ?_
    refine run_nil ?_
    refine St.kp [(1, _), (5, _), (6, _), (11, _), (12, _), (13, _)] ?_
    refine St.blk_n ?_
    refine St.then_n ?_
    refine do_region ?_
    refine rr (rd_addi rfl rfl) ?_
    refine rr (rd_move rfl) ?_
    refine nx ?_
    have hfin := hR' A6 c6
    rw [← pkS_snoc, ← htk] at hfin
    obtain ⟨y', hy'⟩ : ∃ y' : Nm, y' = ⟨yl, A6, c6, yL ++ [⟨xk, xA, xc, xb, xd⟩]⟩ := ⟨_, rfl⟩
    have hNl2 : N'.length + 1 = (N' ++ [y']).length := by simp
    refine St.sl (P := ownI (.slice A6 (yL.length + 1) c6) (yL.length + 1) (yL ++ [⟨xk, xA, xc, xb, xd⟩])) (St.ent (Q := ndO y') (fun h0 hp => by rw [hy']; show ownI (.slice A6 (yL ++ [_]).length c6) (yL ++ [_]).length _ h0; rw [List.length_append]; exact hp) ?_)
    rw [← hy'] at hfin ⊢
    refine St.sepA_snoc (f := ndO) (L := N') (y := y') ?_
    rw [hNl2]
    exact loop_bk (i + 1, N' ++ [y'], s' + z, (some ⟨g1, 0, none⟩, c2)) ⟨by dsimp only; omega, hfin, fun w hw => (by rcases List.mem_append.1 hw with hw | hw; exact hlf' w hw; rw [List.mem_singleton.1 hw, hy']), by dsimp only; omega, by dsimp only; omega⟩ (hμ := by dsimp only; omega)
  · refine do_exit ?_
    refine St.then_x ?_
    refine St.then_x ?_
    refine St.blk_s ?_
    refine St.then_n ?_
    refine sr ?_
    refine rr (rd_move rfl) ?_
    refine rr (rd_assign rfl) ?_
    refine run_nil ?_
    refine St.kp [(4, _)] ?_
    refine St.then_n ?_
    refine do_ret ?_
    refine do_ret1 Try.results27 (res_tmp rfl) ?_
    intro w hw
    obtain rfl : i = n := by omega
    refine ⟨((A1, c1), N), ⟨?_, hlf⟩, rfl, hw.sb⟩
    have := pkR_parts hR
    rwa [← hn, List.take_length] at this
end Go.Proofs.Ytgeldfgcicjidaa
