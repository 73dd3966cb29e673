/-
  The reference's auditor: New, know, kind, Left, Asks.
-/
import Derived.Test.YtglcmlicfmmlpaaA16
namespace Go.Proofs.Ytglcmlicfmmlpaa
open Go.RowKit
set_option linter.unusedSimpArgs false
set_option linter.unusedVariables false

section
variable {P : Program} {ω : Amb} {m : Nat} {ds : List Deferred} {Γ Γ' Γ1 : List HP} {β : List (Nat × Value)} {r : Option Nat} {ops : Array Oper} {Q : Exit → Act → World → Prop} {rest : List Oper} {K : Act → World → Prop}
variable {ty : TypeId} {pos : String} {af : Array Edge} {gd : Option (Nat × Bool)} {x y : Operand} {k : Nat} {t e : TypeId}
/-- A slice that is made, by elements. -/
theorem r_mkQ {α : Type} {f : α → List Value} {d : Nat} {z : Value} {by_ : Nat} {i : Int} (x0 : α) (hf : ∀ x, (f x).length = k) (ht : P.underlying t = some (.slice e)) (hE : EI P e z k by_) (n : Nat) (hi : i = n) (h0 : n ≤ 4611686018427387904) (h2 : by_ * n ≤ 281474976710656) (hz : z.cells.toList = f x0)
    (kk : ∀ g, St ω m ds (ownQ f e k (.slice (some ⟨g, 0, none⟩) n n) n (List.replicate n x0) :: Γ) ((d, .slice (some ⟨g, 0, none⟩) n n) :: β) (Run P r ops Q rest)) (hx : ev β x = some (.int .i64 i) := by exact rfl) (hy : ev β y = some (.int .i64 i) := by exact rfl) (hw : wants ops β gd = some true := by exact rfl) (hd : d < m := by decide) :
    St ω m ds Γ β (Run P r ops Q (⟨some d, .makeSlice t x y, ty, pos, af, gd⟩ :: rest)) := by
  refine r_mk ht hE n hi h0 h2 (fun g => ?_) hx hy hw hd
  rw [hz, show (List.replicate n (f x0)).flatten = (List.replicate n x0).flatMap f by rw [List.flatMap_replicate]]
  have hl : ((List.replicate n x0).flatMap f).length = n * k := by rw [flat_len hf, List.length_replicate]
  exact St.ent (fun h hp => ⟨List.length_replicate, pts_own' (k := k) (n := n) (c := n) (tail := []) (Nat.le_refl _) (by simp only [maxLen]; omega) (by rw [List.append_nil]; exact hl) hl h (by rw [List.append_nil]; exact hp)⟩) (kk g)
end
theorem ownQ_eq {α γ : Type} {f : α → List Value} {f' : γ → List Value} {T k n : Nat} {v : Value} {L : List α} {L' : List γ} (h1 : L.length = L'.length) (h2 : L.flatMap f = L'.flatMap f') : ownQ f T k v n L = ownQ f' T k v n L' := by
  unfold ownQ
  rw [h1, h2]
abbrev isC (x : One) : List Value := [.bool x.is_]
theorem isC_len (x : One) : (isC x).length = 1 := rfl
theorem isC_one (x : One) : (isC x).all (·.oneCell') = true := rfl
theorem isC_reset : ∀ L : List One, (L.map reset).flatMap isC = (List.replicate L.length one0).flatMap isC
  | [] => rfl
  | x :: L => by
    rw [List.map_cons, List.flatMap_cons, isC_reset L, List.length_cons, List.replicate_succ, List.flatMap_cons]; rfl
theorem slC_reset (L : List One) : (L.map reset).flatMap slC = L.flatMap slC := by rw [List.flatMap_map]; rfl
/-- The reference's auditor where it lies. -/
abbrev raG (r g1 g2 N : Nat) (s : AuS) : List HP := [pts r 164 [.int .i64 s.n, .int .i64 s.phase, .slice (some ⟨g1, 0, none⟩) N N, .bool s.all, .slice (some ⟨g2, 0, none⟩) N N], ownQ isC 4 1 (.slice (some ⟨g1, 0, none⟩) N N) N s.L, ownQ slC 31 1 (.slice (some ⟨g2, 0, none⟩) N N) N s.L, rowsAll s.L]
def raO (r : Nat) (s : AuS) : HP := fun h => ∃ g1 g2 N, Sep (raG r g1 g2 N s) h
section
variable {ω : Amb} {m : Nat} {ds : List Deferred} {Γ Γ1 : List HP} {β : List (Nat × Value)} {K : Act → World → Prop} {r : Nat} {s : AuS}
theorem St.ra_open (h : ∀ g1 g2 N, N = s.L.length → St ω m ds (raG r g1 g2 N s ++ Γ) β K) : St ω m ds (raO r s :: Γ) β K := by
  unfold raO
  refine St.ex fun g1 => St.ex fun g2 => St.ex fun N => St.flat ?_
  refine St.sel (P := ownQ isC 4 1 (.slice (some ⟨g1, 0, none⟩) N N) N s.L) (.tail .head) (St.Q_sl fun A c hv h1 h2 h3 => ?_)
  exact St.perm (.swap ..) (h g1 g2 N h3.symm)
theorem Holds.ra_shut {w : World} (s : AuS) (g1 g2 N : Nat) (h : Holds ω Γ w) (p : Pick (raG r g1 g2 N s) Γ Γ1 := by repeat (first | exact Pick.nil | apply Pick.cons (by repeat (first | with_reducible exact Sel.head | apply Sel.tail)))) : Holds ω (raO r s :: Γ1) w :=
  Holds.ent (fun _ h => ⟨g1, g2, N, h⟩) (Holds.flat.2 (Holds.unpick (h.pick p)))
theorem St.ra_shut (s : AuS) (g1 g2 N : Nat) (h : St ω m ds (raO r s :: Γ1) β K) (p : Pick (raG r g1 g2 N s) Γ Γ1 := by repeat (first | exact Pick.nil | apply Pick.cons (by repeat (first | with_reducible exact Sel.head | apply Sel.tail)))) : St ω m ds Γ β K := fun a w b c =>
  h a w (Holds.ra_shut s g1 g2 N b p) c
end
theorem refKind_spec (F : HP) (ph : Int) : Spec Try.prog 99 [.int .i64 ph] [] F (fun _ : Unit => True) (fun _ => .int .i64 (kindP ph)) (fun _ => []) := by
  intro ω w hh
  refine enter Try.func99 rfl Try.ntmps99 rfl hh ?_
  simp only [List.nil_append, argsB]
  refine sr ?_
  refine rr (rd_assign rfl) ?_
  refine nx ?_
  refine do_seq ?_
  refine sr ?_
  refine rr (rd_move rfl) ?_
  refine nx ?_
  refine do_block ?_
  refine sr ?_
  refine rr (rd_eq rfl rfl) ?_
  refine rr (rd_assign rfl) ?_
  refine nx ?_
  first | refine do_condp rfl (fun h4 => ?_) (fun h4 => ?_) | refine do_cond rfl (fun h4 => ?_) (fun h4 => ?_)
  · refine sr ?_
    refine rr (rd_assign rfl) ?_
    refine run_nil ?_
    refine St.kp [(2, _)] ?_
    refine St.then_n ?_
    refine do_ret ?_
    refine St.blk_r ?_
    refine St.then_r ?_
    refine do_ret1 Try.results99 (res_tmp rfl) ?_
    intro w hw
    exact ⟨(), trivial, by unfold kindP; rw [if_pos (by omega)], hw⟩
  · refine sr ?_
    refine rr (rd_eq rfl rfl) ?_
    refine rr (rd_assign rfl) ?_
    refine run_nil ?_
    refine St.kp [(6, _)] ?_
    refine St.then_n ?_
    first | refine do_condp rfl (fun h6 => ?_) (fun h6 => ?_) | refine do_cond rfl (fun h6 => ?_) (fun h6 => ?_)
    · refine sr ?_
      refine rr (rd_assign rfl) ?_
      refine nx ?_
      refine do_ret ?_
      refine St.blk_r ?_
      refine St.then_r ?_
      refine do_ret1 Try.results99 (res_tmp rfl) ?_
      intro w hw
      exact ⟨(), trivial, by unfold kindP; rw [if_neg (by omega), if_pos (by omega)], hw⟩
    · refine do_skip ?_
      refine St.blk_n ?_
      refine St.then_n ?_
      refine sr ?_
      refine rr (rd_assign rfl) ?_
      refine nx ?_
      refine do_ret ?_
      refine do_ret1 Try.results99 (res_tmp rfl) ?_
      intro w hw
      exact ⟨(), trivial, by unfold kindP; rw [if_neg (by omega), if_neg (by omega)], hw⟩
theorem refNew_spec (F : HP) (k : Int) : Spec Try.prog 51 [.int .i64 k] [] F (fun _ : Nat => True) (fun r => .pointer (some ⟨r, 0, none⟩)) (fun r => [raO r ⟨0, 0, false, List.replicate (if k < 1 ∨ 3 < k then 1 else k.toNat) one0⟩]) := by
  intro ω w hh
  refine enter Try.func51 rfl Try.ntmps51 rfl hh ?_
  simp only [List.nil_append, argsB]
  obtain ⟨m, hm⟩ : ∃ m, (if k < 1 ∨ 3 < k then 1 else k.toNat) = m := ⟨_, rfl⟩
  rw [hm]
  have hm3 : m ≤ 3 := by rw [← hm]; split <;> omega
  refine sr ?_
  refine rr (rd_assign rfl) ?_
  refine nx ?_
  refine do_seq ?_
  refine do_seq ?_
  refine do_cut (fun z : Bool => z = decide (k < 1 ∨ 3 < k)) (fun z => [(0, .int .i64 k), (8, .bool z)]) (fun _ => [F]) (fun K hK => ?_) ?_
  · by_cases hA : k < 1
    · refine do_region ?_
      refine rr (rd_move rfl) ?_
      first | refine rr ((rd_lt rfl rfl).eq (congrArg Value.bool (decide_eq_true (by omega)))) ?_ | refine rr ((rd_lt rfl rfl).eq (congrArg Value.bool (decide_eq_false (by omega)))) ?_
      refine rr (rd_move rfl) ?_
      first | refine sk ?_ | (refine rr (rd_move rfl) ?_)
      first | refine sk ?_ | (refine rr (rd_gt rfl rfl) ?_)
      refine rr (rd_pick rfl rfl) ?_
      refine run_nil ?_
      refine St.kp [(0, _), (8, _)] ?_
      refine St.then_n ?_
      exact St.kq [(0, _), (8, _)] (h := hK _ (by first | exact (decide_eq_true (by omega)).symm | exact decide_eq_decide.2 (by omega)))
    · refine do_region ?_
      refine rr (rd_move rfl) ?_
      first | refine rr ((rd_lt rfl rfl).eq (congrArg Value.bool (decide_eq_true (by omega)))) ?_ | refine rr ((rd_lt rfl rfl).eq (congrArg Value.bool (decide_eq_false (by omega)))) ?_
      refine rr (rd_move rfl) ?_
      first | refine sk ?_ | (refine rr (rd_move rfl) ?_)
      first | refine sk ?_ | (refine rr (rd_gt rfl rfl) ?_)
      refine rr (rd_pick rfl rfl) ?_
      refine run_nil ?_
      refine St.kp [(0, _), (8, _)] ?_
      refine St.then_n ?_
      exact St.kq [(0, _), (8, _)] (h := hK _ (by first | exact (decide_eq_true (by omega)).symm | exact decide_eq_decide.2 (by omega)))
  rintro z hz
  refine do_cut (fun i : Int => i = m) (fun i => [(0, .int .i64 i)]) (fun _ => [F]) (fun K hK => ?_) ?_
  · first | refine do_condp rfl (fun h8 => ?_) (fun h8 => ?_) | refine do_cond rfl (fun h8 => ?_) (fun h8 => ?_)
    · have h1 := of_decide_eq_true (hz.symm.trans h8)
      rw [if_pos h1] at hm
      refine do_region ?_
      refine rr (rd_assign rfl) ?_
      refine nx ?_
      first
        | exact St.kp [(0, _)] (hK 1 (by omega))
        | exact St.kp [(0, _)] (hK k (by omega))
    · have h1 := of_decide_eq_false (hz.symm.trans h8)
      rw [if_neg h1] at hm
      refine do_skip ?_
      refine St.then_n ?_
      first
        | exact St.kp [(0, _)] (hK 1 (by omega))
        | exact St.kp [(0, _)] (hK k (by omega))
  rintro i hi
  refine do_seq ?_
  refine do_cut (fun _ : Nat => True) (fun r => [(2, .pointer (some ⟨r, 0, none⟩))]) (fun r => [raO r ⟨0, 0, false, List.replicate m one0⟩, F]) (fun K hK => ?_) ?_
  · skip
    · refine do_draw [[1, 4, 5, 6], [4, 5, 6], [3, 4, 5, 6], [4, 5, 6], [5, 6], [6], []] (by kernel_rfl) rfl ?_
      refine ta 0 rfl (rd_move rfl) ?_
      refine ta 2 rfl (rd_move rfl) ?_
      refine any_run2 (i := 1) (j := 3) (by kernel_rfl) rfl rfl ?_ ?_
      · refine r_mkQ one0 isC_len Try.underlying88 ei4 m hi (by omega) (by omega) rfl (fun g1 => ?_)
        refine nx ?_
        refine any_next (by apply bk 2 rfl (rd_move rfl); apply bd 0; exact .nil) ?_
        refine tr 3 ?_
        refine r_mkQ one0 slC_len Try.underlying127 ei31 m hi (by omega) (by omega) rfl (fun g2 => ?_)
        refine nx ?_
        refine any_next (by apply bd 2; exact .nil) ?_
        refine ta 4 rfl (rd_bd [_, _, _, _, _] zero164 plc164) ?_
        refine tr 5 ?_
        refine r_bx fun b14 => ?_
        refine nx ?_
        refine any_next (by apply bd 4; exact .nil) ?_
        refine ta 6 rfl (rd_assign rfl) ?_
        refine any_nil (by kernel_rfl) ?_
        refine St.then_n ?_
        exact fun a w hw hb => hK b14 trivial a w ((Holds.ra_shut ⟨0, 0, false, List.replicate m one0⟩ g1 g2 m (rowsAll_zero m hw)).sb) (hb.sub ⟨rfl, trivial⟩)
      rotate_left
      refine r_mkQ one0 slC_len Try.underlying127 ei31 m hi (by omega) (by omega) rfl (fun g2 => ?_)
      refine nx ?_
      refine any_next (by apply bd 2; apply bk 0 rfl (rd_move rfl); exact .nil) ?_
      refine tr 1 ?_
      refine r_mkQ one0 isC_len Try.underlying88 ei4 m hi (by omega) (by omega) rfl (fun g1 => ?_)
      refine nx ?_
      refine any_next (by apply bd 0; exact .nil) ?_
      refine ta 4 rfl (rd_bd [_, _, _, _, _] zero164 plc164) ?_
      refine tr 5 ?_
      refine r_bx fun b14 => ?_
      refine nx ?_
      refine any_next (by apply bd 4; exact .nil) ?_
      refine ta 6 rfl (rd_assign rfl) ?_
      refine any_nil (by kernel_rfl) ?_
      refine St.then_n ?_
      exact fun a w hw hb => hK b14 trivial a w ((Holds.ra_shut ⟨0, 0, false, List.replicate m one0⟩ g1 g2 m (rowsAll_zero m hw)).sb) (hb.sub ⟨rfl, trivial⟩)
  rintro r -
  refine do_ret ?_
  refine do_ret1 Try.results51 (res_tmp rfl) ?_
  intro w hw
  exact ⟨r, trivial, rfl, hw⟩
theorem refKnow_spec (F : HP) (r : Nat) (s : AuS) (n ph : Int) (hs : s.L.length ≤ 3) : Spec Try.prog 98 [.pointer (some ⟨r, 0, none⟩), .int .i64 n, .int .i64 ph] [raO r s] F (fun _ : Unit => True) (fun _ => .tuple #[]) (fun _ => [raO r (knowS s n ph)]) := by
  intro ω w hh
  refine enter Try.func98 rfl Try.ntmps98 rfl hh ?_
  simp only [List.cons_append, List.nil_append, argsB]
  refine St.ra_open fun g1 g2 N hN => ?_
  obtain ⟨sn, sp, sa, L⟩ := s
  dsimp only at hN hs
  simp only [raG, List.cons_append, List.nil_append]
  by_cases h1 : sn = n
  · by_cases h2 : sp = ph
    · rw [show knowS ⟨sn, sp, sa, L⟩ n ph = ⟨n, ph, sa, L⟩ by unfold knowS; rw [if_neg (by simpa using h1), if_neg (by simpa using h2), h1, h2]]
      refine do_seq ?_
      refine sr ?_
      refine rr (rd_move rfl) ?_
      refine rr (rd_nilCheck rfl) ?_
      refine rr (rd_fa rfl fld164_0) ?_
      refine rr (rd_ld rfl row2) ?_
      refine rr (rd_move rfl) ?_
      refine rr (rd_ne rfl rfl) ?_
      refine run_nil ?_
      refine St.kp [(0, _), (1, _), (2, _), (11, _)] ?_
      refine St.then_n ?_
      refine do_condp rfl (fun h11 => absurd h11 (by omega)) (fun h11 => ?_)
      refine do_skip ?_
      refine St.then_n ?_
      refine do_seq ?_
      refine sr ?_
      refine rr (rd_move rfl) ?_
      refine rr (rd_nilCheck rfl) ?_
      refine rr (rd_fa rfl fld164_0) ?_
      refine rr (rd_ld rfl row2) ?_
      refine rr (rd_move rfl) ?_
      refine rr ((rd_ne rfl rfl).eq (congrArg Value.bool (decide_eq_false (by omega)))) ?_
      refine rr (rd_move rfl) ?_
      first | refine sk ?_ | (refine rr (rd_move rfl) ?_)
      first | refine sk ?_ | (refine rr (rd_nilCheck rfl) ?_)
      first | refine sk ?_ | (refine rr (rd_fa rfl fld164_1) ?_)
      first | refine sk ?_ | (refine rr (rd_ld rfl row3) ?_)
      first | refine sk ?_ | (refine rr (rd_move rfl) ?_)
      first | refine sk ?_ | (refine rr ((rd_ne rfl rfl).eq (congrArg Value.bool (decide_eq_false (by omega)))) ?_)
      refine rr (rd_pick rfl rfl) ?_
      refine run_nil ?_
      refine St.kp [(0, _), (1, _), (2, _), (37, _)] ?_
      refine St.then_n ?_
      refine do_cond_f rfl ?_
      refine do_skip ?_
      refine St.then_n ?_
      refine sr ?_
      refine rr (rd_move rfl) ?_
      refine rr (rd_move rfl) ?_
      refine rr (rd_nilCheck rfl) ?_
      refine rr (rd_fa rfl fld164_0) ?_
      refine r_st row2 ?_
      refine run_nil ?_
      refine St.kp [(0, _), (2, _)] ?_
      refine St.then_n ?_
      refine do_region ?_
      refine rr (rd_move rfl) ?_
      refine rr (rd_move rfl) ?_
      refine rr (rd_nilCheck rfl) ?_
      refine rr (rd_fa rfl fld164_1) ?_
      refine r_st row3 ?_
      refine run_nil ?_
      refine St.kp [] ?_
      refine do_end0 Try.results98 ?_
      intro w hw
      exact ⟨(), trivial, rfl, (Holds.ra_shut ⟨n, ph, sa, L⟩ g1 g2 N hw).sb⟩
    · rw [show knowS ⟨sn, sp, sa, L⟩ n ph = ⟨n, ph, sa, L.map reset⟩ by unfold knowS; rw [if_neg (by simpa using h1), if_pos (by simpa using h2)]]
      refine do_seq ?_
      refine sr ?_
      refine rr (rd_move rfl) ?_
      refine rr (rd_nilCheck rfl) ?_
      refine rr (rd_fa rfl fld164_0) ?_
      refine rr (rd_ld rfl row2) ?_
      refine rr (rd_move rfl) ?_
      refine rr (rd_ne rfl rfl) ?_
      refine run_nil ?_
      refine St.kp [(0, _), (1, _), (2, _), (11, _)] ?_
      refine St.then_n ?_
      refine do_condp rfl (fun h11 => absurd h11 (by omega)) (fun h11 => ?_)
      refine do_skip ?_
      refine St.then_n ?_
      refine do_seq ?_
      refine sr ?_
      refine rr (rd_move rfl) ?_
      refine rr (rd_nilCheck rfl) ?_
      refine rr (rd_fa rfl fld164_0) ?_
      refine rr (rd_ld rfl row2) ?_
      refine rr (rd_move rfl) ?_
      refine rr ((rd_ne rfl rfl).eq (congrArg Value.bool (decide_eq_false (by omega)))) ?_
      refine rr (rd_move rfl) ?_
      first | refine sk ?_ | (refine rr (rd_move rfl) ?_)
      first | refine sk ?_ | (refine rr (rd_nilCheck rfl) ?_)
      first | refine sk ?_ | (refine rr (rd_fa rfl fld164_1) ?_)
      first | refine sk ?_ | (refine rr (rd_ld rfl row3) ?_)
      first | refine sk ?_ | (refine rr (rd_move rfl) ?_)
      first | refine sk ?_ | (refine rr ((rd_ne rfl rfl).eq (congrArg Value.bool (decide_eq_true (by omega)))) ?_)
      refine rr (rd_pick rfl rfl) ?_
      refine run_nil ?_
      refine St.kp [(0, _), (1, _), (2, _), (37, _)] ?_
      refine St.then_n ?_
      refine do_cond_t rfl ?_
      refine do_region ?_
      refine rr (rd_move rfl) ?_
      refine rr (rd_move rfl) ?_
      refine rr (rd_nilCheck rfl) ?_
      refine rr (rd_fa rfl fld164_2) ?_
      refine rr (rd_ld rfl row88) ?_
      refine rr (rd_len Try.underlying88 rfl) ?_
      refine r_mkQ one0 isC_len Try.underlying88 ei4 N rfl (by omega) (by omega) rfl (fun g3 => ?_)
      refine rr (rd_nilCheck rfl) ?_
      refine rr (rd_fa rfl fld164_2) ?_
      refine r_st row88 ?_
      refine run_nil ?_
      refine St.kp [(0, _), (1, _), (2, _)] ?_
      refine St.then_n ?_
      refine sr ?_
      refine rr (rd_move rfl) ?_
      refine rr (rd_move rfl) ?_
      refine rr (rd_nilCheck rfl) ?_
      refine rr (rd_fa rfl fld164_0) ?_
      refine r_st row2 ?_
      refine run_nil ?_
      refine St.kp [(0, _), (2, _)] ?_
      refine St.then_n ?_
      refine do_region ?_
      refine rr (rd_move rfl) ?_
      refine rr (rd_move rfl) ?_
      refine rr (rd_nilCheck rfl) ?_
      refine rr (rd_fa rfl fld164_1) ?_
      refine r_st row3 ?_
      refine run_nil ?_
      refine St.kp [] ?_
      refine do_end0 Try.results98 ?_
      intro w hw
      rw [ownQ_eq (L' := L.map reset) (f' := isC) (by simp [hN]) (by rw [isC_reset, hN]), ownQ_eq (f := slC) (L := L) (L' := L.map reset) (f' := slC) (by simp) (slC_reset L).symm, ← rowsAll_reset L] at hw
      exact ⟨(), trivial, rfl, (Holds.ra_shut ⟨n, ph, sa, L.map reset⟩ g3 g2 N hw).sb⟩
  · rw [show knowS ⟨sn, sp, sa, L⟩ n ph = ⟨n, ph, false, List.replicate N one0⟩ by unfold knowS; rw [if_pos (by simpa using h1), hN]]
    refine do_seq ?_
    refine sr ?_
    refine rr (rd_move rfl) ?_
    refine rr (rd_nilCheck rfl) ?_
    refine rr (rd_fa rfl fld164_0) ?_
    refine rr (rd_ld rfl row2) ?_
    refine rr (rd_move rfl) ?_
    refine rr (rd_ne rfl rfl) ?_
    refine run_nil ?_
    refine St.kp [(0, _), (1, _), (2, _), (11, _)] ?_
    refine St.then_n ?_
    refine do_condp rfl (fun h11 => ?_) (fun h11 => absurd (by omega) h11)
    refine sr ?_
    refine rr (rd_move rfl) ?_
    refine rr (rd_move rfl) ?_
    refine rr (rd_nilCheck rfl) ?_
    refine rr (rd_fa rfl fld164_4) ?_
    refine rr (rd_ld rfl row127) ?_
    refine rr (rd_len Try.underlying127 rfl) ?_
    refine r_mkQ one0 slC_len Try.underlying127 ei31 N rfl (by omega) (by omega) rfl (fun g4 => ?_)
    refine rr (rd_nilCheck rfl) ?_
    refine rr (rd_fa rfl fld164_4) ?_
    refine r_st row127 ?_
    refine run_nil ?_
    refine St.kp [(0, _), (1, _), (2, _)] ?_
    refine St.then_n ?_
    refine do_region ?_
    refine rr (rd_move rfl) ?_
    refine rr (rd_nilCheck rfl) ?_
    refine rr (rd_fa rfl fld164_3) ?_
    refine r_st row4 ?_
    refine nx ?_
    refine do_seq ?_
    refine sr ?_
    refine rr (rd_move rfl) ?_
    refine rr (rd_nilCheck rfl) ?_
    refine rr (rd_fa rfl fld164_0) ?_
    refine rr (rd_ld rfl row2) ?_
    refine rr (rd_move rfl) ?_
    refine rr ((rd_ne rfl rfl).eq (congrArg Value.bool (decide_eq_true (by omega)))) ?_
    refine rr (rd_move rfl) ?_
    first | refine sk ?_ | (refine rr (rd_move rfl) ?_)
    first | refine sk ?_ | (refine rr (rd_nilCheck rfl) ?_)
    first | refine sk ?_ | (refine rr (rd_fa rfl fld164_1) ?_)
    first | refine sk ?_ | (refine rr (rd_ld rfl row3) ?_)
    first | refine sk ?_ | (refine rr (rd_move rfl) ?_)
    first | refine sk ?_ | (refine rr (rd_ne rfl rfl) ?_)
    refine rr (rd_pick rfl rfl) ?_
    refine run_nil ?_
    refine St.kp [(0, _), (1, _), (2, _), (37, _)] ?_
    refine St.then_n ?_
    refine do_cond_t rfl ?_
    refine do_region ?_
    refine rr (rd_move rfl) ?_
    refine rr (rd_move rfl) ?_
    refine rr (rd_nilCheck rfl) ?_
    refine rr (rd_fa rfl fld164_2) ?_
    refine rr (rd_ld rfl row88) ?_
    refine rr (rd_len Try.underlying88 rfl) ?_
    refine r_mkQ one0 isC_len Try.underlying88 ei4 N rfl (by omega) (by omega) rfl (fun g3 => ?_)
    refine rr (rd_nilCheck rfl) ?_
    refine rr (rd_fa rfl fld164_2) ?_
    refine r_st row88 ?_
    refine run_nil ?_
    refine St.kp [(0, _), (1, _), (2, _)] ?_
    refine St.then_n ?_
    refine sr ?_
    refine rr (rd_move rfl) ?_
    refine rr (rd_move rfl) ?_
    refine rr (rd_nilCheck rfl) ?_
    refine rr (rd_fa rfl fld164_0) ?_
    refine r_st row2 ?_
    refine run_nil ?_
    refine St.kp [(0, _), (2, _)] ?_
    refine St.then_n ?_
    refine do_region ?_
    refine rr (rd_move rfl) ?_
    refine rr (rd_move rfl) ?_
    refine rr (rd_nilCheck rfl) ?_
    refine rr (rd_fa rfl fld164_1) ?_
    refine r_st row3 ?_
    refine run_nil ?_
    refine St.kp [] ?_
    refine do_end0 Try.results98 ?_
    intro w hw
    have h2 := rowsAll_zero N hw
    exact ⟨(), trivial, rfl, (Holds.ra_shut ⟨n, ph, false, List.replicate N one0⟩ g3 g4 N h2).sb⟩
theorem refLeft_spec (F : HP) (r : Nat) (s : AuS) (hs : s.L.length ≤ 3) : Spec Try.prog 62 [.pointer (some ⟨r, 0, none⟩)] [raO r s] F (fun _ : Unit => True) (fun _ => .int .i64 (leftP s.L)) (fun _ => [raO r s]) := by
  intro ω w hh
  refine enter Try.func62 rfl Try.ntmps62 rfl hh ?_
  simp only [List.cons_append, List.nil_append, argsB]
  refine St.ra_open fun g1 g2 N hN => ?_
  obtain ⟨sn, sp, sa, L⟩ := s
  dsimp only at hN hs ⊢
  simp only [raG, List.cons_append, List.nil_append]
  refine sr ?_
  refine rr (rd_assign rfl) ?_
  refine nx ?_
  refine sr ?_
  refine rr (rd_assign rfl) ?_
  refine nx ?_
  refine do_seq ?_
  refine sr ?_
  refine rr (rd_assign rfl) ?_
  refine nx ?_
  refine do_block ?_
  refine do_lp (fun i : Nat => i ≤ N) (fun i => [(0, .pointer (some ⟨r, 0, none⟩)), (3, .int .i64 (leftP (L.take i) : Nat)), (4, .int .i64 i)]) (fun _ => [pts r 164 [.int .i64 sn, .int .i64 sp, .slice (some ⟨g1, 0, none⟩) N N, .bool sa, .slice (some ⟨g2, 0, none⟩) N N], ownQ isC 4 1 (.slice (some ⟨g1, 0, none⟩) N N) N L, ownQ slC 31 1 (.slice (some ⟨g2, 0, none⟩) N N) N L, rowsAll L, F]) (fun i => N - i) 0 (Nat.zero_le _) ?_
  intro i hi
  refine do_seq ?_
  refine sr ?_
  refine rr (rd_move rfl) ?_
  refine rr (rd_move rfl) ?_
  refine rr (rd_nilCheck rfl) ?_
  refine rr (rd_fa rfl fld164_2) ?_
  refine rr (rd_ld rfl row88) ?_
  refine rr (rd_len Try.underlying88 rfl) ?_
  refine rr (rd_lt rfl rfl) ?_
  refine run_nil ?_
  refine St.kp [(0, _), (3, _), (4, _), (11, _)] ?_
  refine St.then_n ?_
  first | refine do_condp rfl (fun h11 => ?_) (fun h11 => ?_) | refine do_cond rfl (fun h11 => ?_) (fun h11 => ?_)
  · have hx := List.getElem?_eq_getElem (l := L) (i := i) (by omega)
    generalize L[i]'_ = x at hx
    have htk : leftP (L.take (i + 1)) = leftP (L.take i) + (if x.is_ then 0 else 1) := by
      rw [take_get hx]; unfold leftP; rw [List.filter_append, List.length_append]
      cases hb : x.is_ <;> simp [hb]
    have hlb : leftP (L.take i) ≤ i := Nat.le_trans (List.length_filter_le _ _) (by rw [List.length_take]; omega)
    refine do_skip ?_
    refine St.then_n ?_
    refine do_seq ?_
    refine do_block ?_
    refine sr ?_
    refine rr (rd_move rfl) ?_
    refine rr (rd_nilCheck rfl) ?_
    refine rr (rd_fa rfl fld164_2) ?_
    refine rr (rd_ld rfl row88) ?_
    refine rr (rd_move rfl) ?_
    refine rr (rd_indexAddr Try.underlying88 ei4 rfl rfl (by omega) (by omega)) ?_
    refine rr (rd_ld rfl row4 (cell_Q L i 0 x isC_len hx (by decide) rfl (by omega))) ?_
    refine rr (rd_not rfl) ?_
    refine run_nil ?_
    refine St.kp [(0, _), (3, _), (4, _), (21, _)] ?_
    refine St.then_n ?_
    first | refine do_condp rfl (fun h21 => ?_) (fun h21 => ?_) | refine do_cond rfl (fun h21 => ?_) (fun h21 => ?_)
    · have hb : x.is_ = false := by simpa using h21
      rw [hb] at htk
      refine do_region ?_
      refine rr (rd_move rfl) ?_
      refine rr (rd_addi rfl rfl) ?_
      refine rr (rd_assign rfl) ?_
      refine run_nil ?_
      refine St.blk_n ?_
      refine St.then_n ?_
      refine do_region ?_
      refine rr (rd_move rfl) ?_
      refine rr (rd_addi rfl rfl) ?_
      refine rr (rd_assign rfl) ?_
      refine run_nil ?_
      refine St.kp [(0, _), (3, _), (4, _)] ?_
      refine St.then_n ?_
      exact loop_bk (i + 1) (by omega) (hβ := ⟨rfl, by simp only [htk]; first | rfl | simp, rfl, trivial⟩) (hμ := by omega)
    · have hb : x.is_ = true := by simpa using h21
      rw [hb] at htk
      refine do_skip ?_
      refine St.blk_n ?_
      refine St.then_n ?_
      refine do_region ?_
      refine rr (rd_move rfl) ?_
      refine rr (rd_addi rfl rfl) ?_
      refine rr (rd_assign rfl) ?_
      refine nx ?_
      exact loop_bk (i + 1) (by omega) (hβ := ⟨rfl, by simp only [htk]; first | rfl | simp, rfl, trivial⟩) (hμ := by omega)
  · refine do_exit ?_
    refine St.then_x ?_
    refine St.then_x ?_
    refine St.blk_s ?_
    refine St.then_n ?_
    refine sr ?_
    refine rr (rd_move rfl) ?_
    refine rr (rd_assign rfl) ?_
    refine run_nil ?_
    refine St.kp [(2, _)] ?_
    refine St.then_n ?_
    refine do_ret ?_
    refine do_ret1 Try.results62 (res_tmp rfl) ?_
    intro w hw
    rw [show L.take i = L from List.take_of_length_le (by omega)]
    exact ⟨(), trivial, rfl, (Holds.ra_shut ⟨sn, sp, sa, L⟩ g1 g2 N hw).sb⟩
end Go.Proofs.Ytglcmlicfmmlpaa
