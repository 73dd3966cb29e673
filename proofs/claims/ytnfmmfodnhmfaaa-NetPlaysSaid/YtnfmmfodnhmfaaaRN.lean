/-
  The reference's net by parts.
-/
import Derived.Test.YtnfmmfodnhmfaaaNB
namespace Go.Proofs.Ytnfmmfodnhmfaaa
open Go.RowKit
set_option linter.unusedSimpArgs false
set_option linter.unusedVariables false

/-- A letter of the reference's: its data lie at v. -/
structure RLet where
  f : Int
  t : Int
  A : Option Addr
  c : Nat
  d : List UInt8
abbrev RLet.v (x : RLet) : Value := .slice x.A x.d.length x.c
abbrev RLet.L (x : RLet) : Letter := ⟨x.f, x.t, x.d⟩
abbrev RLet.C (x : RLet) : List Value := [.int .i64 x.f, .int .i64 x.t, x.v]
def cellsM (M : List RLet) : List Value := M.flatMap RLet.C
/-- Letter k, or none. -/
def rletK (M : List RLet) (k : Int) : RLet := if 0 ≤ k ∧ k < M.length then M.getD k.toNat ⟨0, 0, none, 0, []⟩ else ⟨0, 0, none, 0, []⟩
def rwhyK (M : List RLet) (k : Int) : Int := if 0 ≤ k ∧ k < M.length then 0 else 1
/-- Bytes that lie somewhere, and stay. -/
def poolP (D : List (Value × List UInt8)) : HP := fun h => ∀ x ∈ D, SlP h x.1 1 x.2.length (x.2.map bcell)
theorem vw_pool {D : List (Value × List UInt8)} {v : Value} {d : List UInt8} (h : (v, d) ∈ D) : VwB (poolP D) v d := fun _ hp => hp (v, d) h
/-- The reference's net. -/
def refM (r : Nat) (M : List RLet) (D : List (Value × List UInt8)) : HP := fun h => ∃ A cap, Sep [pts r 46 [.slice A M.length cap], own (.slice A M.length cap) 32 3 M.length (cellsM M), poolP D] h
theorem cellsM_len (M : List RLet) : (cellsM M).length = M.length * 3 := by
  unfold cellsM
  induction M with
  | nil => rfl
  | cons x M ih => rw [List.flatMap_cons, List.length_append, ih, List.length_cons]; simp; omega
theorem cellsM_app (M N : List RLet) : cellsM (M ++ N) = cellsM M ++ cellsM N := by unfold cellsM; rw [List.flatMap_append]
theorem cellsM_drop (M : List RLet) (k : Nat) : (cellsM M).drop (k * 3) = cellsM (M.drop k) := by
  induction k generalizing M with
  | zero => simp
  | succ k ih =>
    cases M with
    | nil => simp [cellsM]
    | cons x M =>
      rw [List.drop_succ_cons, ← ih M, show (k + 1) * 3 = 3 + k * 3 by omega, ← List.drop_drop]
      rfl
theorem cellsM_take (M : List RLet) (k : Nat) : (cellsM M).take (k * 3) = cellsM (M.take k) := by
  induction k generalizing M with
  | zero => simp [cellsM]
  | succ k ih =>
    cases M with
    | nil => simp [cellsM]
    | cons x M =>
      rw [List.take_succ_cons, show (k + 1) * 3 = k * 3 + 1 + 1 + 1 by omega]
      have e : cellsM (x :: M) = Value.int .i64 x.f :: Value.int .i64 x.t :: x.v :: cellsM M := rfl
      have e' : cellsM (x :: M.take k) = Value.int .i64 x.f :: Value.int .i64 x.t :: x.v :: cellsM (M.take k) := rfl
      rw [e, e', List.take_succ_cons, List.take_succ_cons, List.take_succ_cons, ih]
theorem cellsM_at (M : List RLet) (k : Nat) (x : RLet) (h : M[k]? = some x) : ((cellsM M).drop (k * 3)).take 3 = x.C := by
  rw [cellsM_drop]
  have hk := (List.getElem?_eq_some_iff.1 h).1
  rw [List.drop_eq_getElem_cons hk, (List.getElem?_eq_some_iff.1 h).2]
  rfl
section
variable {ω : Amb} {m : Nat} {ds : List Deferred} {Γ Γ' Γ1 Γ2 Δ : List HP} {β β' : List (Nat × Value)} {K : Act → World → Prop} {r : Nat} {M : List RLet} {D : List (Value × List UInt8)}
theorem St.ref_open (h : ∀ A cap, St ω m ds (pts r 46 [.slice A M.length cap] :: own (.slice A M.length cap) 32 3 M.length (cellsM M) :: poolP D :: Γ) β K) : St ω m ds (refM r M D :: Γ) β K := by
  unfold refM
  exact St.ex fun A => St.ex fun cap => St.flat (h A cap)
theorem Holds.ref_close {w : World} {A : Option Addr} {cap : Nat} (h : Holds ω (pts r 46 [.slice A M.length cap] :: own (.slice A M.length cap) 32 3 M.length (cellsM M) :: poolP D :: Γ) w) : Holds ω (refM r M D :: Γ) w :=
  Holds.ent (fun _ h => ⟨A, cap, h⟩) (Holds.flat.2 h)
theorem St.ref_close {A : Option Addr} {cap : Nat} (h : St ω m ds (refM r M D :: Γ) β K) : St ω m ds (pts r 46 [.slice A M.length cap] :: own (.slice A M.length cap) 32 3 M.length (cellsM M) :: poolP D :: Γ) β K := fun a w b c => h a w b.ref_close c
theorem Holds.pool_put {w : World} {v : Value} {d : List UInt8} (h : Holds ω (poolP D :: bytesO v d :: Γ) w) : Holds ω (poolP ((v, d) :: D) :: Γ) w :=
  Holds.ent (fun p ⟨h1, h2, l1, l2, _, hp, h3⟩ x hx => by
    obtain ⟨h4, _, l4, _, _, hb, _⟩ := h3
    rcases List.mem_cons.1 hx with rfl | hx
    · exact (vw_bytes h4 hb).mono (l4.trans l2)
    · exact (hp x hx).mono l1) ((Holds.flat (Γ := [poolP D, bytesO v d]) (Δ := Γ)).2 h)
theorem end_spec (F : HP) (n : Int) : Spec Try.prog 37 [.int .i64 n] [] F (fun _ : Unit => True) (fun _ => .bool (someB n)) (fun _ => []) := by
  intro ω w hh
  refine enter Try.func37 rfl Try.ntmps37 rfl hh ?_
  simp only [List.nil_append, argsB]
  by_cases h : -1 ≤ n
  · have e : decide (-1 ≤ n) = true := by simp [h]
    refine do_seq ?_
    refine do_region ?_
    refine run_read rfl (by decide) (fun _ => nofun) (rd_assign rfl) ?_
    refine run_nil ?_
    refine St.then_n ?_
    refine do_seq ?_
    refine do_region ?_
    refine run_read rfl (by decide) (fun _ => nofun) (rd_move rfl) ?_
    refine run_read rfl (by decide) (fun _ => nofun) ((rd_ge rfl rfl).eq (congrArg Value.bool e)) ?_
    refine run_read rfl (by decide) (fun _ => nofun) (rd_move rfl) ?_
    first | (refine run_skip rfl rfl ?_) | (refine run_read rfl (by decide) (fun _ => nofun) (rd_move rfl) ?_)
    first | (refine run_skip rfl rfl ?_) | (refine run_read rfl (by decide) (fun _ => nofun) (rd_lt rfl rfl) ?_)
    first | refine run_read rfl (by decide) (fun _ => nofun) (rd_pick_t rfl rfl) ?_ | refine run_read rfl (by decide) (fun _ => nofun) (rd_pick_f rfl rfl) ?_
    refine run_read rfl (by decide) (fun _ => nofun) (rd_assign rfl) ?_
    refine run_nil ?_
    refine St.keep (β' := [(2, _)]) ⟨rfl, trivial⟩ ?_
    refine St.then_n ?_
    refine do_ret ?_
    refine do_ret1 Try.results37 (res_tmp rfl) ?_
    intro w hw
    exact ⟨(), trivial, by simp [someB, h], hw⟩
  · have e : decide (-1 ≤ n) = false := by simp [h]
    refine do_seq ?_
    refine do_region ?_
    refine run_read rfl (by decide) (fun _ => nofun) (rd_assign rfl) ?_
    refine run_nil ?_
    refine St.then_n ?_
    refine do_seq ?_
    refine do_region ?_
    refine run_read rfl (by decide) (fun _ => nofun) (rd_move rfl) ?_
    refine run_read rfl (by decide) (fun _ => nofun) ((rd_ge rfl rfl).eq (congrArg Value.bool e)) ?_
    refine run_read rfl (by decide) (fun _ => nofun) (rd_move rfl) ?_
    first | (refine run_skip rfl rfl ?_) | (refine run_read rfl (by decide) (fun _ => nofun) (rd_move rfl) ?_)
    first | (refine run_skip rfl rfl ?_) | (refine run_read rfl (by decide) (fun _ => nofun) (rd_lt rfl rfl) ?_)
    first | refine run_read rfl (by decide) (fun _ => nofun) (rd_pick_t rfl rfl) ?_ | refine run_read rfl (by decide) (fun _ => nofun) (rd_pick_f rfl rfl) ?_
    refine run_read rfl (by decide) (fun _ => nofun) (rd_assign rfl) ?_
    refine run_nil ?_
    refine St.keep (β' := [(2, _)]) ⟨rfl, trivial⟩ ?_
    refine St.then_n ?_
    refine do_ret ?_
    refine do_ret1 Try.results37 (res_tmp rfl) ?_
    intro w hw
    exact ⟨(), trivial, by simp [someB, h], hw⟩
theorem rlook_spec (F : HP) (k : Int) (hM : M.length ≤ 10000) :
    Spec Try.prog 32 [.pointer (some ⟨r, 0, none⟩), .int .i64 k] [refM r M D] F (fun _ : Unit => True)
      (fun _ => .tuple #[.agg (rletK M k).C.toArray, .int .i64 (rwhyK M k)]) (fun _ => [refM r M D]) := by
  intro ω w hh
  refine enter Try.func32 rfl Try.ntmps32 rfl hh ?_
  simp only [List.cons_append, List.nil_append, argsB]
  refine St.ref_open fun A cap => ?_
  by_cases h0 : k < 0
  · rw [show rletK M k = ⟨0, 0, none, 0, []⟩ from if_neg (by omega), show rwhyK M k = 1 from if_neg (by omega)]
    have e : decide (k < 0) = true := by simp [h0]
    refine do_seq ?_
    refine do_region ?_
    refine run_alloc rfl (by decide) zero32 (fun b4 => ?_)
    refine run_read rfl (by decide) (fun _ => nofun) (rd_assign rfl) ?_
    refine run_nil ?_
    refine St.then_n ?_
    refine do_seq ?_
    refine do_seq ?_
    refine do_region ?_
    refine run_read rfl (by decide) (fun _ => nofun) (rd_move rfl) ?_
    refine run_read rfl (by decide) (fun _ => nofun) ((rd_lt rfl rfl).eq (congrArg Value.bool e)) ?_
    refine run_read rfl (by decide) (fun _ => nofun) (rd_move rfl) ?_
    first | (refine run_skip rfl rfl ?_) | (refine run_read rfl (by decide) (fun _ => nofun) (rd_move rfl) ?_)
    first | (refine run_skip rfl rfl ?_) | (refine run_read rfl (by decide) (fun _ => nofun) (rd_move rfl) ?_)
    first | (refine run_skip rfl rfl ?_) | (refine run_read rfl (by decide) (fun _ => nofun) (rd_nilCheck rfl) ?_)
    first | (refine run_skip rfl rfl ?_) | (first | refine run_read rfl (by decide) (fun _ => nofun) (rd_fieldAddr0 rfl fld46_0) ?_ | refine run_read rfl (by decide) (fun _ => nofun) (rd_fieldAddr rfl fld46_0) ?_)
    first | (refine run_skip rfl rfl ?_) | (refine run_read rfl (by decide) (fun _ => nofun) (rd_load rfl row25 (cells_pts1 (by repeat (first | with_reducible exact Sel.head | apply Sel.tail)) rfl)) ?_)
    first | (refine run_skip rfl rfl ?_) | (refine run_read rfl (by decide) (fun _ => nofun) (rd_len Try.underlying25 rfl) ?_)
    first | (refine run_skip rfl rfl ?_) | (refine run_read rfl (by decide) (fun _ => nofun) (rd_ge rfl rfl) ?_)
    first | refine run_read rfl (by decide) (fun _ => nofun) (rd_pick_t rfl rfl) ?_ | refine run_read rfl (by decide) (fun _ => nofun) (rd_pick_f rfl rfl) ?_
    refine run_nil ?_
    refine St.keep (β' := [(0, _), (1, _), (4, _), (16, _)]) ⟨rfl, rfl, rfl, rfl, trivial⟩ ?_
    refine St.then_n ?_
    refine do_cond_t rfl ?_
    refine do_seq ?_
    refine do_region ?_
    refine run_read rfl (by decide) (fun _ => nofun) (rd_build (l := []) (vs := [_, _, _]) zero32 plc32 rfl rfl) ?_
    first | refine run_store_all rfl rfl rfl (by repeat (first | with_reducible exact Sel.head | apply Sel.tail)) row32 rfl rfl rfl ?_ | refine run_store_mid rfl rfl rfl (by repeat (first | with_reducible exact Sel.head | apply Sel.tail)) row32 rfl rfl rfl (by simp only [setL, List.length_cons, List.length_nil, Nat.reduceAdd, List.take_succ_cons, List.take_zero, List.drop_succ_cons, List.drop_zero, List.cons_append, List.nil_append, List.append_nil]; exact rfl) ?_
    refine run_read rfl (by decide) (fun _ => nofun) (rd_assign rfl) ?_
    refine run_nil ?_
    refine St.keep (β' := [(4, _), (5, _)]) ⟨rfl, rfl, trivial⟩ ?_
    refine St.then_n ?_
    refine do_ret ?_
    refine St.then_r ?_
    refine do_ret2 Try.results32 (res_cell_row (vs := [_, _, _]) rfl row32 rfl (cells_pts (by repeat (first | with_reducible exact Sel.head | apply Sel.tail)) rfl)) (res_tmp rfl) ?_
    intro w hw
    exact ⟨(), trivial, rfl, (hw.sub (by repeat (first | exact Pick.nil | apply Pick.cons (by repeat (first | with_reducible exact Sel.head | apply Sel.tail))))).ref_close⟩
  have e : decide (k < 0) = false := by simp; omega
  by_cases h1 : M.length ≤ k
  · rw [show rletK M k = ⟨0, 0, none, 0, []⟩ from if_neg (by omega), show rwhyK M k = 1 from if_neg (by omega)]
    have e1 : decide ((M.length : Int) ≤ k) = true := by simp; omega
    refine do_seq ?_
    refine do_region ?_
    refine run_alloc rfl (by decide) zero32 (fun b4 => ?_)
    refine run_read rfl (by decide) (fun _ => nofun) (rd_assign rfl) ?_
    refine run_nil ?_
    refine St.then_n ?_
    refine do_seq ?_
    refine do_seq ?_
    refine do_region ?_
    refine run_read rfl (by decide) (fun _ => nofun) (rd_move rfl) ?_
    refine run_read rfl (by decide) (fun _ => nofun) ((rd_lt rfl rfl).eq (congrArg Value.bool e)) ?_
    refine run_read rfl (by decide) (fun _ => nofun) (rd_move rfl) ?_
    first | (refine run_skip rfl rfl ?_) | (refine run_read rfl (by decide) (fun _ => nofun) (rd_move rfl) ?_)
    first | (refine run_skip rfl rfl ?_) | (refine run_read rfl (by decide) (fun _ => nofun) (rd_move rfl) ?_)
    first | (refine run_skip rfl rfl ?_) | (refine run_read rfl (by decide) (fun _ => nofun) (rd_nilCheck rfl) ?_)
    first | (refine run_skip rfl rfl ?_) | (first | refine run_read rfl (by decide) (fun _ => nofun) (rd_fieldAddr0 rfl fld46_0) ?_ | refine run_read rfl (by decide) (fun _ => nofun) (rd_fieldAddr rfl fld46_0) ?_)
    first | (refine run_skip rfl rfl ?_) | (refine run_read rfl (by decide) (fun _ => nofun) (rd_load rfl row25 (cells_pts1 (by repeat (first | with_reducible exact Sel.head | apply Sel.tail)) rfl)) ?_)
    first | (refine run_skip rfl rfl ?_) | (refine run_read rfl (by decide) (fun _ => nofun) (rd_len Try.underlying25 rfl) ?_)
    first | (refine run_skip rfl rfl ?_) | (refine run_read rfl (by decide) (fun _ => nofun) ((rd_ge rfl rfl).eq (congrArg Value.bool e1)) ?_)
    first | refine run_read rfl (by decide) (fun _ => nofun) (rd_pick_t rfl rfl) ?_ | refine run_read rfl (by decide) (fun _ => nofun) (rd_pick_f rfl rfl) ?_
    refine run_nil ?_
    refine St.keep (β' := [(0, _), (1, _), (4, _), (16, _)]) ⟨rfl, rfl, rfl, rfl, trivial⟩ ?_
    refine St.then_n ?_
    refine do_cond_t rfl ?_
    refine do_seq ?_
    refine do_region ?_
    refine run_read rfl (by decide) (fun _ => nofun) (rd_build (l := []) (vs := [_, _, _]) zero32 plc32 rfl rfl) ?_
    first | refine run_store_all rfl rfl rfl (by repeat (first | with_reducible exact Sel.head | apply Sel.tail)) row32 rfl rfl rfl ?_ | refine run_store_mid rfl rfl rfl (by repeat (first | with_reducible exact Sel.head | apply Sel.tail)) row32 rfl rfl rfl (by simp only [setL, List.length_cons, List.length_nil, Nat.reduceAdd, List.take_succ_cons, List.take_zero, List.drop_succ_cons, List.drop_zero, List.cons_append, List.nil_append, List.append_nil]; exact rfl) ?_
    refine run_read rfl (by decide) (fun _ => nofun) (rd_assign rfl) ?_
    refine run_nil ?_
    refine St.keep (β' := [(4, _), (5, _)]) ⟨rfl, rfl, trivial⟩ ?_
    refine St.then_n ?_
    refine do_ret ?_
    refine St.then_r ?_
    refine do_ret2 Try.results32 (res_cell_row (vs := [_, _, _]) rfl row32 rfl (cells_pts (by repeat (first | with_reducible exact Sel.head | apply Sel.tail)) rfl)) (res_tmp rfl) ?_
    intro w hw
    exact ⟨(), trivial, rfl, (hw.sub (by repeat (first | exact Pick.nil | apply Pick.cons (by repeat (first | with_reducible exact Sel.head | apply Sel.tail))))).ref_close⟩
  · rw [show rletK M k = _ from if_pos (by omega), show rwhyK M k = 0 from if_pos (by omega)]
    have e1 : decide ((M.length : Int) ≤ k) = false := by simp; omega
    obtain ⟨q, rfl⟩ := Int.eq_ofNat_of_zero_le (show 0 ≤ k by omega)
    have hq : q < M.length := by omega
    have hx : M[q]? = some M[q] := List.getElem?_eq_getElem hq
    rw [show (Int.toNat (q : Int)) = q from rfl, List.getD_eq_getElem?_getD, hx, Option.getD_some]
    generalize M[q] = x at hx
    refine St.sel (.tail .head) (St.own_some (by omega) (fun g c2 hg h3 h4 h5 => ?_))
    cases hg
    have hc := cellsM_at M q x hx
    refine do_seq ?_
    refine do_region ?_
    refine run_alloc rfl (by decide) zero32 (fun b4 => ?_)
    refine run_read rfl (by decide) (fun _ => nofun) (rd_assign rfl) ?_
    refine run_nil ?_
    refine St.then_n ?_
    refine do_seq ?_
    refine do_seq ?_
    refine do_region ?_
    refine run_read rfl (by decide) (fun _ => nofun) (rd_move rfl) ?_
    refine run_read rfl (by decide) (fun _ => nofun) ((rd_lt rfl rfl).eq (congrArg Value.bool e)) ?_
    refine run_read rfl (by decide) (fun _ => nofun) (rd_move rfl) ?_
    first | (refine run_skip rfl rfl ?_) | (refine run_read rfl (by decide) (fun _ => nofun) (rd_move rfl) ?_)
    first | (refine run_skip rfl rfl ?_) | (refine run_read rfl (by decide) (fun _ => nofun) (rd_move rfl) ?_)
    first | (refine run_skip rfl rfl ?_) | (refine run_read rfl (by decide) (fun _ => nofun) (rd_nilCheck rfl) ?_)
    first | (refine run_skip rfl rfl ?_) | (first | refine run_read rfl (by decide) (fun _ => nofun) (rd_fieldAddr0 rfl fld46_0) ?_ | refine run_read rfl (by decide) (fun _ => nofun) (rd_fieldAddr rfl fld46_0) ?_)
    first | (refine run_skip rfl rfl ?_) | (refine run_read rfl (by decide) (fun _ => nofun) (rd_load rfl row25 (cells_pts1 (by repeat (first | with_reducible exact Sel.head | apply Sel.tail)) rfl)) ?_)
    first | (refine run_skip rfl rfl ?_) | (refine run_read rfl (by decide) (fun _ => nofun) (rd_len Try.underlying25 rfl) ?_)
    first | (refine run_skip rfl rfl ?_) | (refine run_read rfl (by decide) (fun _ => nofun) ((rd_ge rfl rfl).eq (congrArg Value.bool e1)) ?_)
    first | refine run_read rfl (by decide) (fun _ => nofun) (rd_pick_t rfl rfl) ?_ | refine run_read rfl (by decide) (fun _ => nofun) (rd_pick_f rfl rfl) ?_
    refine run_nil ?_
    refine St.keep (β' := [(0, _), (1, _), (4, _), (16, _)]) ⟨rfl, rfl, rfl, rfl, trivial⟩ ?_
    refine St.then_n ?_
    refine do_cond_f rfl ?_
    refine do_skip ?_
    refine St.then_n ?_
    refine do_seq ?_
    refine do_region ?_
    refine run_read rfl (by decide) (fun _ => nofun) (rd_move rfl) ?_
    refine run_read rfl (by decide) (fun _ => nofun) (rd_nilCheck rfl) ?_
    first | refine run_read rfl (by decide) (fun _ => nofun) (rd_fieldAddr0 rfl fld46_0) ?_ | refine run_read rfl (by decide) (fun _ => nofun) (rd_fieldAddr rfl fld46_0) ?_
    refine run_read rfl (by decide) (fun _ => nofun) (rd_load rfl row25 (cells_pts1 (by repeat (first | with_reducible exact Sel.head | apply Sel.tail)) rfl)) ?_
    refine run_read rfl (by decide) (fun _ => nofun) (rd_move rfl) ?_
    refine run_read rfl (by decide) (fun _ => nofun) (rd_indexAddr Try.underlying25 ei32 rfl rfl (by omega) (by omega)) ?_
    refine run_read rfl (by decide) (fun _ => nofun) (rd_load_row rfl row32 rfl (Vw.cells (k := 3) (cs := cellsM M) (vs := x.C) vw_own (by repeat (first | with_reducible exact Sel.head | apply Sel.tail)) (by omega) hc)) ?_
    first | refine run_store_all rfl rfl rfl (by repeat (first | with_reducible exact Sel.head | apply Sel.tail)) row32 rfl rfl rfl ?_ | refine run_store_mid rfl rfl rfl (by repeat (first | with_reducible exact Sel.head | apply Sel.tail)) row32 rfl rfl rfl (by simp only [setL, List.length_cons, List.length_nil, Nat.reduceAdd, List.take_succ_cons, List.take_zero, List.drop_succ_cons, List.drop_zero, List.cons_append, List.nil_append, List.append_nil]; exact rfl) ?_
    refine run_read rfl (by decide) (fun _ => nofun) (rd_assign rfl) ?_
    refine run_nil ?_
    refine St.keep (β' := [(4, _), (5, _)]) ⟨rfl, rfl, trivial⟩ ?_
    refine St.then_n ?_
    refine do_ret ?_
    refine do_ret2 Try.results32 (res_cell_row (vs := [_, _, _]) rfl row32 rfl (cells_pts (by repeat (first | with_reducible exact Sel.head | apply Sel.tail)) rfl)) (res_tmp rfl) ?_
    intro w hw
    exact ⟨(), trivial, rfl, (hw.sub (by repeat (first | exact Pick.nil | apply Pick.cons (by repeat (first | with_reducible exact Sel.head | apply Sel.tail))))).ref_close⟩
theorem rlet_one (M : List RLet) : ∀ u ∈ cellsM M, u.oneCell' = true := by
  intro u hu
  unfold cellsM at hu
  rw [List.mem_flatMap] at hu
  obtain ⟨x, _, hx⟩ := hu
  simp at hx
  rcases hx with rfl | rfl | rfl <;> rfl
/-- M, with data in D, is the letters L. -/
structure RInv (M : List RLet) (D : List (Value × List UInt8)) (L : List Letter) : Prop where
  eq : M.map RLet.L = L
  mem : ∀ x ∈ M, (x.v, x.d) ∈ D
  len : ∀ x ∈ M, x.d.length ≤ 1048576
  n : L.length ≤ 10000
theorem RInv.l {L : List Letter} (h : RInv M D L) : M.length = L.length := by rw [← h.eq, List.length_map]
theorem rsend_spec (F : HP) (L : List Letter) (f t : Int) (u : Value) (bs : List UInt8) (hI : RInv M D L) (hF : VwB F u bs) (hl : bs.length ≤ 140737488351232) :
    Spec Try.prog 27 [.pointer (some ⟨r, 0, none⟩), .int .i64 f, .int .i64 t, u] [refM r M D] F (fun x : List RLet × List (Value × List UInt8) => RInv x.1 x.2 (if sendWhy L f t bs = 0 then L ++ [⟨f, t, bs⟩] else L))
      (fun _ => .int .i64 (sendWhy L f t bs)) (fun x => [refM r x.1 x.2]) := by
  intro ω w hh
  refine enter Try.func27 rfl Try.ntmps27 rfl hh ?_
  simp only [List.cons_append, List.nil_append, argsB]
  have hml := hI.l
  have hLn := hI.n
  refine St.vw hF (.tail .head) (fun Au cu hu h1 h2 _ => ?_)
  subst hu
  cases hsf : someB f with
  | false =>
    have hw1 : sendWhy L f t bs = 1 := by simp [sendWhy, hsf]
    rw [hw1, if_neg (by decide)]
    refine St.ref_open fun A cap => ?_
    refine do_seq ?_
    refine do_region ?_
    refine run_read rfl (by decide) (fun _ => nofun) (rd_assign rfl) ?_
    refine run_nil ?_
    refine St.then_n ?_
    refine do_seq ?_
    refine do_block ?_
    refine do_seq ?_
    refine do_region ?_
    refine run_read rfl (by decide) (fun _ => nofun) (rd_move rfl) ?_
    refine run_spec rfl (by decide) (by kernel_rfl) rfl (by repeat (first | exact Pick.nil | apply Pick.cons (by repeat (first | with_reducible exact Sel.head | apply Sel.tail)))) (end_spec _ _) ?_
    rintro ⟨⟩ -
    rw [hsf]
    try simp only [List.cons_append, List.nil_append]
    refine run_read rfl (by decide) (fun _ => nofun) (rd_not rfl) ?_
    refine run_read rfl (by decide) (fun _ => nofun) (rd_move rfl) ?_
    first | (refine run_skip rfl rfl ?_) | (refine run_read rfl (by decide) (fun _ => nofun) (rd_move rfl) ?_)
    first
      | (refine run_skip rfl rfl ?_)
      | (refine run_spec rfl (by decide) (by kernel_rfl) rfl (by repeat (first | exact Pick.nil | apply Pick.cons (by repeat (first | with_reducible exact Sel.head | apply Sel.tail)))) (end_spec _ _) ?_
         rintro ⟨⟩ -
         try simp only [List.cons_append, List.nil_append])
    first | (refine run_skip rfl rfl ?_) | (refine run_read rfl (by decide) (fun _ => nofun) (rd_not rfl) ?_)
    first | refine run_read rfl (by decide) (fun _ => nofun) (rd_pick_t rfl rfl) ?_ | refine run_read rfl (by decide) (fun _ => nofun) (rd_pick_f rfl rfl) ?_
    refine run_read rfl (by decide) (fun _ => nofun) (rd_assign rfl) ?_
    refine run_nil ?_
    refine St.keep (β' := [(0, _), (1, _), (2, _), (3, _), (10, _)]) ⟨rfl, rfl, rfl, rfl, rfl, trivial⟩ ?_
    refine St.then_n ?_
    refine do_cond_t rfl ?_
    refine do_seq ?_
    refine do_region ?_
    refine run_read rfl (by decide) (fun _ => nofun) (rd_assign rfl) ?_
    refine run_nil ?_
    refine St.keep (β' := [(8, _)]) ⟨rfl, trivial⟩ ?_
    refine St.then_n ?_
    refine do_ret ?_
    refine St.blk_r ?_
    refine St.then_r ?_
    refine do_ret1 Try.results27 (res_tmp rfl) ?_
    intro w hw
    exact ⟨(M, D), hI, rfl, (hw.sub (by repeat (first | exact Pick.nil | apply Pick.cons (by repeat (first | with_reducible exact Sel.head | apply Sel.tail))))).ref_close⟩
  | true =>
    cases hst : someB t with
    | false =>
      have hw1 : sendWhy L f t bs = 1 := by simp [sendWhy, hsf, hst]
      rw [hw1, if_neg (by decide)]
      refine St.ref_open fun A cap => ?_
      refine do_seq ?_
      refine do_region ?_
      refine run_read rfl (by decide) (fun _ => nofun) (rd_assign rfl) ?_
      refine run_nil ?_
      refine St.then_n ?_
      refine do_seq ?_
      refine do_block ?_
      refine do_seq ?_
      refine do_region ?_
      refine run_read rfl (by decide) (fun _ => nofun) (rd_move rfl) ?_
      refine run_spec rfl (by decide) (by kernel_rfl) rfl (by repeat (first | exact Pick.nil | apply Pick.cons (by repeat (first | with_reducible exact Sel.head | apply Sel.tail)))) (end_spec _ _) ?_
      rintro ⟨⟩ -
      rw [hsf]
      try simp only [List.cons_append, List.nil_append]
      refine run_read rfl (by decide) (fun _ => nofun) (rd_not rfl) ?_
      refine run_read rfl (by decide) (fun _ => nofun) (rd_move rfl) ?_
      first | (refine run_skip rfl rfl ?_) | (refine run_read rfl (by decide) (fun _ => nofun) (rd_move rfl) ?_)
      first
        | (refine run_skip rfl rfl ?_)
        | (refine run_spec rfl (by decide) (by kernel_rfl) rfl (by repeat (first | exact Pick.nil | apply Pick.cons (by repeat (first | with_reducible exact Sel.head | apply Sel.tail)))) (end_spec _ _) ?_
           rintro ⟨⟩ -
           rw [hst]
           try simp only [List.cons_append, List.nil_append])
      first | (refine run_skip rfl rfl ?_) | (refine run_read rfl (by decide) (fun _ => nofun) (rd_not rfl) ?_)
      first | refine run_read rfl (by decide) (fun _ => nofun) (rd_pick_t rfl rfl) ?_ | refine run_read rfl (by decide) (fun _ => nofun) (rd_pick_f rfl rfl) ?_
      refine run_read rfl (by decide) (fun _ => nofun) (rd_assign rfl) ?_
      refine run_nil ?_
      refine St.keep (β' := [(0, _), (1, _), (2, _), (3, _), (10, _)]) ⟨rfl, rfl, rfl, rfl, rfl, trivial⟩ ?_
      refine St.then_n ?_
      refine do_cond_t rfl ?_
      refine do_seq ?_
      refine do_region ?_
      refine run_read rfl (by decide) (fun _ => nofun) (rd_assign rfl) ?_
      refine run_nil ?_
      refine St.keep (β' := [(8, _)]) ⟨rfl, trivial⟩ ?_
      refine St.then_n ?_
      refine do_ret ?_
      refine St.blk_r ?_
      refine St.then_r ?_
      refine do_ret1 Try.results27 (res_tmp rfl) ?_
      intro w hw
      exact ⟨(M, D), hI, rfl, (hw.sub (by repeat (first | exact Pick.nil | apply Pick.cons (by repeat (first | with_reducible exact Sel.head | apply Sel.tail))))).ref_close⟩
    | true =>
      refine St.ref_open fun A cap => ?_
      refine do_seq ?_
      refine do_region ?_
      refine run_read rfl (by decide) (fun _ => nofun) (rd_assign rfl) ?_
      refine run_nil ?_
      refine St.then_n ?_
      refine do_seq ?_
      refine do_block ?_
      refine do_seq ?_
      refine do_region ?_
      refine run_read rfl (by decide) (fun _ => nofun) (rd_move rfl) ?_
      refine run_spec rfl (by decide) (by kernel_rfl) rfl (by repeat (first | exact Pick.nil | apply Pick.cons (by repeat (first | with_reducible exact Sel.head | apply Sel.tail)))) (end_spec _ _) ?_
      rintro ⟨⟩ -
      rw [hsf]
      try simp only [List.cons_append, List.nil_append]
      refine run_read rfl (by decide) (fun _ => nofun) (rd_not rfl) ?_
      refine run_read rfl (by decide) (fun _ => nofun) (rd_move rfl) ?_
      first | (refine run_skip rfl rfl ?_) | (refine run_read rfl (by decide) (fun _ => nofun) (rd_move rfl) ?_)
      first
        | (refine run_skip rfl rfl ?_)
        | (refine run_spec rfl (by decide) (by kernel_rfl) rfl (by repeat (first | exact Pick.nil | apply Pick.cons (by repeat (first | with_reducible exact Sel.head | apply Sel.tail)))) (end_spec _ _) ?_
           rintro ⟨⟩ -
           rw [hst]
           try simp only [List.cons_append, List.nil_append])
      first | (refine run_skip rfl rfl ?_) | (refine run_read rfl (by decide) (fun _ => nofun) (rd_not rfl) ?_)
      first | refine run_read rfl (by decide) (fun _ => nofun) (rd_pick_t rfl rfl) ?_ | refine run_read rfl (by decide) (fun _ => nofun) (rd_pick_f rfl rfl) ?_
      refine run_read rfl (by decide) (fun _ => nofun) (rd_assign rfl) ?_
      refine run_nil ?_
      refine St.keep (β' := [(0, _), (1, _), (2, _), (3, _), (10, _)]) ⟨rfl, rfl, rfl, rfl, rfl, trivial⟩ ?_
      refine St.then_n ?_
      refine do_cond_f rfl ?_
      refine do_seq ?_
      refine do_region ?_
      refine run_read rfl (by decide) (fun _ => nofun) (rd_move rfl) ?_
      refine run_read rfl (by decide) (fun _ => nofun) (rd_len Try.underlying28 rfl) ?_
      refine run_read rfl (by decide) (fun _ => nofun) (rd_gt rfl rfl) ?_
      refine run_read rfl (by decide) (fun _ => nofun) (rd_assign rfl) ?_
      refine run_nil ?_
      refine St.keep (β' := [(0, _), (1, _), (2, _), (3, _), (19, _)]) ⟨rfl, rfl, rfl, rfl, rfl, trivial⟩ ?_
      refine St.then_n ?_
      first | refine do_condp rfl (fun h19 => ?_) (fun h19 => ?_) | refine do_cond rfl (fun h19 => ?_) (fun h19 => ?_)
      · refine do_seq ?_
        refine do_region ?_
        refine run_read rfl (by decide) (fun _ => nofun) (rd_assign rfl) ?_
        refine run_nil ?_
        refine St.keep (β' := [(8, _)]) ⟨rfl, trivial⟩ ?_
        refine St.then_n ?_
        refine do_ret ?_
        refine St.blk_r ?_
        refine St.then_r ?_
        refine do_ret1 Try.results27 (res_tmp rfl) ?_
        intro w hw
        have hw1 : sendWhy L f t bs = 3 := by simp [sendWhy, hsf, hst]; omega
        rw [hw1, if_neg (by decide)]
        exact ⟨(M, D), hI, rfl, (hw.sub (by repeat (first | exact Pick.nil | apply Pick.cons (by repeat (first | with_reducible exact Sel.head | apply Sel.tail))))).ref_close⟩
      · refine do_seq ?_
        refine do_region ?_
        refine run_read rfl (by decide) (fun _ => nofun) (rd_move rfl) ?_
        refine run_read rfl (by decide) (fun _ => nofun) (rd_nilCheck rfl) ?_
        first | refine run_read rfl (by decide) (fun _ => nofun) (rd_fieldAddr0 rfl fld46_0) ?_ | refine run_read rfl (by decide) (fun _ => nofun) (rd_fieldAddr rfl fld46_0) ?_
        refine run_read rfl (by decide) (fun _ => nofun) (rd_load rfl row25 (cells_pts1 (by repeat (first | with_reducible exact Sel.head | apply Sel.tail)) rfl)) ?_
        refine run_read rfl (by decide) (fun _ => nofun) (rd_len Try.underlying25 rfl) ?_
        refine run_read rfl (by decide) (fun _ => nofun) (rd_ge rfl rfl) ?_
        refine run_read rfl (by decide) (fun _ => nofun) (rd_assign rfl) ?_
        refine run_nil ?_
        refine St.keep (β' := [(0, _), (1, _), (2, _), (3, _), (23, _)]) ⟨rfl, rfl, rfl, rfl, rfl, trivial⟩ ?_
        refine St.then_n ?_
        first | refine do_condp rfl (fun h23 => ?_) (fun h23 => ?_) | refine do_cond rfl (fun h23 => ?_) (fun h23 => ?_)
        · refine do_seq ?_
          refine do_region ?_
          refine run_read rfl (by decide) (fun _ => nofun) (rd_assign rfl) ?_
          refine run_nil ?_
          refine St.keep (β' := [(8, _)]) ⟨rfl, trivial⟩ ?_
          refine St.then_n ?_
          refine do_ret ?_
          refine St.blk_r ?_
          refine St.then_r ?_
          refine do_ret1 Try.results27 (res_tmp rfl) ?_
          intro w hw
          have hw1 : sendWhy L f t bs = 4 := by simp [sendWhy, hsf, hst]; omega
          rw [hw1, if_neg (by decide)]
          exact ⟨(M, D), hI, rfl, (hw.sub (by repeat (first | exact Pick.nil | apply Pick.cons (by repeat (first | with_reducible exact Sel.head | apply Sel.tail))))).ref_close⟩
        · refine do_skip ?_
          refine St.blk_n ?_
          refine St.then_n ?_
          refine do_seq ?_
          refine do_region ?_
          refine run_read rfl (by decide) (fun _ => nofun) (rd_move rfl) ?_
          refine run_read rfl (by decide) (fun _ => nofun) (rd_move rfl) ?_
          refine run_read rfl (by decide) (fun _ => nofun) (rd_build (l := [(0, (Operand.tmp 30)), (1, (Operand.tmp 31))]) (vs := [_, _, _]) zero32 plc32 rfl rfl) ?_
          refine run_alloc rfl (by decide) zero32 (fun b9 => ?_)
          first | refine run_store_all rfl rfl rfl (by repeat (first | with_reducible exact Sel.head | apply Sel.tail)) row32 rfl rfl rfl ?_ | refine run_store_mid rfl rfl rfl (by repeat (first | with_reducible exact Sel.head | apply Sel.tail)) row32 rfl rfl rfl (by simp only [setL, List.length_cons, List.length_nil, Nat.reduceAdd, List.take_succ_cons, List.take_zero, List.drop_succ_cons, List.drop_zero, List.cons_append, List.nil_append, List.append_nil]; exact rfl) ?_
          refine run_nil ?_
          refine St.keep (β' := [(0, _), (3, _), (9, _)]) ⟨rfl, rfl, rfl, trivial⟩ ?_
          refine St.then_n ?_
          refine do_seq ?_
          refine do_region ?_
          first | refine run_read rfl (by decide) (fun _ => nofun) (rd_fieldAddr0 rfl fld32_2) ?_ | refine run_read rfl (by decide) (fun _ => nofun) (rd_fieldAddr rfl fld32_2) ?_
          refine run_read rfl (by decide) (fun _ => nofun) (rd_load rfl row28 (cells_pts1 (by repeat (first | with_reducible exact Sel.head | apply Sel.tail)) rfl)) ?_
          refine run_read rfl (by decide) (fun _ => nofun) (rd_move rfl) ?_
          refine St.own_nil (T := 5) (k := 1) ?_
          refine run_append rfl (by decide) Try.underlying28 ei5 rfl rfl (by repeat (first | with_reducible exact Sel.head | apply Sel.tail)) (X := F) hF (by repeat (first | with_reducible exact Sel.head | apply Sel.tail)) (by simp only [List.mem_map]; rintro c ⟨b, _, rfl⟩; rfl) (by simp [maxLen]; omega) (by simp; omega) (fun v1 _ => ?_)
          simp only [List.nil_append, Nat.zero_add]
          refine St.vw vw_own .head (fun A1 c1 hv1 h3 h4 _ => ?_)
          subst hv1
          first | refine run_read rfl (by decide) (fun _ => nofun) (rd_fieldAddr0 rfl fld32_2) ?_ | refine run_read rfl (by decide) (fun _ => nofun) (rd_fieldAddr rfl fld32_2) ?_
          refine run_store rfl rfl rfl (by repeat (first | with_reducible exact Sel.head | apply Sel.tail)) row28 rfl rfl (by simp only [List.set_cons_succ, List.set_cons_zero]; exact rfl) ?_
          refine run_nil ?_
          refine St.keep (β' := [(0, _), (9, _)]) ⟨rfl, rfl, trivial⟩ ?_
          refine St.then_n ?_
          refine do_seq ?_
          refine do_draw [[8, 9, 10], [2, 3, 4, 7, 8, 9, 10], [3, 4, 7, 8, 9, 10], [4, 7, 8, 9, 10], [7, 8, 9, 10], [6, 7, 8, 9, 10], [7, 8, 9, 10], [8, 9, 10], [9, 10], [10], []] (by kernel_rfl) rfl ?_
          refine any_take (i := 0) (by kernel_rfl) rfl rfl (by decide) (fun _ _ _ _ _ h => h) rfl (rd_move rfl) ?_
          refine any_take (i := 1) (by kernel_rfl) rfl rfl (by decide) (fun _ _ _ _ _ h => h) rfl (rd_move rfl) ?_
          refine any_take (i := 2) (by kernel_rfl) rfl rfl (by decide) (fun _ _ _ _ _ h => h) rfl (rd_nilCheck rfl) ?_
          first | refine any_take (i := 3) (by kernel_rfl) rfl rfl (by decide) (fun _ _ _ _ _ h => h) rfl (rd_fieldAddr0 rfl fld46_0) ?_ | refine any_take (i := 3) (by kernel_rfl) rfl rfl (by decide) (fun _ _ _ _ _ h => h) rfl (rd_fieldAddr rfl fld46_0) ?_
          refine any_take (i := 4) (by kernel_rfl) rfl rfl (by decide) (fun _ _ _ _ _ h => h) rfl (rd_load rfl row25 (cells_pts1 (by repeat (first | with_reducible exact Sel.head | apply Sel.tail)) rfl)) ?_
          refine any_take (i := 5) (by kernel_rfl) rfl rfl (by decide) (fun _ _ _ _ _ h => h) rfl (rd_load_row (vs := [_, _, _]) rfl row32 rfl (cells_pts (by repeat (first | with_reducible exact Sel.head | apply Sel.tail)) rfl)) ?_
          refine any_run (j := 6) (by kernel_rfl) rfl ?_
          refine run_buildSlice (l := [(Operand.tmp 43)]) rfl (by decide) Try.underlying25 ei32 rfl rfl (by decide) (by decide) (fun b44 => ?_)
          simp only [joinL, cells_agg, cells_int, cells_bcell, cells_bool, cells_string, cells_pointer, cells_slice, cells_map, cells_func, List.cons_append, List.nil_append, List.append_nil]
          refine run_nil ?_
          refine St.then_n ?_
          refine any_next (by apply Beh.drop (i := 5) (by kernel_rfl); (apply Beh.keep (i := 4) (by kernel_rfl) rfl (rd_load rfl row25 (cells_pts1 (by repeat (first | with_reducible exact Sel.head | apply Sel.tail)) rfl))); (first | apply Beh.keep (i := 3) (by kernel_rfl) rfl (rd_fieldAddr0 rfl fld46_0) | apply Beh.keep (i := 3) (by kernel_rfl) rfl (rd_fieldAddr rfl fld46_0)); apply Beh.keep (i := 2) (by kernel_rfl) rfl (rd_nilCheck rfl); apply Beh.keep (i := 1) (by kernel_rfl) rfl (rd_move rfl); apply Beh.keep (i := 0) (by kernel_rfl) rfl (rd_move rfl); exact .nil) ?_
          refine any_run (j := 7) (by kernel_rfl) rfl ?_
          refine run_append_src rfl (by decide) Try.underlying25 ei32 rfl rfl (by repeat (first | with_reducible exact Sel.head | apply Sel.tail)) (src_pts Try.underlying25 (by repeat (first | with_reducible exact Sel.head | apply Sel.tail)) rfl (by decide) rfl) (by simp; omega) (by simp [maxLen]; omega) (fun v2 _ => ?_)
          refine St.vw vw_own .head (fun A2 c2 hv2 h5 h6 _ => ?_)
          subst hv2
          simp only [List.length_cons, List.length_nil, Nat.zero_add]
          refine run_nil ?_
          refine St.then_n ?_
          refine any_next (by apply Beh.drop (i := 4) (by kernel_rfl); apply Beh.drop (i := 3) (by kernel_rfl); apply Beh.drop (i := 2) (by kernel_rfl); apply Beh.drop (i := 1) (by kernel_rfl); apply Beh.keep (i := 0) (by kernel_rfl) rfl (rd_move rfl); exact .nil) ?_
          refine any_take (i := 8) (by kernel_rfl) rfl rfl (by decide) (fun _ _ _ _ _ h => h) rfl (rd_nilCheck rfl) ?_
          first | refine any_take (i := 9) (by kernel_rfl) rfl rfl (by decide) (fun _ _ _ _ _ h => h) rfl (rd_fieldAddr0 rfl fld46_0) ?_ | refine any_take (i := 9) (by kernel_rfl) rfl rfl (by decide) (fun _ _ _ _ _ h => h) rfl (rd_fieldAddr rfl fld46_0) ?_
          refine any_run (j := 10) (by kernel_rfl) rfl ?_
          refine run_store rfl rfl rfl (by repeat (first | with_reducible exact Sel.head | apply Sel.tail)) row25 rfl rfl (by simp only [List.set_cons_succ, List.set_cons_zero]; exact rfl) ?_
          refine run_nil ?_
          refine St.then_n ?_
          refine any_next (by apply Beh.drop (i := 9) (by kernel_rfl); apply Beh.drop (i := 8) (by kernel_rfl); apply Beh.drop (i := 0) (by kernel_rfl); exact .nil) ?_
          refine any_nil (by kernel_rfl) ?_
          refine St.keep (β' := []) trivial ?_
          refine St.then_n ?_
          refine do_seq ?_
          refine do_region ?_
          refine run_read rfl (by decide) (fun _ => nofun) (rd_assign rfl) ?_
          refine run_nil ?_
          refine St.then_n ?_
          refine do_ret ?_
          refine do_ret1 Try.results27 (res_tmp rfl) ?_
          intro w hw
          have hw1 : sendWhy L f t bs = 0 := by simp [sendWhy, hsf, hst]; omega
          rw [hw1, if_pos rfl]
          refine ⟨(M ++ [⟨f, t, A1, c1, bs⟩], (.slice A1 bs.length c1, bs) :: D), ⟨?_, ?_, ?_, ?_⟩, rfl, Holds.ref_close (A := A2) (cap := c2) ?_⟩
          · rw [List.map_append, hI.eq]; rfl
          · intro x hx
            rcases List.mem_append.1 hx with hx | hx
            · exact List.mem_cons_of_mem _ (hI.mem x hx)
            · rw [List.mem_singleton] at hx; subst hx; exact List.mem_cons_self
          · intro x hx
            rcases List.mem_append.1 hx with hx | hx
            · exact hI.len x hx
            · rw [List.mem_singleton] at hx; subst hx; dsimp only; omega
          · rw [List.length_append, List.length_singleton]; omega
          · rw [List.length_append, List.length_singleton, cellsM_app]
            have h9 : Holds ω [poolP D, own (.slice A1 bs.length c1) 5 1 bs.length (bs.map bcell), pts r 46 [.slice A2 (M.length + 1) c2], own (.slice A2 (M.length + 1) c2) 32 3 (M.length + 1) (cellsM M ++ [.int .i64 f, .int .i64 t, .slice A1 bs.length c1]), F] w := hw.sub (by repeat (first | exact Pick.nil | apply Pick.cons (by repeat (first | with_reducible exact Sel.head | apply Sel.tail))))
            have h8 := Holds.pool_put (v := .slice A1 bs.length c1) (d := bs) h9
            rw [show cellsM [⟨f, t, A1, c1, bs⟩] = [.int .i64 f, .int .i64 t, .slice A1 bs.length c1] from rfl]
            exact h8.sub (by repeat (first | exact Pick.nil | apply Pick.cons (by repeat (first | with_reducible exact Sel.head | apply Sel.tail))))
theorem letK_map (M : List RLet) (k : Int) : letK (M.map RLet.L) k = (rletK M k).L := by
  unfold letK rletK
  rw [List.length_map]
  split
  · rw [List.getD_eq_getElem?_getD, List.getD_eq_getElem?_getD, List.getElem?_map]
    cases M[k.toNat]? <;> rfl
  · rfl
theorem whyK_map (M : List RLet) (k : Int) : whyK (M.map RLet.L) k = rwhyK M k := by unfold whyK rwhyK; rw [List.length_map]
theorem rletK_mem {L : List Letter} (hI : RInv M D L) (k : Int) : VwB (poolP D) (rletK M k).v (rletK M k).d := by
  unfold rletK
  split
  · rename_i h
    rw [List.getD_eq_getElem?_getD, List.getElem?_eq_getElem (by omega), Option.getD_some]
    exact vw_pool (hI.mem _ (List.getElem_mem _))
  · exact vwb_nil _
/-- The reference's net, and what it holds, can be read. -/
theorem vw_ref {v : Value} {d : List UInt8} (h : VwB (poolP D) v d) : VwB (refM r M D) v d := fun p ⟨A, cap, h1, h2, l1, l2, _, _, h3, h4, l3, l4, _, _, h5, h6, l5, l6, _, hp, _⟩ => (h h5 hp).mono (l5.trans (l4.trans l2))
theorem rinv_erase {L : List Letter} (hI : RInv M D L) (q : Nat) : RInv (M.eraseIdx q) D (L.eraseIdx q) where
  eq := by rw [← hI.eq, List.eraseIdx_eq_take_drop_succ, List.eraseIdx_eq_take_drop_succ, List.map_append, List.map_take, List.map_drop]
  mem := fun x hx => hI.mem x (List.mem_of_mem_eraseIdx hx)
  len := fun x hx => hI.len x (List.mem_of_mem_eraseIdx hx)
  n := by have := hI.n; have := List.length_eraseIdx_le L q; omega
theorem erase_eq (M : List RLet) (q : Nat) : cellsM (M.eraseIdx q) = (cellsM M).take (q * 3) ++ (cellsM M).drop ((q + 1) * 3) := by
  rw [cellsM_take, cellsM_drop, ← cellsM_app, List.eraseIdx_eq_take_drop_succ]
theorem rtake_spec (F : HP) (L : List Letter) (k : Int) (hI : RInv M D L) :
    Spec Try.prog 29 [.pointer (some ⟨r, 0, none⟩), .int .i64 k] [refM r M D] F (fun M' : List RLet => RInv M' D (outK L k))
      (fun _ => .tuple #[.agg (rletK M k).C.toArray, .int .i64 (rwhyK M k)]) (fun M' => [refM r M' D]) := by
  intro ω w hh
  refine enter Try.func29 rfl Try.ntmps29 rfl hh ?_
  simp only [List.cons_append, List.nil_append, argsB]
  have hml := hI.l
  have hLn := hI.n
  by_cases hk : 0 ≤ k ∧ k < M.length
  · obtain ⟨q, rfl⟩ := Int.eq_ofNat_of_zero_le hk.1
    have hq : q < M.length := by omega
    have e2 : rwhyK M q = 0 := if_pos hk
    have e3 : outK L q = L.eraseIdx q := if_pos (by omega)
    have hel : (M.eraseIdx q).length = M.length - 1 := by rw [List.length_eraseIdx, if_pos hq]
    have hcl := cellsM_len M
    rw [e3]
    refine do_seq ?_
    refine do_region ?_
    refine run_alloc rfl (by decide) zero32 (fun b4 => ?_)
    refine run_read rfl (by decide) (fun _ => nofun) (rd_assign rfl) ?_
    refine run_nil ?_
    refine St.then_n ?_
    refine do_seq ?_
    refine do_region ?_
    refine run_read rfl (by decide) (fun _ => nofun) (rd_move rfl) ?_
    refine run_read rfl (by decide) (fun _ => nofun) (rd_move rfl) ?_
    refine run_spec rfl (by decide) (by kernel_rfl) rfl (by repeat (first | exact Pick.nil | apply Pick.cons (by repeat (first | with_reducible exact Sel.head | apply Sel.tail)))) (rlook_spec _ q (by omega)) ?_
    rintro ⟨⟩ -
    rw [e2]
    generalize rletK M q = x
    try simp only [List.cons_append, List.nil_append]
    refine run_read rfl (by decide) (fun _ => nofun) (rd_move rfl) ?_
    refine run_read rfl (by decide) (fun _ => nofun) (rd_extract rfl rfl) ?_
    refine run_read rfl (by decide) (fun _ => nofun) (rd_extract rfl rfl) ?_
    refine run_alloc rfl (by decide) zero32 (fun b6 => ?_)
    first | refine run_store_all rfl rfl rfl (by repeat (first | with_reducible exact Sel.head | apply Sel.tail)) row32 rfl rfl rfl ?_ | refine run_store_mid rfl rfl rfl (by repeat (first | with_reducible exact Sel.head | apply Sel.tail)) row32 rfl rfl rfl (by simp only [setL, List.length_cons, List.length_nil, Nat.reduceAdd, List.take_succ_cons, List.take_zero, List.drop_succ_cons, List.drop_zero, List.cons_append, List.nil_append, List.append_nil]; exact rfl) ?_
    refine run_read rfl (by decide) (fun _ => nofun) (rd_assign rfl) ?_
    refine run_nil ?_
    refine St.keep (β' := [(0, _), (1, _), (4, _), (6, _), (7, _)]) ⟨rfl, rfl, rfl, rfl, rfl, trivial⟩ ?_
    refine St.then_n ?_
    refine do_seq ?_
    refine do_seq ?_
    refine do_region ?_
    refine run_read rfl (by decide) (fun _ => nofun) (rd_move rfl) ?_
    refine run_read rfl (by decide) (fun _ => nofun) (rd_ne rfl rfl) ?_
    refine run_nil ?_
    refine St.then_n ?_
    refine do_cond_f rfl ?_
    refine do_skip ?_
    refine St.then_n ?_
    refine do_seq ?_
    refine do_region ?_
    refine run_read rfl (by decide) (fun _ => nofun) (rd_assign rfl) ?_
    refine run_nil ?_
    refine St.then_n ?_
    refine do_seq ?_
    refine do_region ?_
    refine run_read rfl (by decide) (fun _ => nofun) (rd_move rfl) ?_
    refine run_read rfl (by decide) (fun _ => nofun) (rd_move rfl) ?_
    refine run_read rfl (by decide) (fun _ => nofun) (rd_nilCheck rfl) ?_
    refine St.sel (P := refM r M D) (by repeat (first | with_reducible exact Sel.head | apply Sel.tail)) (St.ref_open fun A cap => ?_)
    refine St.sel (.tail .head) (St.own_some (by omega) (fun g c2 hg h3 h4 h5 => ?_))
    cases hg
    first | refine run_read rfl (by decide) (fun _ => nofun) (rd_fieldAddr0 rfl fld46_0) ?_ | refine run_read rfl (by decide) (fun _ => nofun) (rd_fieldAddr rfl fld46_0) ?_
    refine run_read rfl (by decide) (fun _ => nofun) (rd_load rfl row25 (cells_pts1 (by repeat (first | with_reducible exact Sel.head | apply Sel.tail)) rfl)) ?_
    refine run_read rfl (by decide) (fun _ => nofun) (rd_move rfl) ?_
    refine run_read rfl (by decide) (fun _ => nofun) (rd_slice (i := 0) (j := q) Try.underlying25 ei32 rfl rfl rfl (by omega) (by omega) (by omega)) ?_
    refine St.own_nil (T := 32) (k := 3) ?_
    refine run_append rfl (by decide) Try.underlying25 ei32 rfl rfl (by repeat (first | with_reducible exact Sel.head | apply Sel.tail)) (X := own (.slice (some ⟨g, 0, none⟩) M.length cap) 32 3 M.length (cellsM M)) (Vw.sub vw_own (by decide) (by simp) (by simp; omega)) (by repeat (first | with_reducible exact Sel.head | apply Sel.tail)) (fun c hc => rlet_one M c (List.mem_of_mem_drop (List.mem_of_mem_take hc))) (by simp [maxLen]; omega) (by simp; omega) (fun v1 _ => ?_)
    rw [own_eq (v := v1) (n' := q) (cs' := (cellsM M).take (q * 3)) (by simp) (by simp)]
    refine run_read rfl (by decide) (fun _ => nofun) (rd_assign rfl) ?_
    refine run_nil ?_
    refine St.keep (β' := [(0, _), (1, _), (4, _), (6, _), (8, _)]) ⟨rfl, rfl, rfl, rfl, rfl, trivial⟩ ?_
    refine St.then_n ?_
    refine do_seq ?_
    refine do_region ?_
    refine run_read rfl (by decide) (fun _ => nofun) (rd_move rfl) ?_
    refine run_read rfl (by decide) (fun _ => nofun) (rd_move rfl) ?_
    refine run_read rfl (by decide) (fun _ => nofun) (rd_nilCheck rfl) ?_
    first | refine run_read rfl (by decide) (fun _ => nofun) (rd_fieldAddr0 rfl fld46_0) ?_ | refine run_read rfl (by decide) (fun _ => nofun) (rd_fieldAddr rfl fld46_0) ?_
    refine run_read rfl (by decide) (fun _ => nofun) (rd_load rfl row25 (cells_pts1 (by repeat (first | with_reducible exact Sel.head | apply Sel.tail)) rfl)) ?_
    refine run_read rfl (by decide) (fun _ => nofun) (rd_move rfl) ?_
    first | refine run_read rfl (by decide) (fun _ => nofun) ((rd_add rfl rfl).eq (congrArg (Value.int .i64) (IntWalk.i64_in _ (by omega)))) ?_ | refine run_read rfl (by decide) (fun _ => nofun) (rd_add rfl rfl) ?_
    refine run_read rfl (by decide) (fun _ => nofun) (rd_slice (i := (q : Int) + 1) (j := M.length) Try.underlying25 ei32 rfl rfl rfl (by omega) (by omega) (by omega)) ?_
    refine run_append rfl (by decide) Try.underlying25 ei32 rfl rfl (by repeat (first | with_reducible exact Sel.head | apply Sel.tail)) (X := own (.slice (some ⟨g, 0, none⟩) M.length cap) 32 3 M.length (cellsM M)) (Vw.sub vw_own (by decide) (by omega) (by omega)) (by repeat (first | with_reducible exact Sel.head | apply Sel.tail)) (fun c hc => rlet_one M c (List.mem_of_mem_drop (List.mem_of_mem_take hc))) (by simp [maxLen]; omega) (by omega) (fun v2 _ => ?_)
    rw [own_eq (v := v2) (n' := (M.eraseIdx q).length) (cs' := cellsM (M.eraseIdx q)) (by omega) (by rw [erase_eq, show Int.toNat ((q : Int) + 1) = q + 1 by omega, show Int.toNat (M.length : Int) = M.length by omega]; congr 1; rw [List.take_of_length_le]; rw [List.length_drop]; omega)]
    refine St.vw vw_own .head (fun A2 c2 hv2 h5 h6 _ => ?_)
    subst hv2
    refine run_read rfl (by decide) (fun _ => nofun) (rd_assign rfl) ?_
    refine run_nil ?_
    refine St.keep (β' := [(0, _), (4, _), (6, _), (8, _)]) ⟨rfl, rfl, rfl, rfl, trivial⟩ ?_
    refine St.then_n ?_
    refine do_seq ?_
    refine do_region ?_
    refine run_read rfl (by decide) (fun _ => nofun) (rd_move rfl) ?_
    refine run_read rfl (by decide) (fun _ => nofun) (rd_move rfl) ?_
    refine run_read rfl (by decide) (fun _ => nofun) (rd_nilCheck rfl) ?_
    first | refine run_read rfl (by decide) (fun _ => nofun) (rd_fieldAddr0 rfl fld46_0) ?_ | refine run_read rfl (by decide) (fun _ => nofun) (rd_fieldAddr rfl fld46_0) ?_
    refine run_store rfl rfl rfl (by repeat (first | with_reducible exact Sel.head | apply Sel.tail)) row25 rfl rfl (by simp only [List.set_cons_succ, List.set_cons_zero]; exact rfl) ?_
    refine run_nil ?_
    refine St.keep (β' := [(4, _), (6, _)]) ⟨rfl, rfl, trivial⟩ ?_
    refine St.then_n ?_
    refine do_seq ?_
    refine do_region ?_
    refine run_read rfl (by decide) (fun _ => nofun) (rd_load_row (vs := [_, _, _]) rfl row32 rfl (cells_pts (by repeat (first | with_reducible exact Sel.head | apply Sel.tail)) rfl)) ?_
    first | refine run_store_all rfl rfl rfl (by repeat (first | with_reducible exact Sel.head | apply Sel.tail)) row32 rfl rfl rfl ?_ | refine run_store_mid rfl rfl rfl (by repeat (first | with_reducible exact Sel.head | apply Sel.tail)) row32 rfl rfl rfl (by simp only [setL, List.length_cons, List.length_nil, Nat.reduceAdd, List.take_succ_cons, List.take_zero, List.drop_succ_cons, List.drop_zero, List.cons_append, List.nil_append, List.append_nil]; exact rfl) ?_
    refine run_read rfl (by decide) (fun _ => nofun) (rd_assign rfl) ?_
    refine run_nil ?_
    refine St.then_n ?_
    refine do_ret ?_
    refine do_ret2 Try.results29 (res_cell_row (vs := [_, _, _]) rfl row32 rfl (cells_pts (by repeat (first | with_reducible exact Sel.head | apply Sel.tail)) rfl)) (res_tmp rfl) ?_
    intro w hw
    exact ⟨M.eraseIdx q, rinv_erase hI q, rfl, (hw.sub (by repeat (first | exact Pick.nil | apply Pick.cons (by repeat (first | with_reducible exact Sel.head | apply Sel.tail))))).ref_close⟩
  · have e2 : rwhyK M k = 1 := if_neg hk
    have e3 : outK L k = L := if_neg (by omega)
    have e4 : rletK M k = ⟨0, 0, none, 0, []⟩ := if_neg hk
    rw [e3]
    refine do_seq ?_
    refine do_region ?_
    refine run_alloc rfl (by decide) zero32 (fun b4 => ?_)
    refine run_read rfl (by decide) (fun _ => nofun) (rd_assign rfl) ?_
    refine run_nil ?_
    refine St.then_n ?_
    refine do_seq ?_
    refine do_region ?_
    refine run_read rfl (by decide) (fun _ => nofun) (rd_move rfl) ?_
    refine run_read rfl (by decide) (fun _ => nofun) (rd_move rfl) ?_
    refine run_spec rfl (by decide) (by kernel_rfl) rfl (by repeat (first | exact Pick.nil | apply Pick.cons (by repeat (first | with_reducible exact Sel.head | apply Sel.tail)))) (rlook_spec _ k (by omega)) ?_
    rintro ⟨⟩ -
    rw [e2, e4]
    try simp only [List.cons_append, List.nil_append]
    refine run_read rfl (by decide) (fun _ => nofun) (rd_move rfl) ?_
    refine run_read rfl (by decide) (fun _ => nofun) (rd_extract rfl rfl) ?_
    refine run_read rfl (by decide) (fun _ => nofun) (rd_extract rfl rfl) ?_
    refine run_alloc rfl (by decide) zero32 (fun b6 => ?_)
    first | refine run_store_all rfl rfl rfl (by repeat (first | with_reducible exact Sel.head | apply Sel.tail)) row32 rfl rfl rfl ?_ | refine run_store_mid rfl rfl rfl (by repeat (first | with_reducible exact Sel.head | apply Sel.tail)) row32 rfl rfl rfl (by simp only [setL, List.length_cons, List.length_nil, Nat.reduceAdd, List.take_succ_cons, List.take_zero, List.drop_succ_cons, List.drop_zero, List.cons_append, List.nil_append, List.append_nil]; exact rfl) ?_
    refine run_read rfl (by decide) (fun _ => nofun) (rd_assign rfl) ?_
    refine run_nil ?_
    refine St.keep (β' := [(0, _), (1, _), (4, _), (6, _), (7, _)]) ⟨rfl, rfl, rfl, rfl, rfl, trivial⟩ ?_
    refine St.then_n ?_
    refine do_seq ?_
    refine do_seq ?_
    refine do_region ?_
    refine run_read rfl (by decide) (fun _ => nofun) (rd_move rfl) ?_
    refine run_read rfl (by decide) (fun _ => nofun) (rd_ne rfl rfl) ?_
    refine run_nil ?_
    refine St.then_n ?_
    refine do_cond_t rfl ?_
    refine do_seq ?_
    refine do_region ?_
    refine run_read rfl (by decide) (fun _ => nofun) (rd_build (l := []) (vs := [_, _, _]) zero32 plc32 rfl rfl) ?_
    refine run_read rfl (by decide) (fun _ => nofun) (rd_move rfl) ?_
    first | refine run_store_all rfl rfl rfl (by repeat (first | with_reducible exact Sel.head | apply Sel.tail)) row32 rfl rfl rfl ?_ | refine run_store_mid rfl rfl rfl (by repeat (first | with_reducible exact Sel.head | apply Sel.tail)) row32 rfl rfl rfl (by simp only [setL, List.length_cons, List.length_nil, Nat.reduceAdd, List.take_succ_cons, List.take_zero, List.drop_succ_cons, List.drop_zero, List.cons_append, List.nil_append, List.append_nil]; exact rfl) ?_
    refine run_read rfl (by decide) (fun _ => nofun) (rd_assign rfl) ?_
    refine run_nil ?_
    refine St.keep (β' := [(4, _), (5, _)]) ⟨rfl, rfl, trivial⟩ ?_
    refine St.then_n ?_
    refine do_ret ?_
    refine St.then_r ?_
    refine do_ret2 Try.results29 (res_cell_row (vs := [_, _, _]) rfl row32 rfl (cells_pts (by repeat (first | with_reducible exact Sel.head | apply Sel.tail)) rfl)) (res_tmp rfl) ?_
    intro w hw
    exact ⟨M, hI, rfl, hw.sub (by repeat (first | exact Pick.nil | apply Pick.cons (by repeat (first | with_reducible exact Sel.head | apply Sel.tail))))⟩
theorem cellsM_letter (q : Nat) (x : RLet) (h : M[q]? = some x) : (cellsM M)[q * 3 + 1]? = some (.int .i64 x.t) := by
  have := cellsM_at M q x h
  have e : (((cellsM M).drop (q * 3)).take 3)[1]? = some (.int .i64 x.t) := by rw [this]; rfl
  rwa [List.getElem?_take, if_pos (by omega), List.getElem?_drop] at e
theorem toN_succ (M : List RLet) (t : Int) (q : Nat) (x : RLet) (h : M[q]? = some x) : toN ((M.take (q + 1)).map RLet.L) t = toN ((M.take q).map RLet.L) t + if x.t = t then 1 else 0 := by
  rw [List.take_add_one, h, List.map_append]
  exact toN_app _ _ _
theorem rto_spec (F : HP) (L : List Letter) (t : Int) (hI : RInv M D L) :
    Spec Try.prog 33 [.pointer (some ⟨r, 0, none⟩), .int .i64 t] [refM r M D] F (fun _ : Unit => True) (fun _ => .int .i64 (toN L t)) (fun _ => [refM r M D]) := by
  intro ω w hh
  refine enter Try.func33 rfl Try.ntmps33 rfl hh ?_
  simp only [List.cons_append, List.nil_append, argsB]
  have hml := hI.l
  have hLn := hI.n
  refine St.ref_open fun A cap => ?_
  refine do_seq ?_
  refine do_region ?_
  refine run_read rfl (by decide) (fun _ => nofun) (rd_assign rfl) ?_
  refine run_nil ?_
  refine St.then_n ?_
  refine do_seq ?_
  refine do_region ?_
  refine run_read rfl (by decide) (fun _ => nofun) (rd_assign rfl) ?_
  refine run_nil ?_
  refine St.then_n ?_
  refine do_seq ?_
  refine do_seq ?_
  refine do_region ?_
  refine run_read rfl (by decide) (fun _ => nofun) (rd_assign rfl) ?_
  refine run_nil ?_
  refine St.then_n ?_
  refine do_block ?_
  refine do_loop (fun i : Nat => i ≤ M.length) (fun i => [(0, .pointer (some ⟨r, 0, none⟩)), (1, .int .i64 t), (5, .int .i64 (toN ((M.take i).map RLet.L) t)), (6, .int .i64 i)]) (fun _ => [pts r 46 [.slice A M.length cap], own (.slice A M.length cap) 32 3 M.length (cellsM M), poolP D, F]) (fun i => M.length - i) 0 (Nat.zero_le _) ⟨rfl, rfl, rfl, rfl, trivial⟩ (by repeat (first | exact Pick.nil | apply Pick.cons (by repeat (first | with_reducible exact Sel.head | apply Sel.tail)))) ?_
  intro i hi
  try dsimp only at hi ⊢
  refine do_seq ?_
  refine do_seq ?_
  refine do_region ?_
  refine run_read rfl (by decide) (fun _ => nofun) (rd_move rfl) ?_
  refine run_read rfl (by decide) (fun _ => nofun) (rd_move rfl) ?_
  refine run_read rfl (by decide) (fun _ => nofun) (rd_nilCheck rfl) ?_
  first | refine run_read rfl (by decide) (fun _ => nofun) (rd_fieldAddr0 rfl fld46_0) ?_ | refine run_read rfl (by decide) (fun _ => nofun) (rd_fieldAddr rfl fld46_0) ?_
  refine run_read rfl (by decide) (fun _ => nofun) (rd_load rfl row25 (cells_pts1 (by repeat (first | with_reducible exact Sel.head | apply Sel.tail)) rfl)) ?_
  refine run_read rfl (by decide) (fun _ => nofun) (rd_len Try.underlying25 rfl) ?_
  refine run_read rfl (by decide) (fun _ => nofun) (rd_lt rfl rfl) ?_
  refine run_nil ?_
  refine St.keep (β' := [(0, _), (1, _), (5, _), (6, _), (13, _)]) ⟨rfl, rfl, rfl, rfl, rfl, trivial⟩ ?_
  refine St.then_n ?_
  first | refine do_condp rfl (fun h13 => ?_) (fun h13 => ?_) | refine do_cond rfl (fun h13 => ?_) (fun h13 => ?_)
  · have hx : M[i]? = some M[i] := List.getElem?_eq_getElem (by omega)
    have hle : toN ((M.take i).map RLet.L) t ≤ 10000 := Nat.le_trans (toN_le _ _) (by rw [List.length_map, List.length_take]; omega)
    have hsucc := toN_succ M t i _ hx
    generalize M[i] = x at hx hsucc
    have hc1 := cellsM_letter i x hx
    generalize toN ((M.take i).map RLet.L) t = k at hle hsucc
    refine St.sel (.tail .head) (St.own_some (by omega) (fun g c2 hg h3 h4 h5 => ?_))
    cases hg
    refine do_skip ?_
    refine St.then_n ?_
    refine do_seq ?_
    refine do_block ?_
    refine do_seq ?_
    refine do_region ?_
    refine run_read rfl (by decide) (fun _ => nofun) (rd_move rfl) ?_
    refine run_read rfl (by decide) (fun _ => nofun) (rd_nilCheck rfl) ?_
    first | refine run_read rfl (by decide) (fun _ => nofun) (rd_fieldAddr0 rfl fld46_0) ?_ | refine run_read rfl (by decide) (fun _ => nofun) (rd_fieldAddr rfl fld46_0) ?_
    refine run_read rfl (by decide) (fun _ => nofun) (rd_load rfl row25 (cells_pts1 (by repeat (first | with_reducible exact Sel.head | apply Sel.tail)) rfl)) ?_
    refine run_read rfl (by decide) (fun _ => nofun) (rd_move rfl) ?_
    refine run_read rfl (by decide) (fun _ => nofun) (rd_indexAddr Try.underlying25 ei32 rfl rfl (by omega) (by omega)) ?_
    refine run_read rfl (by decide) (fun _ => nofun) ((rd_fieldAddr rfl fld32_1).eq (show _ = Value.pointer (some ⟨g, 0 + (i * 3 + 1), none⟩) by simp)) ?_
    refine run_read rfl (by decide) (fun _ => nofun) (rd_load rfl row3 (Vw.cells1 (k := 3) (cs := cellsM M) vw_own (by repeat (first | with_reducible exact Sel.head | apply Sel.tail)) (by omega) hc1)) ?_
    refine run_read rfl (by decide) (fun _ => nofun) (rd_move rfl) ?_
    refine run_read rfl (by decide) (fun _ => nofun) (rd_eq rfl rfl) ?_
    refine run_nil ?_
    refine St.keep (β' := [(0, _), (1, _), (5, _), (6, _), (25, _)]) ⟨rfl, rfl, rfl, rfl, rfl, trivial⟩ ?_
    refine St.then_n ?_
    first | refine do_condp rfl (fun h25 => ?_) (fun h25 => ?_) | refine do_cond rfl (fun h25 => ?_) (fun h25 => ?_)
    · refine do_region ?_
      refine run_read rfl (by decide) (fun _ => nofun) (rd_move rfl) ?_
      first | refine run_read rfl (by decide) (fun _ => nofun) ((rd_add rfl rfl).eq (congrArg (Value.int .i64) (IntWalk.i64_in _ (by omega)))) ?_ | refine run_read rfl (by decide) (fun _ => nofun) (rd_add rfl rfl) ?_
      refine run_read rfl (by decide) (fun _ => nofun) (rd_assign rfl) ?_
      refine run_nil ?_
      refine St.blk_n ?_
      refine St.then_n ?_
      refine do_region ?_
      refine run_read rfl (by decide) (fun _ => nofun) (rd_move rfl) ?_
      first | refine run_read rfl (by decide) (fun _ => nofun) ((rd_add rfl rfl).eq (congrArg (Value.int .i64) (IntWalk.i64_in _ (by omega)))) ?_ | refine run_read rfl (by decide) (fun _ => nofun) (rd_add rfl rfl) ?_
      refine run_read rfl (by decide) (fun _ => nofun) (rd_assign rfl) ?_
      refine run_nil ?_
      refine St.keep (β' := [(0, _), (1, _), (5, _), (6, _)]) ⟨rfl, rfl, rfl, rfl, trivial⟩ ?_
      refine St.then_n ?_
      first
        | exact loop_back (i + 1) (by omega) (by omega) ⟨rfl, rfl, by rw [hsucc, if_pos h25]; rfl, rfl, trivial⟩ (by repeat (first | exact Pick.nil | apply Pick.cons (by repeat (first | with_reducible exact Sel.head | apply Sel.tail))))
        | exact loop_back (i + 1) (by omega) (by omega) ⟨rfl, rfl, by rw [hsucc, if_neg h25]; rfl, rfl, trivial⟩ (by repeat (first | exact Pick.nil | apply Pick.cons (by repeat (first | with_reducible exact Sel.head | apply Sel.tail))))
    · refine do_skip ?_
      refine St.blk_n ?_
      refine St.then_n ?_
      refine do_region ?_
      refine run_read rfl (by decide) (fun _ => nofun) (rd_move rfl) ?_
      first | refine run_read rfl (by decide) (fun _ => nofun) ((rd_add rfl rfl).eq (congrArg (Value.int .i64) (IntWalk.i64_in _ (by omega)))) ?_ | refine run_read rfl (by decide) (fun _ => nofun) (rd_add rfl rfl) ?_
      refine run_read rfl (by decide) (fun _ => nofun) (rd_assign rfl) ?_
      refine run_nil ?_
      refine St.then_n ?_
      first
        | exact loop_back (i + 1) (by omega) (by omega) ⟨rfl, rfl, by rw [hsucc, if_pos h25]; rfl, rfl, trivial⟩ (by repeat (first | exact Pick.nil | apply Pick.cons (by repeat (first | with_reducible exact Sel.head | apply Sel.tail))))
        | exact loop_back (i + 1) (by omega) (by omega) ⟨rfl, rfl, by rw [hsucc, if_neg h25]; rfl, rfl, trivial⟩ (by repeat (first | exact Pick.nil | apply Pick.cons (by repeat (first | with_reducible exact Sel.head | apply Sel.tail))))
  · refine do_exit ?_
    refine St.then_x ?_
    refine St.then_x ?_
    refine St.blk_s ?_
    refine St.then_n ?_
    refine do_seq ?_
    refine do_region ?_
    refine run_read rfl (by decide) (fun _ => nofun) (rd_move rfl) ?_
    refine run_read rfl (by decide) (fun _ => nofun) (rd_assign rfl) ?_
    refine run_nil ?_
    refine St.keep (β' := [(4, _)]) ⟨rfl, trivial⟩ ?_
    refine St.then_n ?_
    refine do_ret ?_
    refine do_ret1 Try.results33 (res_tmp rfl) ?_
    intro w hw
    have e : M.take i = M := List.take_of_length_le (by omega)
    exact ⟨(), trivial, by rw [e, hI.eq], (hw.sub (by repeat (first | exact Pick.nil | apply Pick.cons (by repeat (first | with_reducible exact Sel.head | apply Sel.tail))))).ref_close⟩
theorem rdouble_spec (F : HP) (L : List Letter) (k : Int) (hI : RInv M D L) :
    Spec Try.prog 30 [.pointer (some ⟨r, 0, none⟩), .int .i64 k] [refM r M D] F (fun M' : List RLet => RInv M' D (doubleL L k))
      (fun _ => .int .i64 (doubleWhy L k)) (fun M' => [refM r M' D]) := by
  intro ω w hh
  refine enter Try.func30 rfl Try.ntmps30 rfl hh ?_
  simp only [List.cons_append, List.nil_append, argsB]
  have hml := hI.l
  have hLn := hI.n
  by_cases hk : 0 ≤ k ∧ k < M.length
  · have e2 : rwhyK M k = 0 := if_pos hk
    have hx : M[k.toNat]? = some (rletK M k) := by unfold rletK; rw [if_pos hk, List.getD_eq_getElem?_getD, List.getElem?_eq_getElem (by omega), Option.getD_some]
    refine do_seq ?_
    refine do_region ?_
    refine run_read rfl (by decide) (fun _ => nofun) (rd_assign rfl) ?_
    refine run_nil ?_
    refine St.then_n ?_
    refine do_seq ?_
    refine do_region ?_
    refine run_read rfl (by decide) (fun _ => nofun) (rd_move rfl) ?_
    refine run_read rfl (by decide) (fun _ => nofun) (rd_move rfl) ?_
    refine run_spec rfl (by decide) (by kernel_rfl) rfl (by repeat (first | exact Pick.nil | apply Pick.cons (by repeat (first | with_reducible exact Sel.head | apply Sel.tail)))) (rlook_spec _ k (by omega)) ?_
    rintro ⟨⟩ -
    rw [e2]
    generalize rletK M k = x at hx
    try simp only [List.cons_append, List.nil_append]
    refine run_read rfl (by decide) (fun _ => nofun) (rd_move rfl) ?_
    refine run_read rfl (by decide) (fun _ => nofun) (rd_extract rfl rfl) ?_
    refine run_read rfl (by decide) (fun _ => nofun) (rd_extract rfl rfl) ?_
    refine run_alloc rfl (by decide) zero32 (fun b5 => ?_)
    first | refine run_store_all rfl rfl rfl (by repeat (first | with_reducible exact Sel.head | apply Sel.tail)) row32 rfl rfl rfl ?_ | refine run_store_mid rfl rfl rfl (by repeat (first | with_reducible exact Sel.head | apply Sel.tail)) row32 rfl rfl rfl (by simp only [setL, List.length_cons, List.length_nil, Nat.reduceAdd, List.take_succ_cons, List.take_zero, List.drop_succ_cons, List.drop_zero, List.cons_append, List.nil_append, List.append_nil]; exact rfl) ?_
    refine run_read rfl (by decide) (fun _ => nofun) (rd_assign rfl) ?_
    refine run_nil ?_
    refine St.keep (β' := [(0, _), (5, _), (6, _)]) ⟨rfl, rfl, rfl, trivial⟩ ?_
    refine St.then_n ?_
    refine do_seq ?_
    refine do_seq ?_
    refine do_region ?_
    refine run_read rfl (by decide) (fun _ => nofun) (rd_move rfl) ?_
    refine run_read rfl (by decide) (fun _ => nofun) (rd_ne rfl rfl) ?_
    refine run_nil ?_
    refine St.then_n ?_
    refine do_cond_f rfl ?_
    refine do_skip ?_
    refine St.then_n ?_
    refine do_seq ?_
    refine do_seq ?_
    refine do_region ?_
    refine St.sel (P := refM r M D) (by repeat (first | with_reducible exact Sel.head | apply Sel.tail)) (St.ref_open fun A cap => ?_)
    refine run_read rfl (by decide) (fun _ => nofun) (rd_move rfl) ?_
    refine run_read rfl (by decide) (fun _ => nofun) (rd_nilCheck rfl) ?_
    first | refine run_read rfl (by decide) (fun _ => nofun) (rd_fieldAddr0 rfl fld46_0) ?_ | refine run_read rfl (by decide) (fun _ => nofun) (rd_fieldAddr rfl fld46_0) ?_
    refine run_read rfl (by decide) (fun _ => nofun) (rd_load rfl row25 (cells_pts1 (by repeat (first | with_reducible exact Sel.head | apply Sel.tail)) rfl)) ?_
    refine run_read rfl (by decide) (fun _ => nofun) (rd_len Try.underlying25 rfl) ?_
    refine run_read rfl (by decide) (fun _ => nofun) (rd_ge rfl rfl) ?_
    refine run_nil ?_
    refine St.keep (β' := [(0, _), (5, _), (21, _)]) ⟨rfl, rfl, rfl, trivial⟩ ?_
    refine St.then_n ?_
    first | refine do_condp rfl (fun h21 => ?_) (fun h21 => ?_) | refine do_cond rfl (fun h21 => ?_) (fun h21 => ?_)
    · refine do_seq ?_
      refine do_region ?_
      refine run_read rfl (by decide) (fun _ => nofun) (rd_assign rfl) ?_
      refine run_nil ?_
      refine St.then_n ?_
      refine do_ret ?_
      refine St.then_r ?_
      refine do_ret1 Try.results30 (res_tmp rfl) ?_
      intro w hw
      have hw1 : doubleWhy L k = 4 := by unfold doubleWhy; rw [if_pos (by omega), if_pos (by omega)]
      have hw2 : doubleL L k = L := by unfold doubleL; rw [hw1]; rfl
      rw [hw1, hw2]
      exact ⟨M, hI, rfl, (hw.sub (by repeat (first | exact Pick.nil | apply Pick.cons (by repeat (first | with_reducible exact Sel.head | apply Sel.tail))))).ref_close⟩
    · refine do_skip ?_
      refine St.then_n ?_
      refine do_seq ?_
      refine do_draw [[8, 9, 10], [2, 3, 4, 7, 8, 9, 10], [3, 4, 7, 8, 9, 10], [4, 7, 8, 9, 10], [7, 8, 9, 10], [6, 7, 8, 9, 10], [7, 8, 9, 10], [8, 9, 10], [9, 10], [10], []] (by kernel_rfl) rfl ?_
      refine any_take (i := 0) (by kernel_rfl) rfl rfl (by decide) (fun _ _ _ _ _ h => h) rfl (rd_move rfl) ?_
      refine any_take (i := 1) (by kernel_rfl) rfl rfl (by decide) (fun _ _ _ _ _ h => h) rfl (rd_move rfl) ?_
      refine any_take (i := 2) (by kernel_rfl) rfl rfl (by decide) (fun _ _ _ _ _ h => h) rfl (rd_nilCheck rfl) ?_
      first | refine any_take (i := 3) (by kernel_rfl) rfl rfl (by decide) (fun _ _ _ _ _ h => h) rfl (rd_fieldAddr0 rfl fld46_0) ?_ | refine any_take (i := 3) (by kernel_rfl) rfl rfl (by decide) (fun _ _ _ _ _ h => h) rfl (rd_fieldAddr rfl fld46_0) ?_
      refine any_take (i := 4) (by kernel_rfl) rfl rfl (by decide) (fun _ _ _ _ _ h => h) rfl (rd_load rfl row25 (cells_pts1 (by repeat (first | with_reducible exact Sel.head | apply Sel.tail)) rfl)) ?_
      refine any_take (i := 5) (by kernel_rfl) rfl rfl (by decide) (fun _ _ _ _ _ h => h) rfl (rd_load_row (vs := [_, _, _]) rfl row32 rfl (cells_pts (by repeat (first | with_reducible exact Sel.head | apply Sel.tail)) rfl)) ?_
      refine any_run (j := 6) (by kernel_rfl) rfl ?_
      refine run_buildSlice (l := [(Operand.tmp 27)]) rfl (by decide) Try.underlying25 ei32 rfl rfl (by decide) (by decide) (fun b28 => ?_)
      simp only [joinL, cells_agg, cells_int, cells_bcell, cells_bool, cells_string, cells_pointer, cells_slice, cells_map, cells_func, List.cons_append, List.nil_append, List.append_nil]
      refine run_nil ?_
      refine St.then_n ?_
      refine any_next (by apply Beh.drop (i := 5) (by kernel_rfl); (apply Beh.keep (i := 4) (by kernel_rfl) rfl (rd_load rfl row25 (cells_pts1 (by repeat (first | with_reducible exact Sel.head | apply Sel.tail)) rfl))); (first | apply Beh.keep (i := 3) (by kernel_rfl) rfl (rd_fieldAddr0 rfl fld46_0) | apply Beh.keep (i := 3) (by kernel_rfl) rfl (rd_fieldAddr rfl fld46_0)); apply Beh.keep (i := 2) (by kernel_rfl) rfl (rd_nilCheck rfl); apply Beh.keep (i := 1) (by kernel_rfl) rfl (rd_move rfl); apply Beh.keep (i := 0) (by kernel_rfl) rfl (rd_move rfl); exact .nil) ?_
      refine any_run (j := 7) (by kernel_rfl) rfl ?_
      refine run_append_src rfl (by decide) Try.underlying25 ei32 rfl rfl (by repeat (first | with_reducible exact Sel.head | apply Sel.tail)) (src_pts Try.underlying25 (by repeat (first | with_reducible exact Sel.head | apply Sel.tail)) rfl (by decide) rfl) (by simp; omega) (by simp [maxLen]; omega) (fun v2 _ => ?_)
      refine St.vw vw_own .head (fun A2 c2 hv2 h5 h6 _ => ?_)
      subst hv2
      simp only [List.length_cons, List.length_nil, Nat.zero_add]
      refine run_nil ?_
      refine St.then_n ?_
      refine any_next (by apply Beh.drop (i := 4) (by kernel_rfl); apply Beh.drop (i := 3) (by kernel_rfl); apply Beh.drop (i := 2) (by kernel_rfl); apply Beh.drop (i := 1) (by kernel_rfl); apply Beh.keep (i := 0) (by kernel_rfl) rfl (rd_move rfl); exact .nil) ?_
      refine any_take (i := 8) (by kernel_rfl) rfl rfl (by decide) (fun _ _ _ _ _ h => h) rfl (rd_nilCheck rfl) ?_
      first | refine any_take (i := 9) (by kernel_rfl) rfl rfl (by decide) (fun _ _ _ _ _ h => h) rfl (rd_fieldAddr0 rfl fld46_0) ?_ | refine any_take (i := 9) (by kernel_rfl) rfl rfl (by decide) (fun _ _ _ _ _ h => h) rfl (rd_fieldAddr rfl fld46_0) ?_
      refine any_run (j := 10) (by kernel_rfl) rfl ?_
      refine run_store rfl rfl rfl (by repeat (first | with_reducible exact Sel.head | apply Sel.tail)) row25 rfl rfl (by simp only [List.set_cons_succ, List.set_cons_zero]; exact rfl) ?_
      refine run_nil ?_
      refine St.then_n ?_
      refine any_next (by apply Beh.drop (i := 9) (by kernel_rfl); apply Beh.drop (i := 8) (by kernel_rfl); apply Beh.drop (i := 0) (by kernel_rfl); exact .nil) ?_
      refine any_nil (by kernel_rfl) ?_
      refine St.keep (β' := []) trivial ?_
      refine St.then_n ?_
      refine do_seq ?_
      refine do_region ?_
      refine run_read rfl (by decide) (fun _ => nofun) (rd_assign rfl) ?_
      refine run_nil ?_
      refine St.then_n ?_
      refine do_ret ?_
      refine do_ret1 Try.results30 (res_tmp rfl) ?_
      intro w hw
      have hw1 : doubleWhy L k = 0 := by unfold doubleWhy; rw [if_pos (by omega), if_neg (by omega)]
      have hw2 : doubleL L k = L ++ [x.L] := by
        unfold doubleL
        rw [hw1, if_pos rfl, ← hI.eq, List.getD_eq_getElem?_getD, List.getElem?_map, hx]
        rfl
      have hxm := List.mem_of_getElem? hx
      rw [hw1, hw2]
      refine ⟨M ++ [x], ⟨?_, ?_, ?_, ?_⟩, rfl, Holds.ref_close (A := A2) (cap := c2) ?_⟩
      · rw [List.map_append, hI.eq]; rfl
      · intro y hy
        rcases List.mem_append.1 hy with hy | hy
        · exact hI.mem y hy
        · rw [List.mem_singleton] at hy; subst hy; exact hI.mem _ hxm
      · intro y hy
        rcases List.mem_append.1 hy with hy | hy
        · exact hI.len y hy
        · rw [List.mem_singleton] at hy; subst hy; exact hI.len _ hxm
      · rw [List.length_append, List.length_singleton]; omega
      · rw [List.length_append, List.length_singleton, cellsM_app, show cellsM [x] = x.C from rfl]
        exact hw.sub (by repeat (first | exact Pick.nil | apply Pick.cons (by repeat (first | with_reducible exact Sel.head | apply Sel.tail))))
  · have e2 : rwhyK M k = 1 := if_neg hk
    have e4 : rletK M k = ⟨0, 0, none, 0, []⟩ := if_neg hk
    have hw1 : doubleWhy L k = 1 := if_neg (by omega)
    have hw2 : doubleL L k = L := by unfold doubleL; rw [hw1]; rfl
    rw [hw1, hw2]
    refine do_seq ?_
    refine do_region ?_
    refine run_read rfl (by decide) (fun _ => nofun) (rd_assign rfl) ?_
    refine run_nil ?_
    refine St.then_n ?_
    refine do_seq ?_
    refine do_region ?_
    refine run_read rfl (by decide) (fun _ => nofun) (rd_move rfl) ?_
    refine run_read rfl (by decide) (fun _ => nofun) (rd_move rfl) ?_
    refine run_spec rfl (by decide) (by kernel_rfl) rfl (by repeat (first | exact Pick.nil | apply Pick.cons (by repeat (first | with_reducible exact Sel.head | apply Sel.tail)))) (rlook_spec _ k (by omega)) ?_
    rintro ⟨⟩ -
    rw [e2, e4]
    try simp only [List.cons_append, List.nil_append]
    refine run_read rfl (by decide) (fun _ => nofun) (rd_move rfl) ?_
    refine run_read rfl (by decide) (fun _ => nofun) (rd_extract rfl rfl) ?_
    refine run_read rfl (by decide) (fun _ => nofun) (rd_extract rfl rfl) ?_
    refine run_alloc rfl (by decide) zero32 (fun b5 => ?_)
    first | refine run_store_all rfl rfl rfl (by repeat (first | with_reducible exact Sel.head | apply Sel.tail)) row32 rfl rfl rfl ?_ | refine run_store_mid rfl rfl rfl (by repeat (first | with_reducible exact Sel.head | apply Sel.tail)) row32 rfl rfl rfl (by simp only [setL, List.length_cons, List.length_nil, Nat.reduceAdd, List.take_succ_cons, List.take_zero, List.drop_succ_cons, List.drop_zero, List.cons_append, List.nil_append, List.append_nil]; exact rfl) ?_
    refine run_read rfl (by decide) (fun _ => nofun) (rd_assign rfl) ?_
    refine run_nil ?_
    refine St.keep (β' := [(0, _), (5, _), (6, _)]) ⟨rfl, rfl, rfl, trivial⟩ ?_
    refine St.then_n ?_
    refine do_seq ?_
    refine do_seq ?_
    refine do_region ?_
    refine run_read rfl (by decide) (fun _ => nofun) (rd_move rfl) ?_
    refine run_read rfl (by decide) (fun _ => nofun) (rd_ne rfl rfl) ?_
    refine run_nil ?_
    refine St.then_n ?_
    refine do_cond_t rfl ?_
    refine do_seq ?_
    refine do_region ?_
    refine run_read rfl (by decide) (fun _ => nofun) (rd_move rfl) ?_
    refine run_read rfl (by decide) (fun _ => nofun) (rd_assign rfl) ?_
    refine run_nil ?_
    refine St.keep (β' := [(4, _)]) ⟨rfl, trivial⟩ ?_
    refine St.then_n ?_
    refine do_ret ?_
    refine St.then_r ?_
    refine do_ret1 Try.results30 (res_tmp rfl) ?_
    intro w hw
    exact ⟨M, hI, rfl, hw.sub (by repeat (first | exact Pick.nil | apply Pick.cons (by repeat (first | with_reducible exact Sel.head | apply Sel.tail))))⟩
theorem same_spec (F : HP) (f t : Int) (v u : Value) (bs : List UInt8) (hF : VwB F v bs) (hG : VwB F u bs) : Spec Try.prog 12 [.agg #[.int .i64 f, .int .i64 t, v], .agg #[.int .i64 f, .int .i64 t, u]] [] F (fun _ : Unit => True) (fun _ => .bool true) (fun _ => []) := fun ω w hh =>
  (same_yes f t (fun _ => True) (fun _ => True) v u bs w (hF.sl .head hh) (hG.sl .head hh)).mono fun e w' ⟨he, hf⟩ => ⟨(), trivial, he, hh.fr hf⟩
theorem as_spec (F : HP) (f t : Int) (A : Option Addr) (n c : Nat) : Spec Try.prog 13 [.agg #[.int .i64 f, .int .i64 t, .slice A n c]] [] F (fun _ : Unit => True) (fun _ => .agg #[.int .i64 f, .int .i64 t, .slice A n c]) (fun _ => []) :=
  spec_fr fun w => as_any f t A n c w
end
end Go.Proofs.Ytnfmmfodnhmfaaa
