/-
  The auditor is told an answer.
-/
import Derived.Test.YtglcmlicfmmlpaaA6
namespace Go.Proofs.Ytglcmlicfmmlpaa
open Go.RowKit
set_option linter.unusedSimpArgs false
set_option linter.unusedVariables false

theorem rowsAll_set {ω : Amb} {Γ : List HP} {w : World} {L : List One} {i : Nat} {y : One} (hi : i < L.length) (h : Holds ω (rowsAll L :: rq y.v y.rows.length y.rows :: Γ) w) : Holds ω (rowsAll (L.set i y) :: Γ) w := by
  have h1 := (Holds.flat (Γ := L.map fun x => rq x.v x.rows.length x.rows)).1 h
  have e : L.map (fun x => rq x.v x.rows.length x.rows) = (L.take i).map (fun x => rq x.v x.rows.length x.rows) ++ rq L[i].v L[i].rows.length L[i].rows :: (L.drop (i + 1)).map (fun x => rq x.v x.rows.length x.rows) := by
    conv => lhs; rw [← List.take_append_drop i L, List.drop_eq_getElem_cons hi]
    rw [List.map_append, List.map_cons]
  have e2 : (L.set i y).map (fun x => rq x.v x.rows.length x.rows) = (L.take i).map (fun x => rq x.v x.rows.length x.rows) ++ rq y.v y.rows.length y.rows :: (L.drop (i + 1)).map (fun x => rq x.v x.rows.length x.rows) := by
    rw [List.set_eq_take_append_cons_drop, if_pos hi, List.map_append, List.map_cons]
  rw [e] at h1
  refine (Holds.flat (Γ := (L.set i y).map fun x => rq x.v x.rows.length x.rows)).2 ?_
  rw [e2]
  have h2 : Holds ω (rq L[i].v L[i].rows.length L[i].rows :: ((L.take i).map (fun x => rq x.v x.rows.length x.rows) ++ ((L.drop (i + 1)).map (fun x => rq x.v x.rows.length x.rows) ++ rq y.v y.rows.length y.rows :: Γ))) w := h1.perm (by rw [List.append_assoc]; exact List.perm_middle)
  refine h2.drop.perm ?_
  rw [List.append_assoc, List.cons_append]
  exact List.Perm.append_left _ List.perm_middle
theorem St.rowsAll_set {ω : Amb} {m : Nat} {ds : List Deferred} {Γ Γ1 : List HP} {β : List (Nat × Value)} {K : Act → World → Prop} {L : List One} {i : Nat} (y : One) (hi : i < L.length) (h : St ω m ds (rowsAll (L.set i y) :: Γ1) β K)
    (p : Pick [rowsAll L, rq y.v y.rows.length y.rows] Γ Γ1 := by repeat (first | exact Pick.nil | apply Pick.cons (by repeat (first | with_reducible exact Sel.head | apply Sel.tail)))) : St ω m ds Γ β K := fun a w b c =>
  h a w (Go.Proofs.Ytglcmlicfmmlpaa.rowsAll_set hi (Holds.unpick (b.pick p))) c
theorem rowsAll_is {L : List One} {i : Nat} {x : One} (b : Bool) (h : L[i]? = some x) : rowsAll (L.set i { x with is_ := b }) = rowsAll L := by
  unfold rowsAll
  obtain ⟨hi, rfl⟩ := List.getElem?_eq_some_iff.1 h
  congr 1
  rw [List.map_set]
  exact List.ext_getElem (by simp) (fun j h1 h2 => by
    rw [List.getElem_set]
    split
    · rename_i e; subst e; simp
    · rfl)
def toldBad (k : Nat) (n ph : Int) (x : GAsk) (why : Int) : Prop := kindP ph = 0 ∨ x.group < 1 ∨ (k : Int) < x.group ∨ x.cmd.kind ≠ kindP ph ∨ x.cmd.epoch ≠ n ∨ why ≠ 0
instance (k : Nat) (n ph : Int) (x : GAsk) (why : Int) : Decidable (toldBad k n ph x why) := by unfold toldBad; exact inferInstance
def toldOne (o : One) (ph : Int) (rows : List GRow) (q : Option Addr × Nat) : One := if ph = 1 then ⟨true, q.1, q.2, rows⟩ else { o with is_ := true }
def toldS (s : AuS) (n ph : Int) (x : GAsk) (why : Int) (rows : List GRow) (q : Option Addr × Nat) : AuS × Int × Int × Bool :=
  if toldBad s.L.length n ph x why then (knowS s n ph, 0, 0, false) else
    let L2 := (knowS s n ph).L.set (x.group - 1).toNat (toldOne ((knowS s n ph).L.getD (x.group - 1).toNat one0) ph rows q)
    if 0 < leftP L2 then ({ knowS s n ph with L := L2 }, 0, 0, false) else (⟨(knowS s n ph).n, (knowS s n ph).phase, (knowS s n ph).all || decide (ph = 1), L2⟩, if ph = 1 then 4 else 5, n, true)
abbrev ccmd (k n : Int) : Value := .agg #[.int .i64 k, .int .i64 0, .int .i64 0, .int .i64 n, .int .i64 0]
set_option maxRecDepth 4000 in
set_option maxHeartbeats 4000000 in
theorem told_spec (F : HP) (r : Nat) (s : AuS) (n ph : Int) (x : GAsk) (y : GRes) (hs : s.L.length ≤ 3) (hR : VwRows F y.reply) (hy : y.reply.rows.length ≤ 1099511627776) :
    Spec Try.prog 55 [.pointer (some ⟨r, 0, none⟩), .int .i64 n, .int .i64 ph, .agg x.L.toArray, .agg y.L.toArray] [auO r s] F (fun _ : Option Addr × Nat => True)
      (fun q => .tuple #[ccmd (toldS s n ph x y.why y.reply.rows q).2.1 (toldS s n ph x y.why y.reply.rows q).2.2.1, .bool (toldS s n ph x y.why y.reply.rows q).2.2.2]) (fun q => [auO r (toldS s n ph x y.why y.reply.rows q).1]) := by
  intro ω w hh
  refine enter Try.func55 rfl Try.ntmps55 rfl hh ?_
  simp only [List.cons_append, List.nil_append, argsB]
  obtain ⟨xg, ⟨kind, ⟨okind, osrc, odst, oamt, okey, oslot, oshard⟩, id, name, nn, why, slot, epoch, at_, last, A, c, data⟩⟩ := x
  obtain ⟨ywhy, ywait, ⟨pwhy, pamt, pA, pc, prows⟩, rA, rK, rdata⟩ := y
  dsimp only at hR hy
  simp only [GAsk.L, GCmd.L, GCmd.v, GRes.L, GRes.v, GReply.v]
  have hR2 : Vw F (.slice pA prows.length pc) 2 prows.length (prows.flatMap rowC) := hR
  obtain ⟨bad, hbad⟩ : ∃ bad : Bool, (bad = true ↔ toldBad s.L.length n ph ⟨xg, ⟨kind, ⟨okind, osrc, odst, oamt, okey, oslot, oshard⟩, id, name, nn, why, slot, epoch, at_, last, A, c, data⟩⟩ ywhy) := ⟨decide _, decide_eq_true_iff⟩
  have hkl := knowS_len s n ph
  have hT : ∀ q, bad = true → toldS s n ph ⟨xg, ⟨kind, ⟨okind, osrc, odst, oamt, okey, oslot, oshard⟩, id, name, nn, why, slot, epoch, at_, last, A, c, data⟩⟩ ywhy prows q = (knowS s n ph, 0, 0, false) := fun q h => by unfold toldS; rw [if_pos (hbad.1 h)]
  have hF : ∀ q, bad = false → toldS s n ph ⟨xg, ⟨kind, ⟨okind, osrc, odst, oamt, okey, oslot, oshard⟩, id, name, nn, why, slot, epoch, at_, last, A, c, data⟩⟩ ywhy prows q = (if 0 < leftP ((knowS s n ph).L.set (xg - 1).toNat (toldOne ((knowS s n ph).L.getD (xg - 1).toNat one0) ph prows q)) then ({ knowS s n ph with L := (knowS s n ph).L.set (xg - 1).toNat (toldOne ((knowS s n ph).L.getD (xg - 1).toNat one0) ph prows q) }, 0, 0, false) else (⟨(knowS s n ph).n, (knowS s n ph).phase, (knowS s n ph).all || decide (ph = 1), (knowS s n ph).L.set (xg - 1).toNat (toldOne ((knowS s n ph).L.getD (xg - 1).toNat one0) ph prows q)⟩, if ph = 1 then 4 else 5, n, true)) := fun q h => by unfold toldS; rw [if_neg (fun hh => by have := hbad.2 hh; rw [h] at this; cases this)]
  unfold toldBad at hbad
  dsimp only at hbad
  obtain ⟨kk, hkk⟩ : ∃ kk, kindP ph = kk := ⟨_, rfl⟩
  rw [hkk] at hbad
  obtain ⟨s1, hs1⟩ : ∃ s1, knowS s n ph = s1 := ⟨_, rfl⟩
  rw [hs1] at hkl hT hF
  obtain ⟨sn, sp, sa, L⟩ := s1
  dsimp only at hkl hT hF
  rw [← hkl] at hbad
  have hL3 : L.length ≤ 3 := by omega
  by_cases hph : ph = 1
  · skip
    refine sr ?_
    refine r_bx fun b8 => ?_
    refine r_bx fun b9 => ?_
    refine r_al zero79 fun b10 => ?_
    refine rr (rd_assign rfl) ?_
    refine nx ?_
    refine do_seq ?_
    refine sr ?_
    refine rr (rd_move rfl) ?_
    refine rr (rd_ptr_eq_nil Try.underlying111 rfl rfl) ?_
    refine run_nil ?_
    refine St.kp [(0, _), (1, _), (2, _), (8, _), (9, _), (10, _), (16, _)] ?_
    refine St.then_n ?_
    refine do_cond_f rfl ?_
    refine do_skip ?_
    refine St.then_n ?_
    refine sr ?_
    refine rr (rd_move rfl) ?_
    refine rr (rd_move rfl) ?_
    refine rr (rd_move rfl) ?_
    refine rc (hs := know_spec _ r s n ph hs) (k := ?_)
    rintro ⟨⟩ -
    rw [hs1]
    try simp only [List.cons_append, List.nil_append]
    refine run_nil ?_
    refine St.kp [(0, _), (1, _), (2, _), (8, _), (9, _), (10, _)] ?_
    refine St.then_n ?_
    refine do_seq ?_
    refine sr ?_
    refine rr (rd_move rfl) ?_
    refine rc (hs := kind_spec _ ph) (k := ?_)
    rintro ⟨⟩ -
    rw [hkk]
    try simp only [List.cons_append, List.nil_append]
    refine rr (rd_assign rfl) ?_
    refine nx ?_
    refine do_seq ?_
    refine St.sl (P := auO r ⟨sn, sp, sa, L⟩) (St.au_open fun g N hN => ?_)
    dsimp only at hN ⊢
    refine do_cut (fun z : Bool => z = bad) (fun z => [(0, .pointer (some ⟨r, 0, none⟩)), (1, .int .i64 n), (2, .int .i64 ph), (8, .pointer (some ⟨b8, 0, none⟩)), (9, .pointer (some ⟨b9, 0, none⟩)), (10, .pointer (some ⟨b10, 0, none⟩)), (59, .bool z)]) (fun _ => [pts r 162 [.int .i64 sn, .int .i64 sp, .bool sa, .slice (some ⟨g, 0, none⟩) N N], ownQ oneC 170 2 (.slice (some ⟨g, 0, none⟩) N N) N L, rowsAll L, pts b8 49 [.int .i64 xg, .int .i64 kind, .int .i64 okind, .string (strOf osrc), .string (strOf odst), .int .i64 oamt, .string (strOf okey), .int .i64 oslot, .int .i64 oshard, .string (strOf id), .string (strOf name), .int .i64 nn, .int .i64 why, .int .i64 slot, .int .i64 epoch, .int .i64 at_, .bool last, .slice A data.length c], pts b9 53 [.int .i64 ywhy, .bool ywait, .int .i64 pwhy, .int .i64 pamt, .slice pA prows.length pc, .slice rA rdata.length rK], pts b10 79 [.int .i64 0, .int .i64 0, .int .i64 0, .int .i64 0, .int .i64 0], F]) (fun K hK => ?_) ?_
    · rcases (show kk = 0 ∨ (kk ≠ 0 ∧ xg < 1) ∨ (kk ≠ 0 ∧ 1 ≤ xg ∧ (L.length : Int) < xg) ∨ (kk ≠ 0 ∧ 1 ≤ xg ∧ xg ≤ L.length ∧ kind ≠ kk) ∨ (kk ≠ 0 ∧ 1 ≤ xg ∧ xg ≤ L.length ∧ kind = kk ∧ epoch ≠ n) ∨ (kk ≠ 0 ∧ 1 ≤ xg ∧ xg ≤ L.length ∧ kind = kk ∧ epoch = n ∧ ywhy ≠ 0) ∨ (kk ≠ 0 ∧ 1 ≤ xg ∧ xg ≤ L.length ∧ kind = kk ∧ epoch = n ∧ ywhy = 0) by omega) with hA | hA | hA | hA | hA | hA | hA
      · refine do_draw [[1, 2, 3, 4, 5, 6, 7, 8, 9, 10, 11, 12, 13, 14, 15, 16, 17, 18, 19, 20, 21, 22, 23, 24, 25, 26, 27, 28, 29, 30, 31, 32, 33, 34, 35], [2, 3, 4, 5, 6, 7, 8, 9, 10, 11, 12, 13, 14, 15, 16, 17, 18, 19, 20, 21, 22, 23, 24, 25, 26, 27, 28, 29, 30, 31, 32, 33, 34, 35], [3, 4, 5, 6, 7, 8, 9, 10, 11, 12, 13, 14, 15, 16, 17, 18, 19, 20, 21, 22, 23, 24, 25, 26, 27, 28, 29, 30, 31, 32, 33, 34, 35], [4, 5, 6, 7, 8, 9, 10, 11, 12, 13, 14, 15, 16, 17, 18, 19, 20, 21, 22, 23, 24, 25, 26, 27, 28, 29, 30, 31, 32, 33, 34, 35], [5, 6, 7, 8, 9, 10, 11, 12, 13, 14, 15, 16, 17, 18, 19, 20, 21, 22, 23, 24, 25, 26, 27, 28, 29, 30, 31, 32, 33, 34, 35], [6, 7, 8, 9, 10, 11, 12, 13, 14, 15, 16, 17, 18, 19, 20, 21, 22, 23, 24, 25, 26, 27, 28, 29, 30, 31, 32, 33, 34, 35], [7, 8, 9, 10, 11, 12, 13, 14, 15, 16, 17, 18, 19, 20, 21, 22, 23, 24, 25, 26, 27, 28, 29, 30, 31, 32, 33, 34, 35], [8, 9, 10, 11, 12, 13, 14, 15, 16, 17, 18, 19, 20, 21, 22, 23, 24, 25, 26, 27, 28, 29, 30, 31, 32, 33, 34, 35], [9, 15, 16, 17, 18, 19, 20, 21, 22, 23, 24, 25, 26, 27, 28, 29, 30, 31, 32, 33, 34, 35], [15, 16, 17, 18, 19, 20, 21, 22, 23, 24, 25, 26, 27, 28, 29, 30, 31, 32, 33, 34, 35], [11, 12, 13, 14, 15, 16, 17, 18, 19, 20, 21, 22, 23, 24, 25, 26, 27, 28, 29, 30, 31, 32, 33, 34, 35], [12, 13, 14, 15, 16, 17, 18, 19, 20, 21, 22, 23, 24, 25, 26, 27, 28, 29, 30, 31, 32, 33, 34, 35], [13, 14, 15, 16, 17, 18, 19, 20, 21, 22, 23, 24, 25, 26, 27, 28, 29, 30, 31, 32, 33, 34, 35], [14, 15, 16, 17, 18, 19, 20, 21, 22, 23, 24, 25, 26, 27, 28, 29, 30, 31, 32, 33, 34, 35], [15, 16, 17, 18, 19, 20, 21, 22, 23, 24, 25, 26, 27, 28, 29, 30, 31, 32, 33, 34, 35], [16, 17, 18, 19, 20, 21, 22, 23, 24, 25, 26, 27, 28, 29, 30, 31, 32, 33, 34, 35], [17, 18, 19, 20, 21, 22, 23, 24, 25, 26, 27, 28, 29, 30, 31, 32, 33, 34, 35], [18, 19, 20, 21, 22, 23, 24, 25, 26, 27, 28, 29, 30, 31, 32, 33, 34, 35], [19, 20, 22, 23, 24, 25, 26, 27, 28, 29, 30, 31, 32, 33, 34, 35], [20, 22, 23, 24, 25, 26, 27, 28, 29, 30, 31, 32, 33, 34, 35], [22, 23, 24, 25, 26, 27, 28, 29, 30, 31, 32, 33, 34, 35], [22, 23, 24, 25, 26, 27, 28, 29, 30, 31, 32, 33, 34, 35], [23, 24, 25, 26, 27, 28, 29, 30, 31, 32, 33, 34, 35], [24, 25, 26, 27, 28, 29, 30, 31, 32, 33, 34, 35], [25, 26, 27, 28, 29, 30, 31, 32, 33, 34, 35], [26, 27, 29, 30, 31, 32, 33, 34, 35], [27, 29, 30, 31, 32, 33, 34, 35], [29, 30, 31, 32, 33, 34, 35], [29, 30, 31, 32, 33, 34, 35], [30, 31, 32, 33, 34, 35], [31, 32, 33, 34, 35], [32, 33, 34, 35], [33, 34, 35], [34, 35], [35], []] (by kernel_rfl) rfl ?_
        refine ta 0 rfl (rd_move rfl) ?_
        first | refine ta 1 rfl ((rd_eq rfl rfl).eq (congrArg Value.bool (decide_eq_true (by omega)))) ?_ | refine ta 1 rfl ((rd_eq rfl rfl).eq (congrArg Value.bool (decide_eq_false (by omega)))) ?_
        refine ta 2 rfl (rd_move rfl) ?_
        first | refine ts 3 ?_ | refine ta 3 rfl (rd_fa rfl fld49_0) ?_
        first | refine ts 4 ?_ | refine ta 4 rfl (rd_ld rfl row3) ?_
        first | refine ts 5 ?_ | refine ta 5 rfl ((rd_lt rfl rfl).eq (congrArg Value.bool (decide_eq_true (by omega)))) ?_ | refine ta 5 rfl ((rd_lt rfl rfl).eq (congrArg Value.bool (decide_eq_false (by omega)))) ?_
        refine ta 6 rfl (rd_pick rfl rfl) ?_
        refine ta 7 rfl (rd_move rfl) ?_
        first | refine ts 8 ?_ | refine ta 8 rfl (rd_fa rfl fld49_0) ?_
        first | refine ts 9 ?_ | refine ta 9 rfl (rd_ld rfl row3) ?_
        first | refine ts 10 ?_ | refine ta 10 rfl (rd_move rfl) ?_
        first | refine ts 11 ?_ | refine ta 11 rfl (rd_nilCheck rfl) ?_
        first | refine ts 12 ?_ | refine ta 12 rfl (rd_fa rfl fld162_3) ?_
        first | refine ts 13 ?_ | refine ta 13 rfl (rd_ld rfl row160) ?_
        first | refine ts 14 ?_ | refine ta 14 rfl (rd_len Try.underlying160 rfl) ?_
        first | refine ts 15 ?_ | refine ta 15 rfl ((rd_gt rfl rfl).eq (congrArg Value.bool (decide_eq_true (by omega)))) ?_ | refine ta 15 rfl ((rd_gt rfl rfl).eq (congrArg Value.bool (decide_eq_false (by omega)))) ?_
        refine ta 16 rfl (rd_pick rfl rfl) ?_
        refine ta 17 rfl (rd_move rfl) ?_
        first | refine ts 18 ?_ | refine ta 18 rfl (rd_fa rfl fld49_1) ?_
        first | refine ts 19 ?_ | refine ta 19 rfl (rd_fa rfl fld47_0) ?_
        first | refine ts 20 ?_ | refine ta 20 rfl (rd_ld rfl row3) ?_
        first | refine ts 21 ?_ | refine ta 21 rfl (rd_move rfl) ?_
        first | refine ts 22 ?_ | refine ta 22 rfl ((rd_ne rfl rfl).eq (congrArg Value.bool (decide_eq_true (by omega)))) ?_ | refine ta 22 rfl ((rd_ne rfl rfl).eq (congrArg Value.bool (decide_eq_false (by omega)))) ?_
        refine ta 23 rfl (rd_pick rfl rfl) ?_
        refine ta 24 rfl (rd_move rfl) ?_
        first | refine ts 25 ?_ | refine ta 25 rfl (rd_fa rfl fld49_1) ?_
        first | refine ts 26 ?_ | refine ta 26 rfl (rd_fa rfl fld47_7) ?_
        first | refine ts 27 ?_ | refine ta 27 rfl (rd_ld rfl row2) ?_
        first | refine ts 28 ?_ | refine ta 28 rfl (rd_move rfl) ?_
        first | refine ts 29 ?_ | refine ta 29 rfl ((rd_ne rfl rfl).eq (congrArg Value.bool (decide_eq_true (by omega)))) ?_ | refine ta 29 rfl ((rd_ne rfl rfl).eq (congrArg Value.bool (decide_eq_false (by omega)))) ?_
        refine ta 30 rfl (rd_pick rfl rfl) ?_
        refine ta 31 rfl (rd_move rfl) ?_
        first | refine ts 32 ?_ | refine ta 32 rfl (rd_fa rfl fld53_0) ?_
        first | refine ts 33 ?_ | refine ta 33 rfl (rd_ld rfl row25) ?_
        first | refine ts 34 ?_ | refine ta 34 rfl ((rd_ne rfl rfl).eq (congrArg Value.bool (decide_eq_true (by omega)))) ?_ | refine ta 34 rfl ((rd_ne rfl rfl).eq (congrArg Value.bool (decide_eq_false (by omega)))) ?_
        refine ta 35 rfl (rd_pick rfl rfl) ?_
        refine any_nil (by kernel_rfl) ?_
        refine St.then_n ?_
        exact St.sb (St.kq [(0, _), (1, _), (2, _), (8, _), (9, _), (10, _), (59, _)] (h := hK _ (by first | exact (hbad.2 (by omega)).symm | exact (Bool.eq_false_iff.2 (fun hh => absurd (hbad.1 hh) (by omega))).symm)))
      · refine do_draw [[1, 2, 3, 4, 5, 6, 7, 8, 9, 10, 11, 12, 13, 14, 15, 16, 17, 18, 19, 20, 21, 22, 23, 24, 25, 26, 27, 28, 29, 30, 31, 32, 33, 34, 35], [2, 3, 4, 5, 6, 7, 8, 9, 10, 11, 12, 13, 14, 15, 16, 17, 18, 19, 20, 21, 22, 23, 24, 25, 26, 27, 28, 29, 30, 31, 32, 33, 34, 35], [3, 4, 5, 6, 7, 8, 9, 10, 11, 12, 13, 14, 15, 16, 17, 18, 19, 20, 21, 22, 23, 24, 25, 26, 27, 28, 29, 30, 31, 32, 33, 34, 35], [4, 5, 6, 7, 8, 9, 10, 11, 12, 13, 14, 15, 16, 17, 18, 19, 20, 21, 22, 23, 24, 25, 26, 27, 28, 29, 30, 31, 32, 33, 34, 35], [5, 6, 7, 8, 9, 10, 11, 12, 13, 14, 15, 16, 17, 18, 19, 20, 21, 22, 23, 24, 25, 26, 27, 28, 29, 30, 31, 32, 33, 34, 35], [6, 7, 8, 9, 10, 11, 12, 13, 14, 15, 16, 17, 18, 19, 20, 21, 22, 23, 24, 25, 26, 27, 28, 29, 30, 31, 32, 33, 34, 35], [7, 8, 9, 10, 11, 12, 13, 14, 15, 16, 17, 18, 19, 20, 21, 22, 23, 24, 25, 26, 27, 28, 29, 30, 31, 32, 33, 34, 35], [8, 9, 10, 11, 12, 13, 14, 15, 16, 17, 18, 19, 20, 21, 22, 23, 24, 25, 26, 27, 28, 29, 30, 31, 32, 33, 34, 35], [9, 15, 16, 17, 18, 19, 20, 21, 22, 23, 24, 25, 26, 27, 28, 29, 30, 31, 32, 33, 34, 35], [15, 16, 17, 18, 19, 20, 21, 22, 23, 24, 25, 26, 27, 28, 29, 30, 31, 32, 33, 34, 35], [11, 12, 13, 14, 15, 16, 17, 18, 19, 20, 21, 22, 23, 24, 25, 26, 27, 28, 29, 30, 31, 32, 33, 34, 35], [12, 13, 14, 15, 16, 17, 18, 19, 20, 21, 22, 23, 24, 25, 26, 27, 28, 29, 30, 31, 32, 33, 34, 35], [13, 14, 15, 16, 17, 18, 19, 20, 21, 22, 23, 24, 25, 26, 27, 28, 29, 30, 31, 32, 33, 34, 35], [14, 15, 16, 17, 18, 19, 20, 21, 22, 23, 24, 25, 26, 27, 28, 29, 30, 31, 32, 33, 34, 35], [15, 16, 17, 18, 19, 20, 21, 22, 23, 24, 25, 26, 27, 28, 29, 30, 31, 32, 33, 34, 35], [16, 17, 18, 19, 20, 21, 22, 23, 24, 25, 26, 27, 28, 29, 30, 31, 32, 33, 34, 35], [17, 18, 19, 20, 21, 22, 23, 24, 25, 26, 27, 28, 29, 30, 31, 32, 33, 34, 35], [18, 19, 20, 21, 22, 23, 24, 25, 26, 27, 28, 29, 30, 31, 32, 33, 34, 35], [19, 20, 22, 23, 24, 25, 26, 27, 28, 29, 30, 31, 32, 33, 34, 35], [20, 22, 23, 24, 25, 26, 27, 28, 29, 30, 31, 32, 33, 34, 35], [22, 23, 24, 25, 26, 27, 28, 29, 30, 31, 32, 33, 34, 35], [22, 23, 24, 25, 26, 27, 28, 29, 30, 31, 32, 33, 34, 35], [23, 24, 25, 26, 27, 28, 29, 30, 31, 32, 33, 34, 35], [24, 25, 26, 27, 28, 29, 30, 31, 32, 33, 34, 35], [25, 26, 27, 28, 29, 30, 31, 32, 33, 34, 35], [26, 27, 29, 30, 31, 32, 33, 34, 35], [27, 29, 30, 31, 32, 33, 34, 35], [29, 30, 31, 32, 33, 34, 35], [29, 30, 31, 32, 33, 34, 35], [30, 31, 32, 33, 34, 35], [31, 32, 33, 34, 35], [32, 33, 34, 35], [33, 34, 35], [34, 35], [35], []] (by kernel_rfl) rfl ?_
        refine ta 0 rfl (rd_move rfl) ?_
        first | refine ta 1 rfl ((rd_eq rfl rfl).eq (congrArg Value.bool (decide_eq_true (by omega)))) ?_ | refine ta 1 rfl ((rd_eq rfl rfl).eq (congrArg Value.bool (decide_eq_false (by omega)))) ?_
        refine ta 2 rfl (rd_move rfl) ?_
        first | refine ts 3 ?_ | refine ta 3 rfl (rd_fa rfl fld49_0) ?_
        first | refine ts 4 ?_ | refine ta 4 rfl (rd_ld rfl row3) ?_
        first | refine ts 5 ?_ | refine ta 5 rfl ((rd_lt rfl rfl).eq (congrArg Value.bool (decide_eq_true (by omega)))) ?_ | refine ta 5 rfl ((rd_lt rfl rfl).eq (congrArg Value.bool (decide_eq_false (by omega)))) ?_
        refine ta 6 rfl (rd_pick rfl rfl) ?_
        refine ta 7 rfl (rd_move rfl) ?_
        first | refine ts 8 ?_ | refine ta 8 rfl (rd_fa rfl fld49_0) ?_
        first | refine ts 9 ?_ | refine ta 9 rfl (rd_ld rfl row3) ?_
        first | refine ts 10 ?_ | refine ta 10 rfl (rd_move rfl) ?_
        first | refine ts 11 ?_ | refine ta 11 rfl (rd_nilCheck rfl) ?_
        first | refine ts 12 ?_ | refine ta 12 rfl (rd_fa rfl fld162_3) ?_
        first | refine ts 13 ?_ | refine ta 13 rfl (rd_ld rfl row160) ?_
        first | refine ts 14 ?_ | refine ta 14 rfl (rd_len Try.underlying160 rfl) ?_
        first | refine ts 15 ?_ | refine ta 15 rfl ((rd_gt rfl rfl).eq (congrArg Value.bool (decide_eq_true (by omega)))) ?_ | refine ta 15 rfl ((rd_gt rfl rfl).eq (congrArg Value.bool (decide_eq_false (by omega)))) ?_
        refine ta 16 rfl (rd_pick rfl rfl) ?_
        refine ta 17 rfl (rd_move rfl) ?_
        first | refine ts 18 ?_ | refine ta 18 rfl (rd_fa rfl fld49_1) ?_
        first | refine ts 19 ?_ | refine ta 19 rfl (rd_fa rfl fld47_0) ?_
        first | refine ts 20 ?_ | refine ta 20 rfl (rd_ld rfl row3) ?_
        first | refine ts 21 ?_ | refine ta 21 rfl (rd_move rfl) ?_
        first | refine ts 22 ?_ | refine ta 22 rfl ((rd_ne rfl rfl).eq (congrArg Value.bool (decide_eq_true (by omega)))) ?_ | refine ta 22 rfl ((rd_ne rfl rfl).eq (congrArg Value.bool (decide_eq_false (by omega)))) ?_
        refine ta 23 rfl (rd_pick rfl rfl) ?_
        refine ta 24 rfl (rd_move rfl) ?_
        first | refine ts 25 ?_ | refine ta 25 rfl (rd_fa rfl fld49_1) ?_
        first | refine ts 26 ?_ | refine ta 26 rfl (rd_fa rfl fld47_7) ?_
        first | refine ts 27 ?_ | refine ta 27 rfl (rd_ld rfl row2) ?_
        first | refine ts 28 ?_ | refine ta 28 rfl (rd_move rfl) ?_
        first | refine ts 29 ?_ | refine ta 29 rfl ((rd_ne rfl rfl).eq (congrArg Value.bool (decide_eq_true (by omega)))) ?_ | refine ta 29 rfl ((rd_ne rfl rfl).eq (congrArg Value.bool (decide_eq_false (by omega)))) ?_
        refine ta 30 rfl (rd_pick rfl rfl) ?_
        refine ta 31 rfl (rd_move rfl) ?_
        first | refine ts 32 ?_ | refine ta 32 rfl (rd_fa rfl fld53_0) ?_
        first | refine ts 33 ?_ | refine ta 33 rfl (rd_ld rfl row25) ?_
        first | refine ts 34 ?_ | refine ta 34 rfl ((rd_ne rfl rfl).eq (congrArg Value.bool (decide_eq_true (by omega)))) ?_ | refine ta 34 rfl ((rd_ne rfl rfl).eq (congrArg Value.bool (decide_eq_false (by omega)))) ?_
        refine ta 35 rfl (rd_pick rfl rfl) ?_
        refine any_nil (by kernel_rfl) ?_
        refine St.then_n ?_
        exact St.sb (St.kq [(0, _), (1, _), (2, _), (8, _), (9, _), (10, _), (59, _)] (h := hK _ (by first | exact (hbad.2 (by omega)).symm | exact (Bool.eq_false_iff.2 (fun hh => absurd (hbad.1 hh) (by omega))).symm)))
      · refine do_draw [[1, 2, 3, 4, 5, 6, 7, 8, 9, 10, 11, 12, 13, 14, 15, 16, 17, 18, 19, 20, 21, 22, 23, 24, 25, 26, 27, 28, 29, 30, 31, 32, 33, 34, 35], [2, 3, 4, 5, 6, 7, 8, 9, 10, 11, 12, 13, 14, 15, 16, 17, 18, 19, 20, 21, 22, 23, 24, 25, 26, 27, 28, 29, 30, 31, 32, 33, 34, 35], [3, 4, 5, 6, 7, 8, 9, 10, 11, 12, 13, 14, 15, 16, 17, 18, 19, 20, 21, 22, 23, 24, 25, 26, 27, 28, 29, 30, 31, 32, 33, 34, 35], [4, 5, 6, 7, 8, 9, 10, 11, 12, 13, 14, 15, 16, 17, 18, 19, 20, 21, 22, 23, 24, 25, 26, 27, 28, 29, 30, 31, 32, 33, 34, 35], [5, 6, 7, 8, 9, 10, 11, 12, 13, 14, 15, 16, 17, 18, 19, 20, 21, 22, 23, 24, 25, 26, 27, 28, 29, 30, 31, 32, 33, 34, 35], [6, 7, 8, 9, 10, 11, 12, 13, 14, 15, 16, 17, 18, 19, 20, 21, 22, 23, 24, 25, 26, 27, 28, 29, 30, 31, 32, 33, 34, 35], [7, 8, 9, 10, 11, 12, 13, 14, 15, 16, 17, 18, 19, 20, 21, 22, 23, 24, 25, 26, 27, 28, 29, 30, 31, 32, 33, 34, 35], [8, 9, 10, 11, 12, 13, 14, 15, 16, 17, 18, 19, 20, 21, 22, 23, 24, 25, 26, 27, 28, 29, 30, 31, 32, 33, 34, 35], [9, 15, 16, 17, 18, 19, 20, 21, 22, 23, 24, 25, 26, 27, 28, 29, 30, 31, 32, 33, 34, 35], [15, 16, 17, 18, 19, 20, 21, 22, 23, 24, 25, 26, 27, 28, 29, 30, 31, 32, 33, 34, 35], [11, 12, 13, 14, 15, 16, 17, 18, 19, 20, 21, 22, 23, 24, 25, 26, 27, 28, 29, 30, 31, 32, 33, 34, 35], [12, 13, 14, 15, 16, 17, 18, 19, 20, 21, 22, 23, 24, 25, 26, 27, 28, 29, 30, 31, 32, 33, 34, 35], [13, 14, 15, 16, 17, 18, 19, 20, 21, 22, 23, 24, 25, 26, 27, 28, 29, 30, 31, 32, 33, 34, 35], [14, 15, 16, 17, 18, 19, 20, 21, 22, 23, 24, 25, 26, 27, 28, 29, 30, 31, 32, 33, 34, 35], [15, 16, 17, 18, 19, 20, 21, 22, 23, 24, 25, 26, 27, 28, 29, 30, 31, 32, 33, 34, 35], [16, 17, 18, 19, 20, 21, 22, 23, 24, 25, 26, 27, 28, 29, 30, 31, 32, 33, 34, 35], [17, 18, 19, 20, 21, 22, 23, 24, 25, 26, 27, 28, 29, 30, 31, 32, 33, 34, 35], [18, 19, 20, 21, 22, 23, 24, 25, 26, 27, 28, 29, 30, 31, 32, 33, 34, 35], [19, 20, 22, 23, 24, 25, 26, 27, 28, 29, 30, 31, 32, 33, 34, 35], [20, 22, 23, 24, 25, 26, 27, 28, 29, 30, 31, 32, 33, 34, 35], [22, 23, 24, 25, 26, 27, 28, 29, 30, 31, 32, 33, 34, 35], [22, 23, 24, 25, 26, 27, 28, 29, 30, 31, 32, 33, 34, 35], [23, 24, 25, 26, 27, 28, 29, 30, 31, 32, 33, 34, 35], [24, 25, 26, 27, 28, 29, 30, 31, 32, 33, 34, 35], [25, 26, 27, 28, 29, 30, 31, 32, 33, 34, 35], [26, 27, 29, 30, 31, 32, 33, 34, 35], [27, 29, 30, 31, 32, 33, 34, 35], [29, 30, 31, 32, 33, 34, 35], [29, 30, 31, 32, 33, 34, 35], [30, 31, 32, 33, 34, 35], [31, 32, 33, 34, 35], [32, 33, 34, 35], [33, 34, 35], [34, 35], [35], []] (by kernel_rfl) rfl ?_
        refine ta 0 rfl (rd_move rfl) ?_
        first | refine ta 1 rfl ((rd_eq rfl rfl).eq (congrArg Value.bool (decide_eq_true (by omega)))) ?_ | refine ta 1 rfl ((rd_eq rfl rfl).eq (congrArg Value.bool (decide_eq_false (by omega)))) ?_
        refine ta 2 rfl (rd_move rfl) ?_
        first | refine ts 3 ?_ | refine ta 3 rfl (rd_fa rfl fld49_0) ?_
        first | refine ts 4 ?_ | refine ta 4 rfl (rd_ld rfl row3) ?_
        first | refine ts 5 ?_ | refine ta 5 rfl ((rd_lt rfl rfl).eq (congrArg Value.bool (decide_eq_true (by omega)))) ?_ | refine ta 5 rfl ((rd_lt rfl rfl).eq (congrArg Value.bool (decide_eq_false (by omega)))) ?_
        refine ta 6 rfl (rd_pick rfl rfl) ?_
        refine ta 7 rfl (rd_move rfl) ?_
        first | refine ts 8 ?_ | refine ta 8 rfl (rd_fa rfl fld49_0) ?_
        first | refine ts 9 ?_ | refine ta 9 rfl (rd_ld rfl row3) ?_
        first | refine ts 10 ?_ | refine ta 10 rfl (rd_move rfl) ?_
        first | refine ts 11 ?_ | refine ta 11 rfl (rd_nilCheck rfl) ?_
        first | refine ts 12 ?_ | refine ta 12 rfl (rd_fa rfl fld162_3) ?_
        first | refine ts 13 ?_ | refine ta 13 rfl (rd_ld rfl row160) ?_
        first | refine ts 14 ?_ | refine ta 14 rfl (rd_len Try.underlying160 rfl) ?_
        first | refine ts 15 ?_ | refine ta 15 rfl ((rd_gt rfl rfl).eq (congrArg Value.bool (decide_eq_true (by omega)))) ?_ | refine ta 15 rfl ((rd_gt rfl rfl).eq (congrArg Value.bool (decide_eq_false (by omega)))) ?_
        refine ta 16 rfl (rd_pick rfl rfl) ?_
        refine ta 17 rfl (rd_move rfl) ?_
        first | refine ts 18 ?_ | refine ta 18 rfl (rd_fa rfl fld49_1) ?_
        first | refine ts 19 ?_ | refine ta 19 rfl (rd_fa rfl fld47_0) ?_
        first | refine ts 20 ?_ | refine ta 20 rfl (rd_ld rfl row3) ?_
        first | refine ts 21 ?_ | refine ta 21 rfl (rd_move rfl) ?_
        first | refine ts 22 ?_ | refine ta 22 rfl ((rd_ne rfl rfl).eq (congrArg Value.bool (decide_eq_true (by omega)))) ?_ | refine ta 22 rfl ((rd_ne rfl rfl).eq (congrArg Value.bool (decide_eq_false (by omega)))) ?_
        refine ta 23 rfl (rd_pick rfl rfl) ?_
        refine ta 24 rfl (rd_move rfl) ?_
        first | refine ts 25 ?_ | refine ta 25 rfl (rd_fa rfl fld49_1) ?_
        first | refine ts 26 ?_ | refine ta 26 rfl (rd_fa rfl fld47_7) ?_
        first | refine ts 27 ?_ | refine ta 27 rfl (rd_ld rfl row2) ?_
        first | refine ts 28 ?_ | refine ta 28 rfl (rd_move rfl) ?_
        first | refine ts 29 ?_ | refine ta 29 rfl ((rd_ne rfl rfl).eq (congrArg Value.bool (decide_eq_true (by omega)))) ?_ | refine ta 29 rfl ((rd_ne rfl rfl).eq (congrArg Value.bool (decide_eq_false (by omega)))) ?_
        refine ta 30 rfl (rd_pick rfl rfl) ?_
        refine ta 31 rfl (rd_move rfl) ?_
        first | refine ts 32 ?_ | refine ta 32 rfl (rd_fa rfl fld53_0) ?_
        first | refine ts 33 ?_ | refine ta 33 rfl (rd_ld rfl row25) ?_
        first | refine ts 34 ?_ | refine ta 34 rfl ((rd_ne rfl rfl).eq (congrArg Value.bool (decide_eq_true (by omega)))) ?_ | refine ta 34 rfl ((rd_ne rfl rfl).eq (congrArg Value.bool (decide_eq_false (by omega)))) ?_
        refine ta 35 rfl (rd_pick rfl rfl) ?_
        refine any_nil (by kernel_rfl) ?_
        refine St.then_n ?_
        exact St.sb (St.kq [(0, _), (1, _), (2, _), (8, _), (9, _), (10, _), (59, _)] (h := hK _ (by first | exact (hbad.2 (by omega)).symm | exact (Bool.eq_false_iff.2 (fun hh => absurd (hbad.1 hh) (by omega))).symm)))
      · refine do_draw [[1, 2, 3, 4, 5, 6, 7, 8, 9, 10, 11, 12, 13, 14, 15, 16, 17, 18, 19, 20, 21, 22, 23, 24, 25, 26, 27, 28, 29, 30, 31, 32, 33, 34, 35], [2, 3, 4, 5, 6, 7, 8, 9, 10, 11, 12, 13, 14, 15, 16, 17, 18, 19, 20, 21, 22, 23, 24, 25, 26, 27, 28, 29, 30, 31, 32, 33, 34, 35], [3, 4, 5, 6, 7, 8, 9, 10, 11, 12, 13, 14, 15, 16, 17, 18, 19, 20, 21, 22, 23, 24, 25, 26, 27, 28, 29, 30, 31, 32, 33, 34, 35], [4, 5, 6, 7, 8, 9, 10, 11, 12, 13, 14, 15, 16, 17, 18, 19, 20, 21, 22, 23, 24, 25, 26, 27, 28, 29, 30, 31, 32, 33, 34, 35], [5, 6, 7, 8, 9, 10, 11, 12, 13, 14, 15, 16, 17, 18, 19, 20, 21, 22, 23, 24, 25, 26, 27, 28, 29, 30, 31, 32, 33, 34, 35], [6, 7, 8, 9, 10, 11, 12, 13, 14, 15, 16, 17, 18, 19, 20, 21, 22, 23, 24, 25, 26, 27, 28, 29, 30, 31, 32, 33, 34, 35], [7, 8, 9, 10, 11, 12, 13, 14, 15, 16, 17, 18, 19, 20, 21, 22, 23, 24, 25, 26, 27, 28, 29, 30, 31, 32, 33, 34, 35], [8, 9, 10, 11, 12, 13, 14, 15, 16, 17, 18, 19, 20, 21, 22, 23, 24, 25, 26, 27, 28, 29, 30, 31, 32, 33, 34, 35], [9, 15, 16, 17, 18, 19, 20, 21, 22, 23, 24, 25, 26, 27, 28, 29, 30, 31, 32, 33, 34, 35], [15, 16, 17, 18, 19, 20, 21, 22, 23, 24, 25, 26, 27, 28, 29, 30, 31, 32, 33, 34, 35], [11, 12, 13, 14, 15, 16, 17, 18, 19, 20, 21, 22, 23, 24, 25, 26, 27, 28, 29, 30, 31, 32, 33, 34, 35], [12, 13, 14, 15, 16, 17, 18, 19, 20, 21, 22, 23, 24, 25, 26, 27, 28, 29, 30, 31, 32, 33, 34, 35], [13, 14, 15, 16, 17, 18, 19, 20, 21, 22, 23, 24, 25, 26, 27, 28, 29, 30, 31, 32, 33, 34, 35], [14, 15, 16, 17, 18, 19, 20, 21, 22, 23, 24, 25, 26, 27, 28, 29, 30, 31, 32, 33, 34, 35], [15, 16, 17, 18, 19, 20, 21, 22, 23, 24, 25, 26, 27, 28, 29, 30, 31, 32, 33, 34, 35], [16, 17, 18, 19, 20, 21, 22, 23, 24, 25, 26, 27, 28, 29, 30, 31, 32, 33, 34, 35], [17, 18, 19, 20, 21, 22, 23, 24, 25, 26, 27, 28, 29, 30, 31, 32, 33, 34, 35], [18, 19, 20, 21, 22, 23, 24, 25, 26, 27, 28, 29, 30, 31, 32, 33, 34, 35], [19, 20, 22, 23, 24, 25, 26, 27, 28, 29, 30, 31, 32, 33, 34, 35], [20, 22, 23, 24, 25, 26, 27, 28, 29, 30, 31, 32, 33, 34, 35], [22, 23, 24, 25, 26, 27, 28, 29, 30, 31, 32, 33, 34, 35], [22, 23, 24, 25, 26, 27, 28, 29, 30, 31, 32, 33, 34, 35], [23, 24, 25, 26, 27, 28, 29, 30, 31, 32, 33, 34, 35], [24, 25, 26, 27, 28, 29, 30, 31, 32, 33, 34, 35], [25, 26, 27, 28, 29, 30, 31, 32, 33, 34, 35], [26, 27, 29, 30, 31, 32, 33, 34, 35], [27, 29, 30, 31, 32, 33, 34, 35], [29, 30, 31, 32, 33, 34, 35], [29, 30, 31, 32, 33, 34, 35], [30, 31, 32, 33, 34, 35], [31, 32, 33, 34, 35], [32, 33, 34, 35], [33, 34, 35], [34, 35], [35], []] (by kernel_rfl) rfl ?_
        refine ta 0 rfl (rd_move rfl) ?_
        first | refine ta 1 rfl ((rd_eq rfl rfl).eq (congrArg Value.bool (decide_eq_true (by omega)))) ?_ | refine ta 1 rfl ((rd_eq rfl rfl).eq (congrArg Value.bool (decide_eq_false (by omega)))) ?_
        refine ta 2 rfl (rd_move rfl) ?_
        first | refine ts 3 ?_ | refine ta 3 rfl (rd_fa rfl fld49_0) ?_
        first | refine ts 4 ?_ | refine ta 4 rfl (rd_ld rfl row3) ?_
        first | refine ts 5 ?_ | refine ta 5 rfl ((rd_lt rfl rfl).eq (congrArg Value.bool (decide_eq_true (by omega)))) ?_ | refine ta 5 rfl ((rd_lt rfl rfl).eq (congrArg Value.bool (decide_eq_false (by omega)))) ?_
        refine ta 6 rfl (rd_pick rfl rfl) ?_
        refine ta 7 rfl (rd_move rfl) ?_
        first | refine ts 8 ?_ | refine ta 8 rfl (rd_fa rfl fld49_0) ?_
        first | refine ts 9 ?_ | refine ta 9 rfl (rd_ld rfl row3) ?_
        first | refine ts 10 ?_ | refine ta 10 rfl (rd_move rfl) ?_
        first | refine ts 11 ?_ | refine ta 11 rfl (rd_nilCheck rfl) ?_
        first | refine ts 12 ?_ | refine ta 12 rfl (rd_fa rfl fld162_3) ?_
        first | refine ts 13 ?_ | refine ta 13 rfl (rd_ld rfl row160) ?_
        first | refine ts 14 ?_ | refine ta 14 rfl (rd_len Try.underlying160 rfl) ?_
        first | refine ts 15 ?_ | refine ta 15 rfl ((rd_gt rfl rfl).eq (congrArg Value.bool (decide_eq_true (by omega)))) ?_ | refine ta 15 rfl ((rd_gt rfl rfl).eq (congrArg Value.bool (decide_eq_false (by omega)))) ?_
        refine ta 16 rfl (rd_pick rfl rfl) ?_
        refine ta 17 rfl (rd_move rfl) ?_
        first | refine ts 18 ?_ | refine ta 18 rfl (rd_fa rfl fld49_1) ?_
        first | refine ts 19 ?_ | refine ta 19 rfl (rd_fa rfl fld47_0) ?_
        first | refine ts 20 ?_ | refine ta 20 rfl (rd_ld rfl row3) ?_
        first | refine ts 21 ?_ | refine ta 21 rfl (rd_move rfl) ?_
        first | refine ts 22 ?_ | refine ta 22 rfl ((rd_ne rfl rfl).eq (congrArg Value.bool (decide_eq_true (by omega)))) ?_ | refine ta 22 rfl ((rd_ne rfl rfl).eq (congrArg Value.bool (decide_eq_false (by omega)))) ?_
        refine ta 23 rfl (rd_pick rfl rfl) ?_
        refine ta 24 rfl (rd_move rfl) ?_
        first | refine ts 25 ?_ | refine ta 25 rfl (rd_fa rfl fld49_1) ?_
        first | refine ts 26 ?_ | refine ta 26 rfl (rd_fa rfl fld47_7) ?_
        first | refine ts 27 ?_ | refine ta 27 rfl (rd_ld rfl row2) ?_
        first | refine ts 28 ?_ | refine ta 28 rfl (rd_move rfl) ?_
        first | refine ts 29 ?_ | refine ta 29 rfl ((rd_ne rfl rfl).eq (congrArg Value.bool (decide_eq_true (by omega)))) ?_ | refine ta 29 rfl ((rd_ne rfl rfl).eq (congrArg Value.bool (decide_eq_false (by omega)))) ?_
        refine ta 30 rfl (rd_pick rfl rfl) ?_
        refine ta 31 rfl (rd_move rfl) ?_
        first | refine ts 32 ?_ | refine ta 32 rfl (rd_fa rfl fld53_0) ?_
        first | refine ts 33 ?_ | refine ta 33 rfl (rd_ld rfl row25) ?_
        first | refine ts 34 ?_ | refine ta 34 rfl ((rd_ne rfl rfl).eq (congrArg Value.bool (decide_eq_true (by omega)))) ?_ | refine ta 34 rfl ((rd_ne rfl rfl).eq (congrArg Value.bool (decide_eq_false (by omega)))) ?_
        refine ta 35 rfl (rd_pick rfl rfl) ?_
        refine any_nil (by kernel_rfl) ?_
        refine St.then_n ?_
        exact St.sb (St.kq [(0, _), (1, _), (2, _), (8, _), (9, _), (10, _), (59, _)] (h := hK _ (by first | exact (hbad.2 (by omega)).symm | exact (Bool.eq_false_iff.2 (fun hh => absurd (hbad.1 hh) (by omega))).symm)))
      · refine do_draw [[1, 2, 3, 4, 5, 6, 7, 8, 9, 10, 11, 12, 13, 14, 15, 16, 17, 18, 19, 20, 21, 22, 23, 24, 25, 26, 27, 28, 29, 30, 31, 32, 33, 34, 35], [2, 3, 4, 5, 6, 7, 8, 9, 10, 11, 12, 13, 14, 15, 16, 17, 18, 19, 20, 21, 22, 23, 24, 25, 26, 27, 28, 29, 30, 31, 32, 33, 34, 35], [3, 4, 5, 6, 7, 8, 9, 10, 11, 12, 13, 14, 15, 16, 17, 18, 19, 20, 21, 22, 23, 24, 25, 26, 27, 28, 29, 30, 31, 32, 33, 34, 35], [4, 5, 6, 7, 8, 9, 10, 11, 12, 13, 14, 15, 16, 17, 18, 19, 20, 21, 22, 23, 24, 25, 26, 27, 28, 29, 30, 31, 32, 33, 34, 35], [5, 6, 7, 8, 9, 10, 11, 12, 13, 14, 15, 16, 17, 18, 19, 20, 21, 22, 23, 24, 25, 26, 27, 28, 29, 30, 31, 32, 33, 34, 35], [6, 7, 8, 9, 10, 11, 12, 13, 14, 15, 16, 17, 18, 19, 20, 21, 22, 23, 24, 25, 26, 27, 28, 29, 30, 31, 32, 33, 34, 35], [7, 8, 9, 10, 11, 12, 13, 14, 15, 16, 17, 18, 19, 20, 21, 22, 23, 24, 25, 26, 27, 28, 29, 30, 31, 32, 33, 34, 35], [8, 9, 10, 11, 12, 13, 14, 15, 16, 17, 18, 19, 20, 21, 22, 23, 24, 25, 26, 27, 28, 29, 30, 31, 32, 33, 34, 35], [9, 15, 16, 17, 18, 19, 20, 21, 22, 23, 24, 25, 26, 27, 28, 29, 30, 31, 32, 33, 34, 35], [15, 16, 17, 18, 19, 20, 21, 22, 23, 24, 25, 26, 27, 28, 29, 30, 31, 32, 33, 34, 35], [11, 12, 13, 14, 15, 16, 17, 18, 19, 20, 21, 22, 23, 24, 25, 26, 27, 28, 29, 30, 31, 32, 33, 34, 35], [12, 13, 14, 15, 16, 17, 18, 19, 20, 21, 22, 23, 24, 25, 26, 27, 28, 29, 30, 31, 32, 33, 34, 35], [13, 14, 15, 16, 17, 18, 19, 20, 21, 22, 23, 24, 25, 26, 27, 28, 29, 30, 31, 32, 33, 34, 35], [14, 15, 16, 17, 18, 19, 20, 21, 22, 23, 24, 25, 26, 27, 28, 29, 30, 31, 32, 33, 34, 35], [15, 16, 17, 18, 19, 20, 21, 22, 23, 24, 25, 26, 27, 28, 29, 30, 31, 32, 33, 34, 35], [16, 17, 18, 19, 20, 21, 22, 23, 24, 25, 26, 27, 28, 29, 30, 31, 32, 33, 34, 35], [17, 18, 19, 20, 21, 22, 23, 24, 25, 26, 27, 28, 29, 30, 31, 32, 33, 34, 35], [18, 19, 20, 21, 22, 23, 24, 25, 26, 27, 28, 29, 30, 31, 32, 33, 34, 35], [19, 20, 22, 23, 24, 25, 26, 27, 28, 29, 30, 31, 32, 33, 34, 35], [20, 22, 23, 24, 25, 26, 27, 28, 29, 30, 31, 32, 33, 34, 35], [22, 23, 24, 25, 26, 27, 28, 29, 30, 31, 32, 33, 34, 35], [22, 23, 24, 25, 26, 27, 28, 29, 30, 31, 32, 33, 34, 35], [23, 24, 25, 26, 27, 28, 29, 30, 31, 32, 33, 34, 35], [24, 25, 26, 27, 28, 29, 30, 31, 32, 33, 34, 35], [25, 26, 27, 28, 29, 30, 31, 32, 33, 34, 35], [26, 27, 29, 30, 31, 32, 33, 34, 35], [27, 29, 30, 31, 32, 33, 34, 35], [29, 30, 31, 32, 33, 34, 35], [29, 30, 31, 32, 33, 34, 35], [30, 31, 32, 33, 34, 35], [31, 32, 33, 34, 35], [32, 33, 34, 35], [33, 34, 35], [34, 35], [35], []] (by kernel_rfl) rfl ?_
        refine ta 0 rfl (rd_move rfl) ?_
        first | refine ta 1 rfl ((rd_eq rfl rfl).eq (congrArg Value.bool (decide_eq_true (by omega)))) ?_ | refine ta 1 rfl ((rd_eq rfl rfl).eq (congrArg Value.bool (decide_eq_false (by omega)))) ?_
        refine ta 2 rfl (rd_move rfl) ?_
        first | refine ts 3 ?_ | refine ta 3 rfl (rd_fa rfl fld49_0) ?_
        first | refine ts 4 ?_ | refine ta 4 rfl (rd_ld rfl row3) ?_
        first | refine ts 5 ?_ | refine ta 5 rfl ((rd_lt rfl rfl).eq (congrArg Value.bool (decide_eq_true (by omega)))) ?_ | refine ta 5 rfl ((rd_lt rfl rfl).eq (congrArg Value.bool (decide_eq_false (by omega)))) ?_
        refine ta 6 rfl (rd_pick rfl rfl) ?_
        refine ta 7 rfl (rd_move rfl) ?_
        first | refine ts 8 ?_ | refine ta 8 rfl (rd_fa rfl fld49_0) ?_
        first | refine ts 9 ?_ | refine ta 9 rfl (rd_ld rfl row3) ?_
        first | refine ts 10 ?_ | refine ta 10 rfl (rd_move rfl) ?_
        first | refine ts 11 ?_ | refine ta 11 rfl (rd_nilCheck rfl) ?_
        first | refine ts 12 ?_ | refine ta 12 rfl (rd_fa rfl fld162_3) ?_
        first | refine ts 13 ?_ | refine ta 13 rfl (rd_ld rfl row160) ?_
        first | refine ts 14 ?_ | refine ta 14 rfl (rd_len Try.underlying160 rfl) ?_
        first | refine ts 15 ?_ | refine ta 15 rfl ((rd_gt rfl rfl).eq (congrArg Value.bool (decide_eq_true (by omega)))) ?_ | refine ta 15 rfl ((rd_gt rfl rfl).eq (congrArg Value.bool (decide_eq_false (by omega)))) ?_
        refine ta 16 rfl (rd_pick rfl rfl) ?_
        refine ta 17 rfl (rd_move rfl) ?_
        first | refine ts 18 ?_ | refine ta 18 rfl (rd_fa rfl fld49_1) ?_
        first | refine ts 19 ?_ | refine ta 19 rfl (rd_fa rfl fld47_0) ?_
        first | refine ts 20 ?_ | refine ta 20 rfl (rd_ld rfl row3) ?_
        first | refine ts 21 ?_ | refine ta 21 rfl (rd_move rfl) ?_
        first | refine ts 22 ?_ | refine ta 22 rfl ((rd_ne rfl rfl).eq (congrArg Value.bool (decide_eq_true (by omega)))) ?_ | refine ta 22 rfl ((rd_ne rfl rfl).eq (congrArg Value.bool (decide_eq_false (by omega)))) ?_
        refine ta 23 rfl (rd_pick rfl rfl) ?_
        refine ta 24 rfl (rd_move rfl) ?_
        first | refine ts 25 ?_ | refine ta 25 rfl (rd_fa rfl fld49_1) ?_
        first | refine ts 26 ?_ | refine ta 26 rfl (rd_fa rfl fld47_7) ?_
        first | refine ts 27 ?_ | refine ta 27 rfl (rd_ld rfl row2) ?_
        first | refine ts 28 ?_ | refine ta 28 rfl (rd_move rfl) ?_
        first | refine ts 29 ?_ | refine ta 29 rfl ((rd_ne rfl rfl).eq (congrArg Value.bool (decide_eq_true (by omega)))) ?_ | refine ta 29 rfl ((rd_ne rfl rfl).eq (congrArg Value.bool (decide_eq_false (by omega)))) ?_
        refine ta 30 rfl (rd_pick rfl rfl) ?_
        refine ta 31 rfl (rd_move rfl) ?_
        first | refine ts 32 ?_ | refine ta 32 rfl (rd_fa rfl fld53_0) ?_
        first | refine ts 33 ?_ | refine ta 33 rfl (rd_ld rfl row25) ?_
        first | refine ts 34 ?_ | refine ta 34 rfl ((rd_ne rfl rfl).eq (congrArg Value.bool (decide_eq_true (by omega)))) ?_ | refine ta 34 rfl ((rd_ne rfl rfl).eq (congrArg Value.bool (decide_eq_false (by omega)))) ?_
        refine ta 35 rfl (rd_pick rfl rfl) ?_
        refine any_nil (by kernel_rfl) ?_
        refine St.then_n ?_
        exact St.sb (St.kq [(0, _), (1, _), (2, _), (8, _), (9, _), (10, _), (59, _)] (h := hK _ (by first | exact (hbad.2 (by omega)).symm | exact (Bool.eq_false_iff.2 (fun hh => absurd (hbad.1 hh) (by omega))).symm)))
      · refine do_draw [[1, 2, 3, 4, 5, 6, 7, 8, 9, 10, 11, 12, 13, 14, 15, 16, 17, 18, 19, 20, 21, 22, 23, 24, 25, 26, 27, 28, 29, 30, 31, 32, 33, 34, 35], [2, 3, 4, 5, 6, 7, 8, 9, 10, 11, 12, 13, 14, 15, 16, 17, 18, 19, 20, 21, 22, 23, 24, 25, 26, 27, 28, 29, 30, 31, 32, 33, 34, 35], [3, 4, 5, 6, 7, 8, 9, 10, 11, 12, 13, 14, 15, 16, 17, 18, 19, 20, 21, 22, 23, 24, 25, 26, 27, 28, 29, 30, 31, 32, 33, 34, 35], [4, 5, 6, 7, 8, 9, 10, 11, 12, 13, 14, 15, 16, 17, 18, 19, 20, 21, 22, 23, 24, 25, 26, 27, 28, 29, 30, 31, 32, 33, 34, 35], [5, 6, 7, 8, 9, 10, 11, 12, 13, 14, 15, 16, 17, 18, 19, 20, 21, 22, 23, 24, 25, 26, 27, 28, 29, 30, 31, 32, 33, 34, 35], [6, 7, 8, 9, 10, 11, 12, 13, 14, 15, 16, 17, 18, 19, 20, 21, 22, 23, 24, 25, 26, 27, 28, 29, 30, 31, 32, 33, 34, 35], [7, 8, 9, 10, 11, 12, 13, 14, 15, 16, 17, 18, 19, 20, 21, 22, 23, 24, 25, 26, 27, 28, 29, 30, 31, 32, 33, 34, 35], [8, 9, 10, 11, 12, 13, 14, 15, 16, 17, 18, 19, 20, 21, 22, 23, 24, 25, 26, 27, 28, 29, 30, 31, 32, 33, 34, 35], [9, 15, 16, 17, 18, 19, 20, 21, 22, 23, 24, 25, 26, 27, 28, 29, 30, 31, 32, 33, 34, 35], [15, 16, 17, 18, 19, 20, 21, 22, 23, 24, 25, 26, 27, 28, 29, 30, 31, 32, 33, 34, 35], [11, 12, 13, 14, 15, 16, 17, 18, 19, 20, 21, 22, 23, 24, 25, 26, 27, 28, 29, 30, 31, 32, 33, 34, 35], [12, 13, 14, 15, 16, 17, 18, 19, 20, 21, 22, 23, 24, 25, 26, 27, 28, 29, 30, 31, 32, 33, 34, 35], [13, 14, 15, 16, 17, 18, 19, 20, 21, 22, 23, 24, 25, 26, 27, 28, 29, 30, 31, 32, 33, 34, 35], [14, 15, 16, 17, 18, 19, 20, 21, 22, 23, 24, 25, 26, 27, 28, 29, 30, 31, 32, 33, 34, 35], [15, 16, 17, 18, 19, 20, 21, 22, 23, 24, 25, 26, 27, 28, 29, 30, 31, 32, 33, 34, 35], [16, 17, 18, 19, 20, 21, 22, 23, 24, 25, 26, 27, 28, 29, 30, 31, 32, 33, 34, 35], [17, 18, 19, 20, 21, 22, 23, 24, 25, 26, 27, 28, 29, 30, 31, 32, 33, 34, 35], [18, 19, 20, 21, 22, 23, 24, 25, 26, 27, 28, 29, 30, 31, 32, 33, 34, 35], [19, 20, 22, 23, 24, 25, 26, 27, 28, 29, 30, 31, 32, 33, 34, 35], [20, 22, 23, 24, 25, 26, 27, 28, 29, 30, 31, 32, 33, 34, 35], [22, 23, 24, 25, 26, 27, 28, 29, 30, 31, 32, 33, 34, 35], [22, 23, 24, 25, 26, 27, 28, 29, 30, 31, 32, 33, 34, 35], [23, 24, 25, 26, 27, 28, 29, 30, 31, 32, 33, 34, 35], [24, 25, 26, 27, 28, 29, 30, 31, 32, 33, 34, 35], [25, 26, 27, 28, 29, 30, 31, 32, 33, 34, 35], [26, 27, 29, 30, 31, 32, 33, 34, 35], [27, 29, 30, 31, 32, 33, 34, 35], [29, 30, 31, 32, 33, 34, 35], [29, 30, 31, 32, 33, 34, 35], [30, 31, 32, 33, 34, 35], [31, 32, 33, 34, 35], [32, 33, 34, 35], [33, 34, 35], [34, 35], [35], []] (by kernel_rfl) rfl ?_
        refine ta 0 rfl (rd_move rfl) ?_
        first | refine ta 1 rfl ((rd_eq rfl rfl).eq (congrArg Value.bool (decide_eq_true (by omega)))) ?_ | refine ta 1 rfl ((rd_eq rfl rfl).eq (congrArg Value.bool (decide_eq_false (by omega)))) ?_
        refine ta 2 rfl (rd_move rfl) ?_
        first | refine ts 3 ?_ | refine ta 3 rfl (rd_fa rfl fld49_0) ?_
        first | refine ts 4 ?_ | refine ta 4 rfl (rd_ld rfl row3) ?_
        first | refine ts 5 ?_ | refine ta 5 rfl ((rd_lt rfl rfl).eq (congrArg Value.bool (decide_eq_true (by omega)))) ?_ | refine ta 5 rfl ((rd_lt rfl rfl).eq (congrArg Value.bool (decide_eq_false (by omega)))) ?_
        refine ta 6 rfl (rd_pick rfl rfl) ?_
        refine ta 7 rfl (rd_move rfl) ?_
        first | refine ts 8 ?_ | refine ta 8 rfl (rd_fa rfl fld49_0) ?_
        first | refine ts 9 ?_ | refine ta 9 rfl (rd_ld rfl row3) ?_
        first | refine ts 10 ?_ | refine ta 10 rfl (rd_move rfl) ?_
        first | refine ts 11 ?_ | refine ta 11 rfl (rd_nilCheck rfl) ?_
        first | refine ts 12 ?_ | refine ta 12 rfl (rd_fa rfl fld162_3) ?_
        first | refine ts 13 ?_ | refine ta 13 rfl (rd_ld rfl row160) ?_
        first | refine ts 14 ?_ | refine ta 14 rfl (rd_len Try.underlying160 rfl) ?_
        first | refine ts 15 ?_ | refine ta 15 rfl ((rd_gt rfl rfl).eq (congrArg Value.bool (decide_eq_true (by omega)))) ?_ | refine ta 15 rfl ((rd_gt rfl rfl).eq (congrArg Value.bool (decide_eq_false (by omega)))) ?_
        refine ta 16 rfl (rd_pick rfl rfl) ?_
        refine ta 17 rfl (rd_move rfl) ?_
        first | refine ts 18 ?_ | refine ta 18 rfl (rd_fa rfl fld49_1) ?_
        first | refine ts 19 ?_ | refine ta 19 rfl (rd_fa rfl fld47_0) ?_
        first | refine ts 20 ?_ | refine ta 20 rfl (rd_ld rfl row3) ?_
        first | refine ts 21 ?_ | refine ta 21 rfl (rd_move rfl) ?_
        first | refine ts 22 ?_ | refine ta 22 rfl ((rd_ne rfl rfl).eq (congrArg Value.bool (decide_eq_true (by omega)))) ?_ | refine ta 22 rfl ((rd_ne rfl rfl).eq (congrArg Value.bool (decide_eq_false (by omega)))) ?_
        refine ta 23 rfl (rd_pick rfl rfl) ?_
        refine ta 24 rfl (rd_move rfl) ?_
        first | refine ts 25 ?_ | refine ta 25 rfl (rd_fa rfl fld49_1) ?_
        first | refine ts 26 ?_ | refine ta 26 rfl (rd_fa rfl fld47_7) ?_
        first | refine ts 27 ?_ | refine ta 27 rfl (rd_ld rfl row2) ?_
        first | refine ts 28 ?_ | refine ta 28 rfl (rd_move rfl) ?_
        first | refine ts 29 ?_ | refine ta 29 rfl ((rd_ne rfl rfl).eq (congrArg Value.bool (decide_eq_true (by omega)))) ?_ | refine ta 29 rfl ((rd_ne rfl rfl).eq (congrArg Value.bool (decide_eq_false (by omega)))) ?_
        refine ta 30 rfl (rd_pick rfl rfl) ?_
        refine ta 31 rfl (rd_move rfl) ?_
        first | refine ts 32 ?_ | refine ta 32 rfl (rd_fa rfl fld53_0) ?_
        first | refine ts 33 ?_ | refine ta 33 rfl (rd_ld rfl row25) ?_
        first | refine ts 34 ?_ | refine ta 34 rfl ((rd_ne rfl rfl).eq (congrArg Value.bool (decide_eq_true (by omega)))) ?_ | refine ta 34 rfl ((rd_ne rfl rfl).eq (congrArg Value.bool (decide_eq_false (by omega)))) ?_
        refine ta 35 rfl (rd_pick rfl rfl) ?_
        refine any_nil (by kernel_rfl) ?_
        refine St.then_n ?_
        exact St.sb (St.kq [(0, _), (1, _), (2, _), (8, _), (9, _), (10, _), (59, _)] (h := hK _ (by first | exact (hbad.2 (by omega)).symm | exact (Bool.eq_false_iff.2 (fun hh => absurd (hbad.1 hh) (by omega))).symm)))
      · refine do_draw [[1, 2, 3, 4, 5, 6, 7, 8, 9, 10, 11, 12, 13, 14, 15, 16, 17, 18, 19, 20, 21, 22, 23, 24, 25, 26, 27, 28, 29, 30, 31, 32, 33, 34, 35], [2, 3, 4, 5, 6, 7, 8, 9, 10, 11, 12, 13, 14, 15, 16, 17, 18, 19, 20, 21, 22, 23, 24, 25, 26, 27, 28, 29, 30, 31, 32, 33, 34, 35], [3, 4, 5, 6, 7, 8, 9, 10, 11, 12, 13, 14, 15, 16, 17, 18, 19, 20, 21, 22, 23, 24, 25, 26, 27, 28, 29, 30, 31, 32, 33, 34, 35], [4, 5, 6, 7, 8, 9, 10, 11, 12, 13, 14, 15, 16, 17, 18, 19, 20, 21, 22, 23, 24, 25, 26, 27, 28, 29, 30, 31, 32, 33, 34, 35], [5, 6, 7, 8, 9, 10, 11, 12, 13, 14, 15, 16, 17, 18, 19, 20, 21, 22, 23, 24, 25, 26, 27, 28, 29, 30, 31, 32, 33, 34, 35], [6, 7, 8, 9, 10, 11, 12, 13, 14, 15, 16, 17, 18, 19, 20, 21, 22, 23, 24, 25, 26, 27, 28, 29, 30, 31, 32, 33, 34, 35], [7, 8, 9, 10, 11, 12, 13, 14, 15, 16, 17, 18, 19, 20, 21, 22, 23, 24, 25, 26, 27, 28, 29, 30, 31, 32, 33, 34, 35], [8, 9, 10, 11, 12, 13, 14, 15, 16, 17, 18, 19, 20, 21, 22, 23, 24, 25, 26, 27, 28, 29, 30, 31, 32, 33, 34, 35], [9, 15, 16, 17, 18, 19, 20, 21, 22, 23, 24, 25, 26, 27, 28, 29, 30, 31, 32, 33, 34, 35], [15, 16, 17, 18, 19, 20, 21, 22, 23, 24, 25, 26, 27, 28, 29, 30, 31, 32, 33, 34, 35], [11, 12, 13, 14, 15, 16, 17, 18, 19, 20, 21, 22, 23, 24, 25, 26, 27, 28, 29, 30, 31, 32, 33, 34, 35], [12, 13, 14, 15, 16, 17, 18, 19, 20, 21, 22, 23, 24, 25, 26, 27, 28, 29, 30, 31, 32, 33, 34, 35], [13, 14, 15, 16, 17, 18, 19, 20, 21, 22, 23, 24, 25, 26, 27, 28, 29, 30, 31, 32, 33, 34, 35], [14, 15, 16, 17, 18, 19, 20, 21, 22, 23, 24, 25, 26, 27, 28, 29, 30, 31, 32, 33, 34, 35], [15, 16, 17, 18, 19, 20, 21, 22, 23, 24, 25, 26, 27, 28, 29, 30, 31, 32, 33, 34, 35], [16, 17, 18, 19, 20, 21, 22, 23, 24, 25, 26, 27, 28, 29, 30, 31, 32, 33, 34, 35], [17, 18, 19, 20, 21, 22, 23, 24, 25, 26, 27, 28, 29, 30, 31, 32, 33, 34, 35], [18, 19, 20, 21, 22, 23, 24, 25, 26, 27, 28, 29, 30, 31, 32, 33, 34, 35], [19, 20, 22, 23, 24, 25, 26, 27, 28, 29, 30, 31, 32, 33, 34, 35], [20, 22, 23, 24, 25, 26, 27, 28, 29, 30, 31, 32, 33, 34, 35], [22, 23, 24, 25, 26, 27, 28, 29, 30, 31, 32, 33, 34, 35], [22, 23, 24, 25, 26, 27, 28, 29, 30, 31, 32, 33, 34, 35], [23, 24, 25, 26, 27, 28, 29, 30, 31, 32, 33, 34, 35], [24, 25, 26, 27, 28, 29, 30, 31, 32, 33, 34, 35], [25, 26, 27, 28, 29, 30, 31, 32, 33, 34, 35], [26, 27, 29, 30, 31, 32, 33, 34, 35], [27, 29, 30, 31, 32, 33, 34, 35], [29, 30, 31, 32, 33, 34, 35], [29, 30, 31, 32, 33, 34, 35], [30, 31, 32, 33, 34, 35], [31, 32, 33, 34, 35], [32, 33, 34, 35], [33, 34, 35], [34, 35], [35], []] (by kernel_rfl) rfl ?_
        refine ta 0 rfl (rd_move rfl) ?_
        first | refine ta 1 rfl ((rd_eq rfl rfl).eq (congrArg Value.bool (decide_eq_true (by omega)))) ?_ | refine ta 1 rfl ((rd_eq rfl rfl).eq (congrArg Value.bool (decide_eq_false (by omega)))) ?_
        refine ta 2 rfl (rd_move rfl) ?_
        first | refine ts 3 ?_ | refine ta 3 rfl (rd_fa rfl fld49_0) ?_
        first | refine ts 4 ?_ | refine ta 4 rfl (rd_ld rfl row3) ?_
        first | refine ts 5 ?_ | refine ta 5 rfl ((rd_lt rfl rfl).eq (congrArg Value.bool (decide_eq_true (by omega)))) ?_ | refine ta 5 rfl ((rd_lt rfl rfl).eq (congrArg Value.bool (decide_eq_false (by omega)))) ?_
        refine ta 6 rfl (rd_pick rfl rfl) ?_
        refine ta 7 rfl (rd_move rfl) ?_
        first | refine ts 8 ?_ | refine ta 8 rfl (rd_fa rfl fld49_0) ?_
        first | refine ts 9 ?_ | refine ta 9 rfl (rd_ld rfl row3) ?_
        first | refine ts 10 ?_ | refine ta 10 rfl (rd_move rfl) ?_
        first | refine ts 11 ?_ | refine ta 11 rfl (rd_nilCheck rfl) ?_
        first | refine ts 12 ?_ | refine ta 12 rfl (rd_fa rfl fld162_3) ?_
        first | refine ts 13 ?_ | refine ta 13 rfl (rd_ld rfl row160) ?_
        first | refine ts 14 ?_ | refine ta 14 rfl (rd_len Try.underlying160 rfl) ?_
        first | refine ts 15 ?_ | refine ta 15 rfl ((rd_gt rfl rfl).eq (congrArg Value.bool (decide_eq_true (by omega)))) ?_ | refine ta 15 rfl ((rd_gt rfl rfl).eq (congrArg Value.bool (decide_eq_false (by omega)))) ?_
        refine ta 16 rfl (rd_pick rfl rfl) ?_
        refine ta 17 rfl (rd_move rfl) ?_
        first | refine ts 18 ?_ | refine ta 18 rfl (rd_fa rfl fld49_1) ?_
        first | refine ts 19 ?_ | refine ta 19 rfl (rd_fa rfl fld47_0) ?_
        first | refine ts 20 ?_ | refine ta 20 rfl (rd_ld rfl row3) ?_
        first | refine ts 21 ?_ | refine ta 21 rfl (rd_move rfl) ?_
        first | refine ts 22 ?_ | refine ta 22 rfl ((rd_ne rfl rfl).eq (congrArg Value.bool (decide_eq_true (by omega)))) ?_ | refine ta 22 rfl ((rd_ne rfl rfl).eq (congrArg Value.bool (decide_eq_false (by omega)))) ?_
        refine ta 23 rfl (rd_pick rfl rfl) ?_
        refine ta 24 rfl (rd_move rfl) ?_
        first | refine ts 25 ?_ | refine ta 25 rfl (rd_fa rfl fld49_1) ?_
        first | refine ts 26 ?_ | refine ta 26 rfl (rd_fa rfl fld47_7) ?_
        first | refine ts 27 ?_ | refine ta 27 rfl (rd_ld rfl row2) ?_
        first | refine ts 28 ?_ | refine ta 28 rfl (rd_move rfl) ?_
        first | refine ts 29 ?_ | refine ta 29 rfl ((rd_ne rfl rfl).eq (congrArg Value.bool (decide_eq_true (by omega)))) ?_ | refine ta 29 rfl ((rd_ne rfl rfl).eq (congrArg Value.bool (decide_eq_false (by omega)))) ?_
        refine ta 30 rfl (rd_pick rfl rfl) ?_
        refine ta 31 rfl (rd_move rfl) ?_
        first | refine ts 32 ?_ | refine ta 32 rfl (rd_fa rfl fld53_0) ?_
        first | refine ts 33 ?_ | refine ta 33 rfl (rd_ld rfl row25) ?_
        first | refine ts 34 ?_ | refine ta 34 rfl ((rd_ne rfl rfl).eq (congrArg Value.bool (decide_eq_true (by omega)))) ?_ | refine ta 34 rfl ((rd_ne rfl rfl).eq (congrArg Value.bool (decide_eq_false (by omega)))) ?_
        refine ta 35 rfl (rd_pick rfl rfl) ?_
        refine any_nil (by kernel_rfl) ?_
        refine St.then_n ?_
        exact St.sb (St.kq [(0, _), (1, _), (2, _), (8, _), (9, _), (10, _), (59, _)] (h := hK _ (by first | exact (hbad.2 (by omega)).symm | exact (Bool.eq_false_iff.2 (fun hh => absurd (hbad.1 hh) (by omega))).symm)))
    rintro z hz
    rw [hz]
    first | refine do_condp rfl (fun h59 => ?_) (fun h59 => ?_) | refine do_cond rfl (fun h59 => ?_) (fun h59 => ?_)
    · refine sr ?_
      refine rr (rd_bd [_, _, _, _, _] zero79 plc79) ?_
      first | refine r_sa row79 ?_ | refine r_sm row79 ?_
      refine rr (rd_assign rfl) ?_
      refine run_nil ?_
      refine St.kp [(10, _), (11, _)] ?_
      refine St.then_n ?_
      refine do_ret ?_
      refine St.then_r ?_
      refine do_ret2 Try.results55 (res_cell_row (vs := [_, _, _, _, _]) rfl row79 rfl (cells_pts (by repeat (first | with_reducible exact Sel.head | apply Sel.tail)) rfl)) (res_tmp rfl) ?_
      intro w hw
      exact ⟨(none, 0), trivial, by rw [hT _ h59], by rw [hT _ h59]; exact Holds.sb (Holds.au_shut ⟨sn, sp, sa, L⟩ g N hw)⟩
    · have hb2 : ¬ (kk = 0 ∨ xg < 1 ∨ (L.length : Int) < xg ∨ kind ≠ kk ∨ epoch ≠ n ∨ ywhy ≠ 0) := fun hh => by have := hbad.2 hh; rw [h59] at this; cases this
      obtain ⟨i, hi⟩ : ∃ i : Nat, (xg - 1).toNat = i := ⟨_, rfl⟩
      have hx := List.getElem?_eq_getElem (l := L) (i := i) (by omega)
      generalize L[i]'_ = o at hx
      have hgd : L.getD i one0 = o := by rw [List.getD_eq_getElem?_getD, hx]; rfl
      obtain ⟨ois, oA, oc, orows⟩ := o
      refine do_skip ?_
      refine St.then_n ?_
      refine sr ?_
      refine rr (rd_move rfl) ?_
      refine rr (rd_bd [_, _, _, _, _] zero79 plc79) ?_
      refine r_al zero79 fun b13 => ?_
      first | refine r_sa row79 ?_ | refine r_sm row79 ?_
      refine run_nil ?_
      refine St.kp [(0, _), (2, _), (8, _), (9, _), (10, _), (13, _)] ?_
      refine St.then_n ?_
      refine do_seq ?_
      refine do_draw [[1, 2, 3, 7, 8], [2, 3, 7, 8], [3, 7, 8], [7, 8], [5, 6, 7, 8], [6, 7, 8], [7, 8], [8], []] (by kernel_rfl) rfl ?_
      refine ta 0 rfl (rd_move rfl) ?_
      refine ta 1 rfl (rd_nilCheck rfl) ?_
      refine ta 2 rfl (rd_fa rfl fld162_3) ?_
      refine ta 3 rfl (rd_ld rfl row160) ?_
      refine ta 4 rfl (rd_fa rfl fld49_0) ?_
      refine ta 5 rfl (rd_ld rfl row3) ?_
      refine ta 6 rfl (rd_subi rfl rfl) ?_
      refine ta 7 rfl ((rd_indexAddr Try.underlying160 ei170 rfl rfl (by omega) (by omega)).eq (show _ = Value.pointer (some ⟨g, 0 + i * 2, none⟩) by rw [hi])) ?_
      refine ta 8 rfl (rd_assign rfl) ?_
      refine any_nil (by kernel_rfl) ?_
      refine St.kp [(0, _), (2, _), (9, _), (10, _), (13, _), (14, _)] ?_
      refine St.then_n ?_
      refine do_seq ?_
      refine sr ?_
      refine rr (rd_move rfl) ?_
      refine nx ?_
      refine do_block ?_
      refine do_seq ?_
      refine do_block ?_
      refine do_seq ?_
      refine do_block ?_
      refine do_seq ?_
      refine sr ?_
      refine rr (rd_eq rfl rfl) ?_
      refine rr (rd_assign rfl) ?_
      refine nx ?_
      refine do_condp rfl (fun h72 => ?_) (fun h72 => absurd (by omega) h72)
      refine do_exit ?_
      refine St.then_x ?_
      refine St.blk_s ?_
      refine St.then_n ?_
      refine sr ?_
      refine rr (rd_fa rfl fld79_0) ?_
      refine r_st row3 ?_
      refine run_nil ?_
      refine St.kp [(0, _), (2, _), (9, _), (10, _), (13, _), (14, _)] ?_
      refine St.then_n ?_
      refine do_region ?_
      refine rr (rd_move rfl) ?_
      refine rr (rd_fa rfl fld53_2) ?_
      refine rr (rd_fa rfl fld33_2) ?_
      refine rr (rd_ld rfl row31) ?_
      refine rc (hs := cloneRow_spec _ pA prows.length pc prows (hR2.sp) rfl hy) (k := ?_)
      rintro v1 -
      refine St.Q_sl fun A1 c1 hv1 _ _ _ => ?_
      subst hv1
      try simp only [List.cons_append, List.nil_append]
      refine rr (rd_nilCheck rfl) ?_
      refine rr (rd_fa (off' := 0 + i * 2 + 1) rfl fld170_1 rfl) ?_
      refine r_stQ1 (n := N) oneC_len (z := ⟨ois, oA, oc, orows⟩) (z' := ⟨ois, A1, c1, prows⟩) i 1 hx (by decide) rfl row31 rfl ?_
      refine St.rowsAll_set (L := L) (i := i) ⟨ois, A1, c1, prows⟩ (by omega) ?_
      refine run_nil ?_
      refine St.kp [(0, _), (2, _), (10, _), (13, _), (14, _)] ?_
      refine St.blk_n ?_
      refine St.then_n ?_
      refine sr ?_
      refine rr (rd_move rfl) ?_
      refine rr (rd_nilCheck rfl) ?_
      refine rr (rd_fa (off' := 0 + i * 2 + 0) rfl fld170_0 rfl) ?_
      refine r_stQ1 (n := N) (L := L.set i ⟨ois, A1, c1, prows⟩) oneC_len (z := ⟨ois, A1, c1, prows⟩) (z' := ⟨true, A1, c1, prows⟩) i 0 (by rw [List.getElem?_set, if_pos rfl, if_pos (by omega)]) (by decide) rfl row4 rfl ?_
      rw [List.set_set, ← rowsAll_is (x := ⟨ois, A1, c1, prows⟩) true (show (L.set i ⟨ois, A1, c1, prows⟩)[i]? = some _ by rw [List.getElem?_set, if_pos rfl, if_pos (by omega)]), List.set_set]
      dsimp only
      refine St.au_shut ⟨sn, sp, sa, L.set i ⟨true, A1, c1, prows⟩⟩ g N ?_
      have hTS := hF (A1, c1) h59
      rw [hi, hgd, show toldOne ⟨ois, oA, oc, orows⟩ ph prows (A1, c1) = ⟨true, A1, c1, prows⟩ by unfold toldOne; rw [if_pos hph]] at hTS
      obtain ⟨L2, hL2⟩ : ∃ L2, L.set i ⟨true, A1, c1, prows⟩ = L2 := ⟨_, rfl⟩
      have hl2 : L2.length ≤ 3 := by rw [← hL2, List.length_set]; exact hL3
      rw [hL2] at hTS ⊢
      refine run_nil ?_
      refine St.kp [(0, _), (2, _), (10, _), (13, _)] ?_
      refine St.then_n ?_
      refine do_exit ?_
      refine St.blk_s ?_
      refine St.then_n ?_
      refine do_seq ?_
      refine sr ?_
      refine rr (rd_move rfl) ?_
      refine rc (hs := auLeft_spec _ r ⟨sn, sp, sa, L2⟩ hl2) (k := ?_)
      rintro ⟨⟩ -
      try simp only [List.cons_append, List.nil_append]
      refine rr (rd_gt rfl rfl) ?_
      refine nx ?_
      first | refine do_condp rfl (fun h87 => ?_) (fun h87 => ?_) | refine do_cond rfl (fun h87 => ?_) (fun h87 => ?_)
      · rw [if_pos (by omega)] at hTS
        refine sr ?_
        refine rr (rd_bd [_, _, _, _, _] zero79 plc79) ?_
        first | refine r_sa row79 ?_ | refine r_sm row79 ?_
        refine rr (rd_assign rfl) ?_
        refine run_nil ?_
        refine St.kp [(10, _), (11, _)] ?_
        refine St.then_n ?_
        refine do_ret ?_
        refine St.then_r ?_
        refine do_ret2 Try.results55 (res_cell_row (vs := [_, _, _, _, _]) rfl row79 rfl (cells_pts (by repeat (first | with_reducible exact Sel.head | apply Sel.tail)) rfl)) (res_tmp rfl) ?_
        intro w hw
        exact ⟨(A1, c1), trivial, by rw [hTS], by rw [hTS]; exact hw.sb⟩
      · rw [if_neg (by omega)] at hTS
        refine St.sl (P := auO r ⟨sn, sp, sa, L2⟩) (St.au_open fun g2 N2 hN2 => ?_)
        dsimp only at hN2 ⊢
        refine do_skip ?_
        refine St.then_n ?_
        refine do_seq ?_
        refine do_cut (fun _ : Unit => True) (fun _ => [(13, .pointer (some ⟨b13, 0, none⟩)), (10, .pointer (some ⟨b10, 0, none⟩))]) (fun _ => [pts r 162 [.int .i64 sn, .int .i64 sp, .bool true, .slice (some ⟨g2, 0, none⟩) N2 N2], ownQ oneC 170 2 (.slice (some ⟨g2, 0, none⟩) N2 N2) N2 L2, rowsAll L2, pts b13 79 [.int .i64 4, .int .i64 0, .int .i64 0, .int .i64 n, .int .i64 0], pts b10 79 [.int .i64 0, .int .i64 0, .int .i64 0, .int .i64 0, .int .i64 0], F]) (fun K hK => ?_) ?_
        · cases sa
          · refine do_region ?_
            refine rr (rd_move rfl) ?_
            refine rr (rd_move rfl) ?_
            refine rr (rd_nilCheck rfl) ?_
            refine rr (rd_fa rfl fld162_2) ?_
            refine rr (rd_ld rfl row4) ?_
            refine rr (rd_move rfl) ?_
            first | refine sk ?_ | (refine rr (rd_move rfl) ?_)
            first | refine sk ?_ | (refine rr ((rd_eq rfl rfl).eq (congrArg Value.bool (decide_eq_true (by omega)))) ?_)
            refine rr (rd_pick rfl rfl) ?_
            refine rr (rd_nilCheck rfl) ?_
            refine rr (rd_fa rfl fld162_2) ?_
            refine r_st row4 ?_
            refine run_nil ?_
            refine St.kp [(10, _), (13, _)] ?_
            refine St.then_n ?_
            exact St.sb (St.kq [(13, _), (10, _)] (h := hK () trivial))
          · refine do_region ?_
            refine rr (rd_move rfl) ?_
            refine rr (rd_move rfl) ?_
            refine rr (rd_nilCheck rfl) ?_
            refine rr (rd_fa rfl fld162_2) ?_
            refine rr (rd_ld rfl row4) ?_
            refine rr (rd_move rfl) ?_
            first | refine sk ?_ | (refine rr (rd_move rfl) ?_)
            first | refine sk ?_ | (refine rr ((rd_eq rfl rfl).eq (congrArg Value.bool (decide_eq_true (by omega)))) ?_)
            refine rr (rd_pick rfl rfl) ?_
            refine rr (rd_nilCheck rfl) ?_
            refine rr (rd_fa rfl fld162_2) ?_
            refine r_st row4 ?_
            refine run_nil ?_
            refine St.kp [(10, _), (13, _)] ?_
            refine St.then_n ?_
            exact St.sb (St.kq [(13, _), (10, _)] (h := hK () trivial))
        rintro ⟨⟩ -
        refine sr ?_
        refine rr (rd_ldr [_, _, _, _, _] rfl row79) ?_
        first | refine r_sa row79 ?_ | refine r_sm row79 ?_
        refine rr (rd_assign rfl) ?_
        refine nx ?_
        refine do_ret ?_
        refine do_ret2 Try.results55 (res_cell_row (vs := [_, _, _, _, _]) rfl row79 rfl (cells_pts (by repeat (first | with_reducible exact Sel.head | apply Sel.tail)) rfl)) (res_tmp rfl) ?_
        intro w hw
        exact ⟨(A1, c1), trivial, by rw [hTS, if_pos hph], by rw [hTS]; simp only [hph, decide_true, Bool.or_true, Bool.true_or, Bool.false_or]; exact Holds.sb (Holds.au_shut ⟨sn, sp, true, L2⟩ g2 N2 hw)⟩
  · skip
    refine sr ?_
    refine r_bx fun b8 => ?_
    refine r_bx fun b9 => ?_
    refine r_al zero79 fun b10 => ?_
    refine rr (rd_assign rfl) ?_
    refine nx ?_
    refine do_seq ?_
    refine sr ?_
    refine rr (rd_move rfl) ?_
    refine rr (rd_ptr_eq_nil Try.underlying111 rfl rfl) ?_
    refine run_nil ?_
    refine St.kp [(0, _), (1, _), (2, _), (8, _), (9, _), (10, _), (16, _)] ?_
    refine St.then_n ?_
    refine do_cond_f rfl ?_
    refine do_skip ?_
    refine St.then_n ?_
    refine sr ?_
    refine rr (rd_move rfl) ?_
    refine rr (rd_move rfl) ?_
    refine rr (rd_move rfl) ?_
    refine rc (hs := know_spec _ r s n ph hs) (k := ?_)
    rintro ⟨⟩ -
    rw [hs1]
    try simp only [List.cons_append, List.nil_append]
    refine run_nil ?_
    refine St.kp [(0, _), (1, _), (2, _), (8, _), (9, _), (10, _)] ?_
    refine St.then_n ?_
    refine do_seq ?_
    refine sr ?_
    refine rr (rd_move rfl) ?_
    refine rc (hs := kind_spec _ ph) (k := ?_)
    rintro ⟨⟩ -
    rw [hkk]
    try simp only [List.cons_append, List.nil_append]
    refine rr (rd_assign rfl) ?_
    refine nx ?_
    refine do_seq ?_
    refine St.sl (P := auO r ⟨sn, sp, sa, L⟩) (St.au_open fun g N hN => ?_)
    dsimp only at hN ⊢
    refine do_cut (fun z : Bool => z = bad) (fun z => [(0, .pointer (some ⟨r, 0, none⟩)), (1, .int .i64 n), (2, .int .i64 ph), (8, .pointer (some ⟨b8, 0, none⟩)), (9, .pointer (some ⟨b9, 0, none⟩)), (10, .pointer (some ⟨b10, 0, none⟩)), (59, .bool z)]) (fun _ => [pts r 162 [.int .i64 sn, .int .i64 sp, .bool sa, .slice (some ⟨g, 0, none⟩) N N], ownQ oneC 170 2 (.slice (some ⟨g, 0, none⟩) N N) N L, rowsAll L, pts b8 49 [.int .i64 xg, .int .i64 kind, .int .i64 okind, .string (strOf osrc), .string (strOf odst), .int .i64 oamt, .string (strOf okey), .int .i64 oslot, .int .i64 oshard, .string (strOf id), .string (strOf name), .int .i64 nn, .int .i64 why, .int .i64 slot, .int .i64 epoch, .int .i64 at_, .bool last, .slice A data.length c], pts b9 53 [.int .i64 ywhy, .bool ywait, .int .i64 pwhy, .int .i64 pamt, .slice pA prows.length pc, .slice rA rdata.length rK], pts b10 79 [.int .i64 0, .int .i64 0, .int .i64 0, .int .i64 0, .int .i64 0], F]) (fun K hK => ?_) ?_
    · rcases (show kk = 0 ∨ (kk ≠ 0 ∧ xg < 1) ∨ (kk ≠ 0 ∧ 1 ≤ xg ∧ (L.length : Int) < xg) ∨ (kk ≠ 0 ∧ 1 ≤ xg ∧ xg ≤ L.length ∧ kind ≠ kk) ∨ (kk ≠ 0 ∧ 1 ≤ xg ∧ xg ≤ L.length ∧ kind = kk ∧ epoch ≠ n) ∨ (kk ≠ 0 ∧ 1 ≤ xg ∧ xg ≤ L.length ∧ kind = kk ∧ epoch = n ∧ ywhy ≠ 0) ∨ (kk ≠ 0 ∧ 1 ≤ xg ∧ xg ≤ L.length ∧ kind = kk ∧ epoch = n ∧ ywhy = 0) by omega) with hA | hA | hA | hA | hA | hA | hA
      · refine do_draw [[1, 2, 3, 4, 5, 6, 7, 8, 9, 10, 11, 12, 13, 14, 15, 16, 17, 18, 19, 20, 21, 22, 23, 24, 25, 26, 27, 28, 29, 30, 31, 32, 33, 34, 35], [2, 3, 4, 5, 6, 7, 8, 9, 10, 11, 12, 13, 14, 15, 16, 17, 18, 19, 20, 21, 22, 23, 24, 25, 26, 27, 28, 29, 30, 31, 32, 33, 34, 35], [3, 4, 5, 6, 7, 8, 9, 10, 11, 12, 13, 14, 15, 16, 17, 18, 19, 20, 21, 22, 23, 24, 25, 26, 27, 28, 29, 30, 31, 32, 33, 34, 35], [4, 5, 6, 7, 8, 9, 10, 11, 12, 13, 14, 15, 16, 17, 18, 19, 20, 21, 22, 23, 24, 25, 26, 27, 28, 29, 30, 31, 32, 33, 34, 35], [5, 6, 7, 8, 9, 10, 11, 12, 13, 14, 15, 16, 17, 18, 19, 20, 21, 22, 23, 24, 25, 26, 27, 28, 29, 30, 31, 32, 33, 34, 35], [6, 7, 8, 9, 10, 11, 12, 13, 14, 15, 16, 17, 18, 19, 20, 21, 22, 23, 24, 25, 26, 27, 28, 29, 30, 31, 32, 33, 34, 35], [7, 8, 9, 10, 11, 12, 13, 14, 15, 16, 17, 18, 19, 20, 21, 22, 23, 24, 25, 26, 27, 28, 29, 30, 31, 32, 33, 34, 35], [8, 9, 10, 11, 12, 13, 14, 15, 16, 17, 18, 19, 20, 21, 22, 23, 24, 25, 26, 27, 28, 29, 30, 31, 32, 33, 34, 35], [9, 15, 16, 17, 18, 19, 20, 21, 22, 23, 24, 25, 26, 27, 28, 29, 30, 31, 32, 33, 34, 35], [15, 16, 17, 18, 19, 20, 21, 22, 23, 24, 25, 26, 27, 28, 29, 30, 31, 32, 33, 34, 35], [11, 12, 13, 14, 15, 16, 17, 18, 19, 20, 21, 22, 23, 24, 25, 26, 27, 28, 29, 30, 31, 32, 33, 34, 35], [12, 13, 14, 15, 16, 17, 18, 19, 20, 21, 22, 23, 24, 25, 26, 27, 28, 29, 30, 31, 32, 33, 34, 35], [13, 14, 15, 16, 17, 18, 19, 20, 21, 22, 23, 24, 25, 26, 27, 28, 29, 30, 31, 32, 33, 34, 35], [14, 15, 16, 17, 18, 19, 20, 21, 22, 23, 24, 25, 26, 27, 28, 29, 30, 31, 32, 33, 34, 35], [15, 16, 17, 18, 19, 20, 21, 22, 23, 24, 25, 26, 27, 28, 29, 30, 31, 32, 33, 34, 35], [16, 17, 18, 19, 20, 21, 22, 23, 24, 25, 26, 27, 28, 29, 30, 31, 32, 33, 34, 35], [17, 18, 19, 20, 21, 22, 23, 24, 25, 26, 27, 28, 29, 30, 31, 32, 33, 34, 35], [18, 19, 20, 21, 22, 23, 24, 25, 26, 27, 28, 29, 30, 31, 32, 33, 34, 35], [19, 20, 22, 23, 24, 25, 26, 27, 28, 29, 30, 31, 32, 33, 34, 35], [20, 22, 23, 24, 25, 26, 27, 28, 29, 30, 31, 32, 33, 34, 35], [22, 23, 24, 25, 26, 27, 28, 29, 30, 31, 32, 33, 34, 35], [22, 23, 24, 25, 26, 27, 28, 29, 30, 31, 32, 33, 34, 35], [23, 24, 25, 26, 27, 28, 29, 30, 31, 32, 33, 34, 35], [24, 25, 26, 27, 28, 29, 30, 31, 32, 33, 34, 35], [25, 26, 27, 28, 29, 30, 31, 32, 33, 34, 35], [26, 27, 29, 30, 31, 32, 33, 34, 35], [27, 29, 30, 31, 32, 33, 34, 35], [29, 30, 31, 32, 33, 34, 35], [29, 30, 31, 32, 33, 34, 35], [30, 31, 32, 33, 34, 35], [31, 32, 33, 34, 35], [32, 33, 34, 35], [33, 34, 35], [34, 35], [35], []] (by kernel_rfl) rfl ?_
        refine ta 0 rfl (rd_move rfl) ?_
        first | refine ta 1 rfl ((rd_eq rfl rfl).eq (congrArg Value.bool (decide_eq_true (by omega)))) ?_ | refine ta 1 rfl ((rd_eq rfl rfl).eq (congrArg Value.bool (decide_eq_false (by omega)))) ?_
        refine ta 2 rfl (rd_move rfl) ?_
        first | refine ts 3 ?_ | refine ta 3 rfl (rd_fa rfl fld49_0) ?_
        first | refine ts 4 ?_ | refine ta 4 rfl (rd_ld rfl row3) ?_
        first | refine ts 5 ?_ | refine ta 5 rfl ((rd_lt rfl rfl).eq (congrArg Value.bool (decide_eq_true (by omega)))) ?_ | refine ta 5 rfl ((rd_lt rfl rfl).eq (congrArg Value.bool (decide_eq_false (by omega)))) ?_
        refine ta 6 rfl (rd_pick rfl rfl) ?_
        refine ta 7 rfl (rd_move rfl) ?_
        first | refine ts 8 ?_ | refine ta 8 rfl (rd_fa rfl fld49_0) ?_
        first | refine ts 9 ?_ | refine ta 9 rfl (rd_ld rfl row3) ?_
        first | refine ts 10 ?_ | refine ta 10 rfl (rd_move rfl) ?_
        first | refine ts 11 ?_ | refine ta 11 rfl (rd_nilCheck rfl) ?_
        first | refine ts 12 ?_ | refine ta 12 rfl (rd_fa rfl fld162_3) ?_
        first | refine ts 13 ?_ | refine ta 13 rfl (rd_ld rfl row160) ?_
        first | refine ts 14 ?_ | refine ta 14 rfl (rd_len Try.underlying160 rfl) ?_
        first | refine ts 15 ?_ | refine ta 15 rfl ((rd_gt rfl rfl).eq (congrArg Value.bool (decide_eq_true (by omega)))) ?_ | refine ta 15 rfl ((rd_gt rfl rfl).eq (congrArg Value.bool (decide_eq_false (by omega)))) ?_
        refine ta 16 rfl (rd_pick rfl rfl) ?_
        refine ta 17 rfl (rd_move rfl) ?_
        first | refine ts 18 ?_ | refine ta 18 rfl (rd_fa rfl fld49_1) ?_
        first | refine ts 19 ?_ | refine ta 19 rfl (rd_fa rfl fld47_0) ?_
        first | refine ts 20 ?_ | refine ta 20 rfl (rd_ld rfl row3) ?_
        first | refine ts 21 ?_ | refine ta 21 rfl (rd_move rfl) ?_
        first | refine ts 22 ?_ | refine ta 22 rfl ((rd_ne rfl rfl).eq (congrArg Value.bool (decide_eq_true (by omega)))) ?_ | refine ta 22 rfl ((rd_ne rfl rfl).eq (congrArg Value.bool (decide_eq_false (by omega)))) ?_
        refine ta 23 rfl (rd_pick rfl rfl) ?_
        refine ta 24 rfl (rd_move rfl) ?_
        first | refine ts 25 ?_ | refine ta 25 rfl (rd_fa rfl fld49_1) ?_
        first | refine ts 26 ?_ | refine ta 26 rfl (rd_fa rfl fld47_7) ?_
        first | refine ts 27 ?_ | refine ta 27 rfl (rd_ld rfl row2) ?_
        first | refine ts 28 ?_ | refine ta 28 rfl (rd_move rfl) ?_
        first | refine ts 29 ?_ | refine ta 29 rfl ((rd_ne rfl rfl).eq (congrArg Value.bool (decide_eq_true (by omega)))) ?_ | refine ta 29 rfl ((rd_ne rfl rfl).eq (congrArg Value.bool (decide_eq_false (by omega)))) ?_
        refine ta 30 rfl (rd_pick rfl rfl) ?_
        refine ta 31 rfl (rd_move rfl) ?_
        first | refine ts 32 ?_ | refine ta 32 rfl (rd_fa rfl fld53_0) ?_
        first | refine ts 33 ?_ | refine ta 33 rfl (rd_ld rfl row25) ?_
        first | refine ts 34 ?_ | refine ta 34 rfl ((rd_ne rfl rfl).eq (congrArg Value.bool (decide_eq_true (by omega)))) ?_ | refine ta 34 rfl ((rd_ne rfl rfl).eq (congrArg Value.bool (decide_eq_false (by omega)))) ?_
        refine ta 35 rfl (rd_pick rfl rfl) ?_
        refine any_nil (by kernel_rfl) ?_
        refine St.then_n ?_
        exact St.sb (St.kq [(0, _), (1, _), (2, _), (8, _), (9, _), (10, _), (59, _)] (h := hK _ (by first | exact (hbad.2 (by omega)).symm | exact (Bool.eq_false_iff.2 (fun hh => absurd (hbad.1 hh) (by omega))).symm)))
      · refine do_draw [[1, 2, 3, 4, 5, 6, 7, 8, 9, 10, 11, 12, 13, 14, 15, 16, 17, 18, 19, 20, 21, 22, 23, 24, 25, 26, 27, 28, 29, 30, 31, 32, 33, 34, 35], [2, 3, 4, 5, 6, 7, 8, 9, 10, 11, 12, 13, 14, 15, 16, 17, 18, 19, 20, 21, 22, 23, 24, 25, 26, 27, 28, 29, 30, 31, 32, 33, 34, 35], [3, 4, 5, 6, 7, 8, 9, 10, 11, 12, 13, 14, 15, 16, 17, 18, 19, 20, 21, 22, 23, 24, 25, 26, 27, 28, 29, 30, 31, 32, 33, 34, 35], [4, 5, 6, 7, 8, 9, 10, 11, 12, 13, 14, 15, 16, 17, 18, 19, 20, 21, 22, 23, 24, 25, 26, 27, 28, 29, 30, 31, 32, 33, 34, 35], [5, 6, 7, 8, 9, 10, 11, 12, 13, 14, 15, 16, 17, 18, 19, 20, 21, 22, 23, 24, 25, 26, 27, 28, 29, 30, 31, 32, 33, 34, 35], [6, 7, 8, 9, 10, 11, 12, 13, 14, 15, 16, 17, 18, 19, 20, 21, 22, 23, 24, 25, 26, 27, 28, 29, 30, 31, 32, 33, 34, 35], [7, 8, 9, 10, 11, 12, 13, 14, 15, 16, 17, 18, 19, 20, 21, 22, 23, 24, 25, 26, 27, 28, 29, 30, 31, 32, 33, 34, 35], [8, 9, 10, 11, 12, 13, 14, 15, 16, 17, 18, 19, 20, 21, 22, 23, 24, 25, 26, 27, 28, 29, 30, 31, 32, 33, 34, 35], [9, 15, 16, 17, 18, 19, 20, 21, 22, 23, 24, 25, 26, 27, 28, 29, 30, 31, 32, 33, 34, 35], [15, 16, 17, 18, 19, 20, 21, 22, 23, 24, 25, 26, 27, 28, 29, 30, 31, 32, 33, 34, 35], [11, 12, 13, 14, 15, 16, 17, 18, 19, 20, 21, 22, 23, 24, 25, 26, 27, 28, 29, 30, 31, 32, 33, 34, 35], [12, 13, 14, 15, 16, 17, 18, 19, 20, 21, 22, 23, 24, 25, 26, 27, 28, 29, 30, 31, 32, 33, 34, 35], [13, 14, 15, 16, 17, 18, 19, 20, 21, 22, 23, 24, 25, 26, 27, 28, 29, 30, 31, 32, 33, 34, 35], [14, 15, 16, 17, 18, 19, 20, 21, 22, 23, 24, 25, 26, 27, 28, 29, 30, 31, 32, 33, 34, 35], [15, 16, 17, 18, 19, 20, 21, 22, 23, 24, 25, 26, 27, 28, 29, 30, 31, 32, 33, 34, 35], [16, 17, 18, 19, 20, 21, 22, 23, 24, 25, 26, 27, 28, 29, 30, 31, 32, 33, 34, 35], [17, 18, 19, 20, 21, 22, 23, 24, 25, 26, 27, 28, 29, 30, 31, 32, 33, 34, 35], [18, 19, 20, 21, 22, 23, 24, 25, 26, 27, 28, 29, 30, 31, 32, 33, 34, 35], [19, 20, 22, 23, 24, 25, 26, 27, 28, 29, 30, 31, 32, 33, 34, 35], [20, 22, 23, 24, 25, 26, 27, 28, 29, 30, 31, 32, 33, 34, 35], [22, 23, 24, 25, 26, 27, 28, 29, 30, 31, 32, 33, 34, 35], [22, 23, 24, 25, 26, 27, 28, 29, 30, 31, 32, 33, 34, 35], [23, 24, 25, 26, 27, 28, 29, 30, 31, 32, 33, 34, 35], [24, 25, 26, 27, 28, 29, 30, 31, 32, 33, 34, 35], [25, 26, 27, 28, 29, 30, 31, 32, 33, 34, 35], [26, 27, 29, 30, 31, 32, 33, 34, 35], [27, 29, 30, 31, 32, 33, 34, 35], [29, 30, 31, 32, 33, 34, 35], [29, 30, 31, 32, 33, 34, 35], [30, 31, 32, 33, 34, 35], [31, 32, 33, 34, 35], [32, 33, 34, 35], [33, 34, 35], [34, 35], [35], []] (by kernel_rfl) rfl ?_
        refine ta 0 rfl (rd_move rfl) ?_
        first | refine ta 1 rfl ((rd_eq rfl rfl).eq (congrArg Value.bool (decide_eq_true (by omega)))) ?_ | refine ta 1 rfl ((rd_eq rfl rfl).eq (congrArg Value.bool (decide_eq_false (by omega)))) ?_
        refine ta 2 rfl (rd_move rfl) ?_
        first | refine ts 3 ?_ | refine ta 3 rfl (rd_fa rfl fld49_0) ?_
        first | refine ts 4 ?_ | refine ta 4 rfl (rd_ld rfl row3) ?_
        first | refine ts 5 ?_ | refine ta 5 rfl ((rd_lt rfl rfl).eq (congrArg Value.bool (decide_eq_true (by omega)))) ?_ | refine ta 5 rfl ((rd_lt rfl rfl).eq (congrArg Value.bool (decide_eq_false (by omega)))) ?_
        refine ta 6 rfl (rd_pick rfl rfl) ?_
        refine ta 7 rfl (rd_move rfl) ?_
        first | refine ts 8 ?_ | refine ta 8 rfl (rd_fa rfl fld49_0) ?_
        first | refine ts 9 ?_ | refine ta 9 rfl (rd_ld rfl row3) ?_
        first | refine ts 10 ?_ | refine ta 10 rfl (rd_move rfl) ?_
        first | refine ts 11 ?_ | refine ta 11 rfl (rd_nilCheck rfl) ?_
        first | refine ts 12 ?_ | refine ta 12 rfl (rd_fa rfl fld162_3) ?_
        first | refine ts 13 ?_ | refine ta 13 rfl (rd_ld rfl row160) ?_
        first | refine ts 14 ?_ | refine ta 14 rfl (rd_len Try.underlying160 rfl) ?_
        first | refine ts 15 ?_ | refine ta 15 rfl ((rd_gt rfl rfl).eq (congrArg Value.bool (decide_eq_true (by omega)))) ?_ | refine ta 15 rfl ((rd_gt rfl rfl).eq (congrArg Value.bool (decide_eq_false (by omega)))) ?_
        refine ta 16 rfl (rd_pick rfl rfl) ?_
        refine ta 17 rfl (rd_move rfl) ?_
        first | refine ts 18 ?_ | refine ta 18 rfl (rd_fa rfl fld49_1) ?_
        first | refine ts 19 ?_ | refine ta 19 rfl (rd_fa rfl fld47_0) ?_
        first | refine ts 20 ?_ | refine ta 20 rfl (rd_ld rfl row3) ?_
        first | refine ts 21 ?_ | refine ta 21 rfl (rd_move rfl) ?_
        first | refine ts 22 ?_ | refine ta 22 rfl ((rd_ne rfl rfl).eq (congrArg Value.bool (decide_eq_true (by omega)))) ?_ | refine ta 22 rfl ((rd_ne rfl rfl).eq (congrArg Value.bool (decide_eq_false (by omega)))) ?_
        refine ta 23 rfl (rd_pick rfl rfl) ?_
        refine ta 24 rfl (rd_move rfl) ?_
        first | refine ts 25 ?_ | refine ta 25 rfl (rd_fa rfl fld49_1) ?_
        first | refine ts 26 ?_ | refine ta 26 rfl (rd_fa rfl fld47_7) ?_
        first | refine ts 27 ?_ | refine ta 27 rfl (rd_ld rfl row2) ?_
        first | refine ts 28 ?_ | refine ta 28 rfl (rd_move rfl) ?_
        first | refine ts 29 ?_ | refine ta 29 rfl ((rd_ne rfl rfl).eq (congrArg Value.bool (decide_eq_true (by omega)))) ?_ | refine ta 29 rfl ((rd_ne rfl rfl).eq (congrArg Value.bool (decide_eq_false (by omega)))) ?_
        refine ta 30 rfl (rd_pick rfl rfl) ?_
        refine ta 31 rfl (rd_move rfl) ?_
        first | refine ts 32 ?_ | refine ta 32 rfl (rd_fa rfl fld53_0) ?_
        first | refine ts 33 ?_ | refine ta 33 rfl (rd_ld rfl row25) ?_
        first | refine ts 34 ?_ | refine ta 34 rfl ((rd_ne rfl rfl).eq (congrArg Value.bool (decide_eq_true (by omega)))) ?_ | refine ta 34 rfl ((rd_ne rfl rfl).eq (congrArg Value.bool (decide_eq_false (by omega)))) ?_
        refine ta 35 rfl (rd_pick rfl rfl) ?_
        refine any_nil (by kernel_rfl) ?_
        refine St.then_n ?_
        exact St.sb (St.kq [(0, _), (1, _), (2, _), (8, _), (9, _), (10, _), (59, _)] (h := hK _ (by first | exact (hbad.2 (by omega)).symm | exact (Bool.eq_false_iff.2 (fun hh => absurd (hbad.1 hh) (by omega))).symm)))
      · refine do_draw [[1, 2, 3, 4, 5, 6, 7, 8, 9, 10, 11, 12, 13, 14, 15, 16, 17, 18, 19, 20, 21, 22, 23, 24, 25, 26, 27, 28, 29, 30, 31, 32, 33, 34, 35], [2, 3, 4, 5, 6, 7, 8, 9, 10, 11, 12, 13, 14, 15, 16, 17, 18, 19, 20, 21, 22, 23, 24, 25, 26, 27, 28, 29, 30, 31, 32, 33, 34, 35], [3, 4, 5, 6, 7, 8, 9, 10, 11, 12, 13, 14, 15, 16, 17, 18, 19, 20, 21, 22, 23, 24, 25, 26, 27, 28, 29, 30, 31, 32, 33, 34, 35], [4, 5, 6, 7, 8, 9, 10, 11, 12, 13, 14, 15, 16, 17, 18, 19, 20, 21, 22, 23, 24, 25, 26, 27, 28, 29, 30, 31, 32, 33, 34, 35], [5, 6, 7, 8, 9, 10, 11, 12, 13, 14, 15, 16, 17, 18, 19, 20, 21, 22, 23, 24, 25, 26, 27, 28, 29, 30, 31, 32, 33, 34, 35], [6, 7, 8, 9, 10, 11, 12, 13, 14, 15, 16, 17, 18, 19, 20, 21, 22, 23, 24, 25, 26, 27, 28, 29, 30, 31, 32, 33, 34, 35], [7, 8, 9, 10, 11, 12, 13, 14, 15, 16, 17, 18, 19, 20, 21, 22, 23, 24, 25, 26, 27, 28, 29, 30, 31, 32, 33, 34, 35], [8, 9, 10, 11, 12, 13, 14, 15, 16, 17, 18, 19, 20, 21, 22, 23, 24, 25, 26, 27, 28, 29, 30, 31, 32, 33, 34, 35], [9, 15, 16, 17, 18, 19, 20, 21, 22, 23, 24, 25, 26, 27, 28, 29, 30, 31, 32, 33, 34, 35], [15, 16, 17, 18, 19, 20, 21, 22, 23, 24, 25, 26, 27, 28, 29, 30, 31, 32, 33, 34, 35], [11, 12, 13, 14, 15, 16, 17, 18, 19, 20, 21, 22, 23, 24, 25, 26, 27, 28, 29, 30, 31, 32, 33, 34, 35], [12, 13, 14, 15, 16, 17, 18, 19, 20, 21, 22, 23, 24, 25, 26, 27, 28, 29, 30, 31, 32, 33, 34, 35], [13, 14, 15, 16, 17, 18, 19, 20, 21, 22, 23, 24, 25, 26, 27, 28, 29, 30, 31, 32, 33, 34, 35], [14, 15, 16, 17, 18, 19, 20, 21, 22, 23, 24, 25, 26, 27, 28, 29, 30, 31, 32, 33, 34, 35], [15, 16, 17, 18, 19, 20, 21, 22, 23, 24, 25, 26, 27, 28, 29, 30, 31, 32, 33, 34, 35], [16, 17, 18, 19, 20, 21, 22, 23, 24, 25, 26, 27, 28, 29, 30, 31, 32, 33, 34, 35], [17, 18, 19, 20, 21, 22, 23, 24, 25, 26, 27, 28, 29, 30, 31, 32, 33, 34, 35], [18, 19, 20, 21, 22, 23, 24, 25, 26, 27, 28, 29, 30, 31, 32, 33, 34, 35], [19, 20, 22, 23, 24, 25, 26, 27, 28, 29, 30, 31, 32, 33, 34, 35], [20, 22, 23, 24, 25, 26, 27, 28, 29, 30, 31, 32, 33, 34, 35], [22, 23, 24, 25, 26, 27, 28, 29, 30, 31, 32, 33, 34, 35], [22, 23, 24, 25, 26, 27, 28, 29, 30, 31, 32, 33, 34, 35], [23, 24, 25, 26, 27, 28, 29, 30, 31, 32, 33, 34, 35], [24, 25, 26, 27, 28, 29, 30, 31, 32, 33, 34, 35], [25, 26, 27, 28, 29, 30, 31, 32, 33, 34, 35], [26, 27, 29, 30, 31, 32, 33, 34, 35], [27, 29, 30, 31, 32, 33, 34, 35], [29, 30, 31, 32, 33, 34, 35], [29, 30, 31, 32, 33, 34, 35], [30, 31, 32, 33, 34, 35], [31, 32, 33, 34, 35], [32, 33, 34, 35], [33, 34, 35], [34, 35], [35], []] (by kernel_rfl) rfl ?_
        refine ta 0 rfl (rd_move rfl) ?_
        first | refine ta 1 rfl ((rd_eq rfl rfl).eq (congrArg Value.bool (decide_eq_true (by omega)))) ?_ | refine ta 1 rfl ((rd_eq rfl rfl).eq (congrArg Value.bool (decide_eq_false (by omega)))) ?_
        refine ta 2 rfl (rd_move rfl) ?_
        first | refine ts 3 ?_ | refine ta 3 rfl (rd_fa rfl fld49_0) ?_
        first | refine ts 4 ?_ | refine ta 4 rfl (rd_ld rfl row3) ?_
        first | refine ts 5 ?_ | refine ta 5 rfl ((rd_lt rfl rfl).eq (congrArg Value.bool (decide_eq_true (by omega)))) ?_ | refine ta 5 rfl ((rd_lt rfl rfl).eq (congrArg Value.bool (decide_eq_false (by omega)))) ?_
        refine ta 6 rfl (rd_pick rfl rfl) ?_
        refine ta 7 rfl (rd_move rfl) ?_
        first | refine ts 8 ?_ | refine ta 8 rfl (rd_fa rfl fld49_0) ?_
        first | refine ts 9 ?_ | refine ta 9 rfl (rd_ld rfl row3) ?_
        first | refine ts 10 ?_ | refine ta 10 rfl (rd_move rfl) ?_
        first | refine ts 11 ?_ | refine ta 11 rfl (rd_nilCheck rfl) ?_
        first | refine ts 12 ?_ | refine ta 12 rfl (rd_fa rfl fld162_3) ?_
        first | refine ts 13 ?_ | refine ta 13 rfl (rd_ld rfl row160) ?_
        first | refine ts 14 ?_ | refine ta 14 rfl (rd_len Try.underlying160 rfl) ?_
        first | refine ts 15 ?_ | refine ta 15 rfl ((rd_gt rfl rfl).eq (congrArg Value.bool (decide_eq_true (by omega)))) ?_ | refine ta 15 rfl ((rd_gt rfl rfl).eq (congrArg Value.bool (decide_eq_false (by omega)))) ?_
        refine ta 16 rfl (rd_pick rfl rfl) ?_
        refine ta 17 rfl (rd_move rfl) ?_
        first | refine ts 18 ?_ | refine ta 18 rfl (rd_fa rfl fld49_1) ?_
        first | refine ts 19 ?_ | refine ta 19 rfl (rd_fa rfl fld47_0) ?_
        first | refine ts 20 ?_ | refine ta 20 rfl (rd_ld rfl row3) ?_
        first | refine ts 21 ?_ | refine ta 21 rfl (rd_move rfl) ?_
        first | refine ts 22 ?_ | refine ta 22 rfl ((rd_ne rfl rfl).eq (congrArg Value.bool (decide_eq_true (by omega)))) ?_ | refine ta 22 rfl ((rd_ne rfl rfl).eq (congrArg Value.bool (decide_eq_false (by omega)))) ?_
        refine ta 23 rfl (rd_pick rfl rfl) ?_
        refine ta 24 rfl (rd_move rfl) ?_
        first | refine ts 25 ?_ | refine ta 25 rfl (rd_fa rfl fld49_1) ?_
        first | refine ts 26 ?_ | refine ta 26 rfl (rd_fa rfl fld47_7) ?_
        first | refine ts 27 ?_ | refine ta 27 rfl (rd_ld rfl row2) ?_
        first | refine ts 28 ?_ | refine ta 28 rfl (rd_move rfl) ?_
        first | refine ts 29 ?_ | refine ta 29 rfl ((rd_ne rfl rfl).eq (congrArg Value.bool (decide_eq_true (by omega)))) ?_ | refine ta 29 rfl ((rd_ne rfl rfl).eq (congrArg Value.bool (decide_eq_false (by omega)))) ?_
        refine ta 30 rfl (rd_pick rfl rfl) ?_
        refine ta 31 rfl (rd_move rfl) ?_
        first | refine ts 32 ?_ | refine ta 32 rfl (rd_fa rfl fld53_0) ?_
        first | refine ts 33 ?_ | refine ta 33 rfl (rd_ld rfl row25) ?_
        first | refine ts 34 ?_ | refine ta 34 rfl ((rd_ne rfl rfl).eq (congrArg Value.bool (decide_eq_true (by omega)))) ?_ | refine ta 34 rfl ((rd_ne rfl rfl).eq (congrArg Value.bool (decide_eq_false (by omega)))) ?_
        refine ta 35 rfl (rd_pick rfl rfl) ?_
        refine any_nil (by kernel_rfl) ?_
        refine St.then_n ?_
        exact St.sb (St.kq [(0, _), (1, _), (2, _), (8, _), (9, _), (10, _), (59, _)] (h := hK _ (by first | exact (hbad.2 (by omega)).symm | exact (Bool.eq_false_iff.2 (fun hh => absurd (hbad.1 hh) (by omega))).symm)))
      · refine do_draw [[1, 2, 3, 4, 5, 6, 7, 8, 9, 10, 11, 12, 13, 14, 15, 16, 17, 18, 19, 20, 21, 22, 23, 24, 25, 26, 27, 28, 29, 30, 31, 32, 33, 34, 35], [2, 3, 4, 5, 6, 7, 8, 9, 10, 11, 12, 13, 14, 15, 16, 17, 18, 19, 20, 21, 22, 23, 24, 25, 26, 27, 28, 29, 30, 31, 32, 33, 34, 35], [3, 4, 5, 6, 7, 8, 9, 10, 11, 12, 13, 14, 15, 16, 17, 18, 19, 20, 21, 22, 23, 24, 25, 26, 27, 28, 29, 30, 31, 32, 33, 34, 35], [4, 5, 6, 7, 8, 9, 10, 11, 12, 13, 14, 15, 16, 17, 18, 19, 20, 21, 22, 23, 24, 25, 26, 27, 28, 29, 30, 31, 32, 33, 34, 35], [5, 6, 7, 8, 9, 10, 11, 12, 13, 14, 15, 16, 17, 18, 19, 20, 21, 22, 23, 24, 25, 26, 27, 28, 29, 30, 31, 32, 33, 34, 35], [6, 7, 8, 9, 10, 11, 12, 13, 14, 15, 16, 17, 18, 19, 20, 21, 22, 23, 24, 25, 26, 27, 28, 29, 30, 31, 32, 33, 34, 35], [7, 8, 9, 10, 11, 12, 13, 14, 15, 16, 17, 18, 19, 20, 21, 22, 23, 24, 25, 26, 27, 28, 29, 30, 31, 32, 33, 34, 35], [8, 9, 10, 11, 12, 13, 14, 15, 16, 17, 18, 19, 20, 21, 22, 23, 24, 25, 26, 27, 28, 29, 30, 31, 32, 33, 34, 35], [9, 15, 16, 17, 18, 19, 20, 21, 22, 23, 24, 25, 26, 27, 28, 29, 30, 31, 32, 33, 34, 35], [15, 16, 17, 18, 19, 20, 21, 22, 23, 24, 25, 26, 27, 28, 29, 30, 31, 32, 33, 34, 35], [11, 12, 13, 14, 15, 16, 17, 18, 19, 20, 21, 22, 23, 24, 25, 26, 27, 28, 29, 30, 31, 32, 33, 34, 35], [12, 13, 14, 15, 16, 17, 18, 19, 20, 21, 22, 23, 24, 25, 26, 27, 28, 29, 30, 31, 32, 33, 34, 35], [13, 14, 15, 16, 17, 18, 19, 20, 21, 22, 23, 24, 25, 26, 27, 28, 29, 30, 31, 32, 33, 34, 35], [14, 15, 16, 17, 18, 19, 20, 21, 22, 23, 24, 25, 26, 27, 28, 29, 30, 31, 32, 33, 34, 35], [15, 16, 17, 18, 19, 20, 21, 22, 23, 24, 25, 26, 27, 28, 29, 30, 31, 32, 33, 34, 35], [16, 17, 18, 19, 20, 21, 22, 23, 24, 25, 26, 27, 28, 29, 30, 31, 32, 33, 34, 35], [17, 18, 19, 20, 21, 22, 23, 24, 25, 26, 27, 28, 29, 30, 31, 32, 33, 34, 35], [18, 19, 20, 21, 22, 23, 24, 25, 26, 27, 28, 29, 30, 31, 32, 33, 34, 35], [19, 20, 22, 23, 24, 25, 26, 27, 28, 29, 30, 31, 32, 33, 34, 35], [20, 22, 23, 24, 25, 26, 27, 28, 29, 30, 31, 32, 33, 34, 35], [22, 23, 24, 25, 26, 27, 28, 29, 30, 31, 32, 33, 34, 35], [22, 23, 24, 25, 26, 27, 28, 29, 30, 31, 32, 33, 34, 35], [23, 24, 25, 26, 27, 28, 29, 30, 31, 32, 33, 34, 35], [24, 25, 26, 27, 28, 29, 30, 31, 32, 33, 34, 35], [25, 26, 27, 28, 29, 30, 31, 32, 33, 34, 35], [26, 27, 29, 30, 31, 32, 33, 34, 35], [27, 29, 30, 31, 32, 33, 34, 35], [29, 30, 31, 32, 33, 34, 35], [29, 30, 31, 32, 33, 34, 35], [30, 31, 32, 33, 34, 35], [31, 32, 33, 34, 35], [32, 33, 34, 35], [33, 34, 35], [34, 35], [35], []] (by kernel_rfl) rfl ?_
        refine ta 0 rfl (rd_move rfl) ?_
        first | refine ta 1 rfl ((rd_eq rfl rfl).eq (congrArg Value.bool (decide_eq_true (by omega)))) ?_ | refine ta 1 rfl ((rd_eq rfl rfl).eq (congrArg Value.bool (decide_eq_false (by omega)))) ?_
        refine ta 2 rfl (rd_move rfl) ?_
        first | refine ts 3 ?_ | refine ta 3 rfl (rd_fa rfl fld49_0) ?_
        first | refine ts 4 ?_ | refine ta 4 rfl (rd_ld rfl row3) ?_
        first | refine ts 5 ?_ | refine ta 5 rfl ((rd_lt rfl rfl).eq (congrArg Value.bool (decide_eq_true (by omega)))) ?_ | refine ta 5 rfl ((rd_lt rfl rfl).eq (congrArg Value.bool (decide_eq_false (by omega)))) ?_
        refine ta 6 rfl (rd_pick rfl rfl) ?_
        refine ta 7 rfl (rd_move rfl) ?_
        first | refine ts 8 ?_ | refine ta 8 rfl (rd_fa rfl fld49_0) ?_
        first | refine ts 9 ?_ | refine ta 9 rfl (rd_ld rfl row3) ?_
        first | refine ts 10 ?_ | refine ta 10 rfl (rd_move rfl) ?_
        first | refine ts 11 ?_ | refine ta 11 rfl (rd_nilCheck rfl) ?_
        first | refine ts 12 ?_ | refine ta 12 rfl (rd_fa rfl fld162_3) ?_
        first | refine ts 13 ?_ | refine ta 13 rfl (rd_ld rfl row160) ?_
        first | refine ts 14 ?_ | refine ta 14 rfl (rd_len Try.underlying160 rfl) ?_
        first | refine ts 15 ?_ | refine ta 15 rfl ((rd_gt rfl rfl).eq (congrArg Value.bool (decide_eq_true (by omega)))) ?_ | refine ta 15 rfl ((rd_gt rfl rfl).eq (congrArg Value.bool (decide_eq_false (by omega)))) ?_
        refine ta 16 rfl (rd_pick rfl rfl) ?_
        refine ta 17 rfl (rd_move rfl) ?_
        first | refine ts 18 ?_ | refine ta 18 rfl (rd_fa rfl fld49_1) ?_
        first | refine ts 19 ?_ | refine ta 19 rfl (rd_fa rfl fld47_0) ?_
        first | refine ts 20 ?_ | refine ta 20 rfl (rd_ld rfl row3) ?_
        first | refine ts 21 ?_ | refine ta 21 rfl (rd_move rfl) ?_
        first | refine ts 22 ?_ | refine ta 22 rfl ((rd_ne rfl rfl).eq (congrArg Value.bool (decide_eq_true (by omega)))) ?_ | refine ta 22 rfl ((rd_ne rfl rfl).eq (congrArg Value.bool (decide_eq_false (by omega)))) ?_
        refine ta 23 rfl (rd_pick rfl rfl) ?_
        refine ta 24 rfl (rd_move rfl) ?_
        first | refine ts 25 ?_ | refine ta 25 rfl (rd_fa rfl fld49_1) ?_
        first | refine ts 26 ?_ | refine ta 26 rfl (rd_fa rfl fld47_7) ?_
        first | refine ts 27 ?_ | refine ta 27 rfl (rd_ld rfl row2) ?_
        first | refine ts 28 ?_ | refine ta 28 rfl (rd_move rfl) ?_
        first | refine ts 29 ?_ | refine ta 29 rfl ((rd_ne rfl rfl).eq (congrArg Value.bool (decide_eq_true (by omega)))) ?_ | refine ta 29 rfl ((rd_ne rfl rfl).eq (congrArg Value.bool (decide_eq_false (by omega)))) ?_
        refine ta 30 rfl (rd_pick rfl rfl) ?_
        refine ta 31 rfl (rd_move rfl) ?_
        first | refine ts 32 ?_ | refine ta 32 rfl (rd_fa rfl fld53_0) ?_
        first | refine ts 33 ?_ | refine ta 33 rfl (rd_ld rfl row25) ?_
        first | refine ts 34 ?_ | refine ta 34 rfl ((rd_ne rfl rfl).eq (congrArg Value.bool (decide_eq_true (by omega)))) ?_ | refine ta 34 rfl ((rd_ne rfl rfl).eq (congrArg Value.bool (decide_eq_false (by omega)))) ?_
        refine ta 35 rfl (rd_pick rfl rfl) ?_
        refine any_nil (by kernel_rfl) ?_
        refine St.then_n ?_
        exact St.sb (St.kq [(0, _), (1, _), (2, _), (8, _), (9, _), (10, _), (59, _)] (h := hK _ (by first | exact (hbad.2 (by omega)).symm | exact (Bool.eq_false_iff.2 (fun hh => absurd (hbad.1 hh) (by omega))).symm)))
      · refine do_draw [[1, 2, 3, 4, 5, 6, 7, 8, 9, 10, 11, 12, 13, 14, 15, 16, 17, 18, 19, 20, 21, 22, 23, 24, 25, 26, 27, 28, 29, 30, 31, 32, 33, 34, 35], [2, 3, 4, 5, 6, 7, 8, 9, 10, 11, 12, 13, 14, 15, 16, 17, 18, 19, 20, 21, 22, 23, 24, 25, 26, 27, 28, 29, 30, 31, 32, 33, 34, 35], [3, 4, 5, 6, 7, 8, 9, 10, 11, 12, 13, 14, 15, 16, 17, 18, 19, 20, 21, 22, 23, 24, 25, 26, 27, 28, 29, 30, 31, 32, 33, 34, 35], [4, 5, 6, 7, 8, 9, 10, 11, 12, 13, 14, 15, 16, 17, 18, 19, 20, 21, 22, 23, 24, 25, 26, 27, 28, 29, 30, 31, 32, 33, 34, 35], [5, 6, 7, 8, 9, 10, 11, 12, 13, 14, 15, 16, 17, 18, 19, 20, 21, 22, 23, 24, 25, 26, 27, 28, 29, 30, 31, 32, 33, 34, 35], [6, 7, 8, 9, 10, 11, 12, 13, 14, 15, 16, 17, 18, 19, 20, 21, 22, 23, 24, 25, 26, 27, 28, 29, 30, 31, 32, 33, 34, 35], [7, 8, 9, 10, 11, 12, 13, 14, 15, 16, 17, 18, 19, 20, 21, 22, 23, 24, 25, 26, 27, 28, 29, 30, 31, 32, 33, 34, 35], [8, 9, 10, 11, 12, 13, 14, 15, 16, 17, 18, 19, 20, 21, 22, 23, 24, 25, 26, 27, 28, 29, 30, 31, 32, 33, 34, 35], [9, 15, 16, 17, 18, 19, 20, 21, 22, 23, 24, 25, 26, 27, 28, 29, 30, 31, 32, 33, 34, 35], [15, 16, 17, 18, 19, 20, 21, 22, 23, 24, 25, 26, 27, 28, 29, 30, 31, 32, 33, 34, 35], [11, 12, 13, 14, 15, 16, 17, 18, 19, 20, 21, 22, 23, 24, 25, 26, 27, 28, 29, 30, 31, 32, 33, 34, 35], [12, 13, 14, 15, 16, 17, 18, 19, 20, 21, 22, 23, 24, 25, 26, 27, 28, 29, 30, 31, 32, 33, 34, 35], [13, 14, 15, 16, 17, 18, 19, 20, 21, 22, 23, 24, 25, 26, 27, 28, 29, 30, 31, 32, 33, 34, 35], [14, 15, 16, 17, 18, 19, 20, 21, 22, 23, 24, 25, 26, 27, 28, 29, 30, 31, 32, 33, 34, 35], [15, 16, 17, 18, 19, 20, 21, 22, 23, 24, 25, 26, 27, 28, 29, 30, 31, 32, 33, 34, 35], [16, 17, 18, 19, 20, 21, 22, 23, 24, 25, 26, 27, 28, 29, 30, 31, 32, 33, 34, 35], [17, 18, 19, 20, 21, 22, 23, 24, 25, 26, 27, 28, 29, 30, 31, 32, 33, 34, 35], [18, 19, 20, 21, 22, 23, 24, 25, 26, 27, 28, 29, 30, 31, 32, 33, 34, 35], [19, 20, 22, 23, 24, 25, 26, 27, 28, 29, 30, 31, 32, 33, 34, 35], [20, 22, 23, 24, 25, 26, 27, 28, 29, 30, 31, 32, 33, 34, 35], [22, 23, 24, 25, 26, 27, 28, 29, 30, 31, 32, 33, 34, 35], [22, 23, 24, 25, 26, 27, 28, 29, 30, 31, 32, 33, 34, 35], [23, 24, 25, 26, 27, 28, 29, 30, 31, 32, 33, 34, 35], [24, 25, 26, 27, 28, 29, 30, 31, 32, 33, 34, 35], [25, 26, 27, 28, 29, 30, 31, 32, 33, 34, 35], [26, 27, 29, 30, 31, 32, 33, 34, 35], [27, 29, 30, 31, 32, 33, 34, 35], [29, 30, 31, 32, 33, 34, 35], [29, 30, 31, 32, 33, 34, 35], [30, 31, 32, 33, 34, 35], [31, 32, 33, 34, 35], [32, 33, 34, 35], [33, 34, 35], [34, 35], [35], []] (by kernel_rfl) rfl ?_
        refine ta 0 rfl (rd_move rfl) ?_
        first | refine ta 1 rfl ((rd_eq rfl rfl).eq (congrArg Value.bool (decide_eq_true (by omega)))) ?_ | refine ta 1 rfl ((rd_eq rfl rfl).eq (congrArg Value.bool (decide_eq_false (by omega)))) ?_
        refine ta 2 rfl (rd_move rfl) ?_
        first | refine ts 3 ?_ | refine ta 3 rfl (rd_fa rfl fld49_0) ?_
        first | refine ts 4 ?_ | refine ta 4 rfl (rd_ld rfl row3) ?_
        first | refine ts 5 ?_ | refine ta 5 rfl ((rd_lt rfl rfl).eq (congrArg Value.bool (decide_eq_true (by omega)))) ?_ | refine ta 5 rfl ((rd_lt rfl rfl).eq (congrArg Value.bool (decide_eq_false (by omega)))) ?_
        refine ta 6 rfl (rd_pick rfl rfl) ?_
        refine ta 7 rfl (rd_move rfl) ?_
        first | refine ts 8 ?_ | refine ta 8 rfl (rd_fa rfl fld49_0) ?_
        first | refine ts 9 ?_ | refine ta 9 rfl (rd_ld rfl row3) ?_
        first | refine ts 10 ?_ | refine ta 10 rfl (rd_move rfl) ?_
        first | refine ts 11 ?_ | refine ta 11 rfl (rd_nilCheck rfl) ?_
        first | refine ts 12 ?_ | refine ta 12 rfl (rd_fa rfl fld162_3) ?_
        first | refine ts 13 ?_ | refine ta 13 rfl (rd_ld rfl row160) ?_
        first | refine ts 14 ?_ | refine ta 14 rfl (rd_len Try.underlying160 rfl) ?_
        first | refine ts 15 ?_ | refine ta 15 rfl ((rd_gt rfl rfl).eq (congrArg Value.bool (decide_eq_true (by omega)))) ?_ | refine ta 15 rfl ((rd_gt rfl rfl).eq (congrArg Value.bool (decide_eq_false (by omega)))) ?_
        refine ta 16 rfl (rd_pick rfl rfl) ?_
        refine ta 17 rfl (rd_move rfl) ?_
        first | refine ts 18 ?_ | refine ta 18 rfl (rd_fa rfl fld49_1) ?_
        first | refine ts 19 ?_ | refine ta 19 rfl (rd_fa rfl fld47_0) ?_
        first | refine ts 20 ?_ | refine ta 20 rfl (rd_ld rfl row3) ?_
        first | refine ts 21 ?_ | refine ta 21 rfl (rd_move rfl) ?_
        first | refine ts 22 ?_ | refine ta 22 rfl ((rd_ne rfl rfl).eq (congrArg Value.bool (decide_eq_true (by omega)))) ?_ | refine ta 22 rfl ((rd_ne rfl rfl).eq (congrArg Value.bool (decide_eq_false (by omega)))) ?_
        refine ta 23 rfl (rd_pick rfl rfl) ?_
        refine ta 24 rfl (rd_move rfl) ?_
        first | refine ts 25 ?_ | refine ta 25 rfl (rd_fa rfl fld49_1) ?_
        first | refine ts 26 ?_ | refine ta 26 rfl (rd_fa rfl fld47_7) ?_
        first | refine ts 27 ?_ | refine ta 27 rfl (rd_ld rfl row2) ?_
        first | refine ts 28 ?_ | refine ta 28 rfl (rd_move rfl) ?_
        first | refine ts 29 ?_ | refine ta 29 rfl ((rd_ne rfl rfl).eq (congrArg Value.bool (decide_eq_true (by omega)))) ?_ | refine ta 29 rfl ((rd_ne rfl rfl).eq (congrArg Value.bool (decide_eq_false (by omega)))) ?_
        refine ta 30 rfl (rd_pick rfl rfl) ?_
        refine ta 31 rfl (rd_move rfl) ?_
        first | refine ts 32 ?_ | refine ta 32 rfl (rd_fa rfl fld53_0) ?_
        first | refine ts 33 ?_ | refine ta 33 rfl (rd_ld rfl row25) ?_
        first | refine ts 34 ?_ | refine ta 34 rfl ((rd_ne rfl rfl).eq (congrArg Value.bool (decide_eq_true (by omega)))) ?_ | refine ta 34 rfl ((rd_ne rfl rfl).eq (congrArg Value.bool (decide_eq_false (by omega)))) ?_
        refine ta 35 rfl (rd_pick rfl rfl) ?_
        refine any_nil (by kernel_rfl) ?_
        refine St.then_n ?_
        exact St.sb (St.kq [(0, _), (1, _), (2, _), (8, _), (9, _), (10, _), (59, _)] (h := hK _ (by first | exact (hbad.2 (by omega)).symm | exact (Bool.eq_false_iff.2 (fun hh => absurd (hbad.1 hh) (by omega))).symm)))
      · refine do_draw [[1, 2, 3, 4, 5, 6, 7, 8, 9, 10, 11, 12, 13, 14, 15, 16, 17, 18, 19, 20, 21, 22, 23, 24, 25, 26, 27, 28, 29, 30, 31, 32, 33, 34, 35], [2, 3, 4, 5, 6, 7, 8, 9, 10, 11, 12, 13, 14, 15, 16, 17, 18, 19, 20, 21, 22, 23, 24, 25, 26, 27, 28, 29, 30, 31, 32, 33, 34, 35], [3, 4, 5, 6, 7, 8, 9, 10, 11, 12, 13, 14, 15, 16, 17, 18, 19, 20, 21, 22, 23, 24, 25, 26, 27, 28, 29, 30, 31, 32, 33, 34, 35], [4, 5, 6, 7, 8, 9, 10, 11, 12, 13, 14, 15, 16, 17, 18, 19, 20, 21, 22, 23, 24, 25, 26, 27, 28, 29, 30, 31, 32, 33, 34, 35], [5, 6, 7, 8, 9, 10, 11, 12, 13, 14, 15, 16, 17, 18, 19, 20, 21, 22, 23, 24, 25, 26, 27, 28, 29, 30, 31, 32, 33, 34, 35], [6, 7, 8, 9, 10, 11, 12, 13, 14, 15, 16, 17, 18, 19, 20, 21, 22, 23, 24, 25, 26, 27, 28, 29, 30, 31, 32, 33, 34, 35], [7, 8, 9, 10, 11, 12, 13, 14, 15, 16, 17, 18, 19, 20, 21, 22, 23, 24, 25, 26, 27, 28, 29, 30, 31, 32, 33, 34, 35], [8, 9, 10, 11, 12, 13, 14, 15, 16, 17, 18, 19, 20, 21, 22, 23, 24, 25, 26, 27, 28, 29, 30, 31, 32, 33, 34, 35], [9, 15, 16, 17, 18, 19, 20, 21, 22, 23, 24, 25, 26, 27, 28, 29, 30, 31, 32, 33, 34, 35], [15, 16, 17, 18, 19, 20, 21, 22, 23, 24, 25, 26, 27, 28, 29, 30, 31, 32, 33, 34, 35], [11, 12, 13, 14, 15, 16, 17, 18, 19, 20, 21, 22, 23, 24, 25, 26, 27, 28, 29, 30, 31, 32, 33, 34, 35], [12, 13, 14, 15, 16, 17, 18, 19, 20, 21, 22, 23, 24, 25, 26, 27, 28, 29, 30, 31, 32, 33, 34, 35], [13, 14, 15, 16, 17, 18, 19, 20, 21, 22, 23, 24, 25, 26, 27, 28, 29, 30, 31, 32, 33, 34, 35], [14, 15, 16, 17, 18, 19, 20, 21, 22, 23, 24, 25, 26, 27, 28, 29, 30, 31, 32, 33, 34, 35], [15, 16, 17, 18, 19, 20, 21, 22, 23, 24, 25, 26, 27, 28, 29, 30, 31, 32, 33, 34, 35], [16, 17, 18, 19, 20, 21, 22, 23, 24, 25, 26, 27, 28, 29, 30, 31, 32, 33, 34, 35], [17, 18, 19, 20, 21, 22, 23, 24, 25, 26, 27, 28, 29, 30, 31, 32, 33, 34, 35], [18, 19, 20, 21, 22, 23, 24, 25, 26, 27, 28, 29, 30, 31, 32, 33, 34, 35], [19, 20, 22, 23, 24, 25, 26, 27, 28, 29, 30, 31, 32, 33, 34, 35], [20, 22, 23, 24, 25, 26, 27, 28, 29, 30, 31, 32, 33, 34, 35], [22, 23, 24, 25, 26, 27, 28, 29, 30, 31, 32, 33, 34, 35], [22, 23, 24, 25, 26, 27, 28, 29, 30, 31, 32, 33, 34, 35], [23, 24, 25, 26, 27, 28, 29, 30, 31, 32, 33, 34, 35], [24, 25, 26, 27, 28, 29, 30, 31, 32, 33, 34, 35], [25, 26, 27, 28, 29, 30, 31, 32, 33, 34, 35], [26, 27, 29, 30, 31, 32, 33, 34, 35], [27, 29, 30, 31, 32, 33, 34, 35], [29, 30, 31, 32, 33, 34, 35], [29, 30, 31, 32, 33, 34, 35], [30, 31, 32, 33, 34, 35], [31, 32, 33, 34, 35], [32, 33, 34, 35], [33, 34, 35], [34, 35], [35], []] (by kernel_rfl) rfl ?_
        refine ta 0 rfl (rd_move rfl) ?_
        first | refine ta 1 rfl ((rd_eq rfl rfl).eq (congrArg Value.bool (decide_eq_true (by omega)))) ?_ | refine ta 1 rfl ((rd_eq rfl rfl).eq (congrArg Value.bool (decide_eq_false (by omega)))) ?_
        refine ta 2 rfl (rd_move rfl) ?_
        first | refine ts 3 ?_ | refine ta 3 rfl (rd_fa rfl fld49_0) ?_
        first | refine ts 4 ?_ | refine ta 4 rfl (rd_ld rfl row3) ?_
        first | refine ts 5 ?_ | refine ta 5 rfl ((rd_lt rfl rfl).eq (congrArg Value.bool (decide_eq_true (by omega)))) ?_ | refine ta 5 rfl ((rd_lt rfl rfl).eq (congrArg Value.bool (decide_eq_false (by omega)))) ?_
        refine ta 6 rfl (rd_pick rfl rfl) ?_
        refine ta 7 rfl (rd_move rfl) ?_
        first | refine ts 8 ?_ | refine ta 8 rfl (rd_fa rfl fld49_0) ?_
        first | refine ts 9 ?_ | refine ta 9 rfl (rd_ld rfl row3) ?_
        first | refine ts 10 ?_ | refine ta 10 rfl (rd_move rfl) ?_
        first | refine ts 11 ?_ | refine ta 11 rfl (rd_nilCheck rfl) ?_
        first | refine ts 12 ?_ | refine ta 12 rfl (rd_fa rfl fld162_3) ?_
        first | refine ts 13 ?_ | refine ta 13 rfl (rd_ld rfl row160) ?_
        first | refine ts 14 ?_ | refine ta 14 rfl (rd_len Try.underlying160 rfl) ?_
        first | refine ts 15 ?_ | refine ta 15 rfl ((rd_gt rfl rfl).eq (congrArg Value.bool (decide_eq_true (by omega)))) ?_ | refine ta 15 rfl ((rd_gt rfl rfl).eq (congrArg Value.bool (decide_eq_false (by omega)))) ?_
        refine ta 16 rfl (rd_pick rfl rfl) ?_
        refine ta 17 rfl (rd_move rfl) ?_
        first | refine ts 18 ?_ | refine ta 18 rfl (rd_fa rfl fld49_1) ?_
        first | refine ts 19 ?_ | refine ta 19 rfl (rd_fa rfl fld47_0) ?_
        first | refine ts 20 ?_ | refine ta 20 rfl (rd_ld rfl row3) ?_
        first | refine ts 21 ?_ | refine ta 21 rfl (rd_move rfl) ?_
        first | refine ts 22 ?_ | refine ta 22 rfl ((rd_ne rfl rfl).eq (congrArg Value.bool (decide_eq_true (by omega)))) ?_ | refine ta 22 rfl ((rd_ne rfl rfl).eq (congrArg Value.bool (decide_eq_false (by omega)))) ?_
        refine ta 23 rfl (rd_pick rfl rfl) ?_
        refine ta 24 rfl (rd_move rfl) ?_
        first | refine ts 25 ?_ | refine ta 25 rfl (rd_fa rfl fld49_1) ?_
        first | refine ts 26 ?_ | refine ta 26 rfl (rd_fa rfl fld47_7) ?_
        first | refine ts 27 ?_ | refine ta 27 rfl (rd_ld rfl row2) ?_
        first | refine ts 28 ?_ | refine ta 28 rfl (rd_move rfl) ?_
        first | refine ts 29 ?_ | refine ta 29 rfl ((rd_ne rfl rfl).eq (congrArg Value.bool (decide_eq_true (by omega)))) ?_ | refine ta 29 rfl ((rd_ne rfl rfl).eq (congrArg Value.bool (decide_eq_false (by omega)))) ?_
        refine ta 30 rfl (rd_pick rfl rfl) ?_
        refine ta 31 rfl (rd_move rfl) ?_
        first | refine ts 32 ?_ | refine ta 32 rfl (rd_fa rfl fld53_0) ?_
        first | refine ts 33 ?_ | refine ta 33 rfl (rd_ld rfl row25) ?_
        first | refine ts 34 ?_ | refine ta 34 rfl ((rd_ne rfl rfl).eq (congrArg Value.bool (decide_eq_true (by omega)))) ?_ | refine ta 34 rfl ((rd_ne rfl rfl).eq (congrArg Value.bool (decide_eq_false (by omega)))) ?_
        refine ta 35 rfl (rd_pick rfl rfl) ?_
        refine any_nil (by kernel_rfl) ?_
        refine St.then_n ?_
        exact St.sb (St.kq [(0, _), (1, _), (2, _), (8, _), (9, _), (10, _), (59, _)] (h := hK _ (by first | exact (hbad.2 (by omega)).symm | exact (Bool.eq_false_iff.2 (fun hh => absurd (hbad.1 hh) (by omega))).symm)))
      · refine do_draw [[1, 2, 3, 4, 5, 6, 7, 8, 9, 10, 11, 12, 13, 14, 15, 16, 17, 18, 19, 20, 21, 22, 23, 24, 25, 26, 27, 28, 29, 30, 31, 32, 33, 34, 35], [2, 3, 4, 5, 6, 7, 8, 9, 10, 11, 12, 13, 14, 15, 16, 17, 18, 19, 20, 21, 22, 23, 24, 25, 26, 27, 28, 29, 30, 31, 32, 33, 34, 35], [3, 4, 5, 6, 7, 8, 9, 10, 11, 12, 13, 14, 15, 16, 17, 18, 19, 20, 21, 22, 23, 24, 25, 26, 27, 28, 29, 30, 31, 32, 33, 34, 35], [4, 5, 6, 7, 8, 9, 10, 11, 12, 13, 14, 15, 16, 17, 18, 19, 20, 21, 22, 23, 24, 25, 26, 27, 28, 29, 30, 31, 32, 33, 34, 35], [5, 6, 7, 8, 9, 10, 11, 12, 13, 14, 15, 16, 17, 18, 19, 20, 21, 22, 23, 24, 25, 26, 27, 28, 29, 30, 31, 32, 33, 34, 35], [6, 7, 8, 9, 10, 11, 12, 13, 14, 15, 16, 17, 18, 19, 20, 21, 22, 23, 24, 25, 26, 27, 28, 29, 30, 31, 32, 33, 34, 35], [7, 8, 9, 10, 11, 12, 13, 14, 15, 16, 17, 18, 19, 20, 21, 22, 23, 24, 25, 26, 27, 28, 29, 30, 31, 32, 33, 34, 35], [8, 9, 10, 11, 12, 13, 14, 15, 16, 17, 18, 19, 20, 21, 22, 23, 24, 25, 26, 27, 28, 29, 30, 31, 32, 33, 34, 35], [9, 15, 16, 17, 18, 19, 20, 21, 22, 23, 24, 25, 26, 27, 28, 29, 30, 31, 32, 33, 34, 35], [15, 16, 17, 18, 19, 20, 21, 22, 23, 24, 25, 26, 27, 28, 29, 30, 31, 32, 33, 34, 35], [11, 12, 13, 14, 15, 16, 17, 18, 19, 20, 21, 22, 23, 24, 25, 26, 27, 28, 29, 30, 31, 32, 33, 34, 35], [12, 13, 14, 15, 16, 17, 18, 19, 20, 21, 22, 23, 24, 25, 26, 27, 28, 29, 30, 31, 32, 33, 34, 35], [13, 14, 15, 16, 17, 18, 19, 20, 21, 22, 23, 24, 25, 26, 27, 28, 29, 30, 31, 32, 33, 34, 35], [14, 15, 16, 17, 18, 19, 20, 21, 22, 23, 24, 25, 26, 27, 28, 29, 30, 31, 32, 33, 34, 35], [15, 16, 17, 18, 19, 20, 21, 22, 23, 24, 25, 26, 27, 28, 29, 30, 31, 32, 33, 34, 35], [16, 17, 18, 19, 20, 21, 22, 23, 24, 25, 26, 27, 28, 29, 30, 31, 32, 33, 34, 35], [17, 18, 19, 20, 21, 22, 23, 24, 25, 26, 27, 28, 29, 30, 31, 32, 33, 34, 35], [18, 19, 20, 21, 22, 23, 24, 25, 26, 27, 28, 29, 30, 31, 32, 33, 34, 35], [19, 20, 22, 23, 24, 25, 26, 27, 28, 29, 30, 31, 32, 33, 34, 35], [20, 22, 23, 24, 25, 26, 27, 28, 29, 30, 31, 32, 33, 34, 35], [22, 23, 24, 25, 26, 27, 28, 29, 30, 31, 32, 33, 34, 35], [22, 23, 24, 25, 26, 27, 28, 29, 30, 31, 32, 33, 34, 35], [23, 24, 25, 26, 27, 28, 29, 30, 31, 32, 33, 34, 35], [24, 25, 26, 27, 28, 29, 30, 31, 32, 33, 34, 35], [25, 26, 27, 28, 29, 30, 31, 32, 33, 34, 35], [26, 27, 29, 30, 31, 32, 33, 34, 35], [27, 29, 30, 31, 32, 33, 34, 35], [29, 30, 31, 32, 33, 34, 35], [29, 30, 31, 32, 33, 34, 35], [30, 31, 32, 33, 34, 35], [31, 32, 33, 34, 35], [32, 33, 34, 35], [33, 34, 35], [34, 35], [35], []] (by kernel_rfl) rfl ?_
        refine ta 0 rfl (rd_move rfl) ?_
        first | refine ta 1 rfl ((rd_eq rfl rfl).eq (congrArg Value.bool (decide_eq_true (by omega)))) ?_ | refine ta 1 rfl ((rd_eq rfl rfl).eq (congrArg Value.bool (decide_eq_false (by omega)))) ?_
        refine ta 2 rfl (rd_move rfl) ?_
        first | refine ts 3 ?_ | refine ta 3 rfl (rd_fa rfl fld49_0) ?_
        first | refine ts 4 ?_ | refine ta 4 rfl (rd_ld rfl row3) ?_
        first | refine ts 5 ?_ | refine ta 5 rfl ((rd_lt rfl rfl).eq (congrArg Value.bool (decide_eq_true (by omega)))) ?_ | refine ta 5 rfl ((rd_lt rfl rfl).eq (congrArg Value.bool (decide_eq_false (by omega)))) ?_
        refine ta 6 rfl (rd_pick rfl rfl) ?_
        refine ta 7 rfl (rd_move rfl) ?_
        first | refine ts 8 ?_ | refine ta 8 rfl (rd_fa rfl fld49_0) ?_
        first | refine ts 9 ?_ | refine ta 9 rfl (rd_ld rfl row3) ?_
        first | refine ts 10 ?_ | refine ta 10 rfl (rd_move rfl) ?_
        first | refine ts 11 ?_ | refine ta 11 rfl (rd_nilCheck rfl) ?_
        first | refine ts 12 ?_ | refine ta 12 rfl (rd_fa rfl fld162_3) ?_
        first | refine ts 13 ?_ | refine ta 13 rfl (rd_ld rfl row160) ?_
        first | refine ts 14 ?_ | refine ta 14 rfl (rd_len Try.underlying160 rfl) ?_
        first | refine ts 15 ?_ | refine ta 15 rfl ((rd_gt rfl rfl).eq (congrArg Value.bool (decide_eq_true (by omega)))) ?_ | refine ta 15 rfl ((rd_gt rfl rfl).eq (congrArg Value.bool (decide_eq_false (by omega)))) ?_
        refine ta 16 rfl (rd_pick rfl rfl) ?_
        refine ta 17 rfl (rd_move rfl) ?_
        first | refine ts 18 ?_ | refine ta 18 rfl (rd_fa rfl fld49_1) ?_
        first | refine ts 19 ?_ | refine ta 19 rfl (rd_fa rfl fld47_0) ?_
        first | refine ts 20 ?_ | refine ta 20 rfl (rd_ld rfl row3) ?_
        first | refine ts 21 ?_ | refine ta 21 rfl (rd_move rfl) ?_
        first | refine ts 22 ?_ | refine ta 22 rfl ((rd_ne rfl rfl).eq (congrArg Value.bool (decide_eq_true (by omega)))) ?_ | refine ta 22 rfl ((rd_ne rfl rfl).eq (congrArg Value.bool (decide_eq_false (by omega)))) ?_
        refine ta 23 rfl (rd_pick rfl rfl) ?_
        refine ta 24 rfl (rd_move rfl) ?_
        first | refine ts 25 ?_ | refine ta 25 rfl (rd_fa rfl fld49_1) ?_
        first | refine ts 26 ?_ | refine ta 26 rfl (rd_fa rfl fld47_7) ?_
        first | refine ts 27 ?_ | refine ta 27 rfl (rd_ld rfl row2) ?_
        first | refine ts 28 ?_ | refine ta 28 rfl (rd_move rfl) ?_
        first | refine ts 29 ?_ | refine ta 29 rfl ((rd_ne rfl rfl).eq (congrArg Value.bool (decide_eq_true (by omega)))) ?_ | refine ta 29 rfl ((rd_ne rfl rfl).eq (congrArg Value.bool (decide_eq_false (by omega)))) ?_
        refine ta 30 rfl (rd_pick rfl rfl) ?_
        refine ta 31 rfl (rd_move rfl) ?_
        first | refine ts 32 ?_ | refine ta 32 rfl (rd_fa rfl fld53_0) ?_
        first | refine ts 33 ?_ | refine ta 33 rfl (rd_ld rfl row25) ?_
        first | refine ts 34 ?_ | refine ta 34 rfl ((rd_ne rfl rfl).eq (congrArg Value.bool (decide_eq_true (by omega)))) ?_ | refine ta 34 rfl ((rd_ne rfl rfl).eq (congrArg Value.bool (decide_eq_false (by omega)))) ?_
        refine ta 35 rfl (rd_pick rfl rfl) ?_
        refine any_nil (by kernel_rfl) ?_
        refine St.then_n ?_
        exact St.sb (St.kq [(0, _), (1, _), (2, _), (8, _), (9, _), (10, _), (59, _)] (h := hK _ (by first | exact (hbad.2 (by omega)).symm | exact (Bool.eq_false_iff.2 (fun hh => absurd (hbad.1 hh) (by omega))).symm)))
    rintro z hz
    rw [hz]
    first | refine do_condp rfl (fun h59 => ?_) (fun h59 => ?_) | refine do_cond rfl (fun h59 => ?_) (fun h59 => ?_)
    · refine sr ?_
      refine rr (rd_bd [_, _, _, _, _] zero79 plc79) ?_
      first | refine r_sa row79 ?_ | refine r_sm row79 ?_
      refine rr (rd_assign rfl) ?_
      refine run_nil ?_
      refine St.kp [(10, _), (11, _)] ?_
      refine St.then_n ?_
      refine do_ret ?_
      refine St.then_r ?_
      refine do_ret2 Try.results55 (res_cell_row (vs := [_, _, _, _, _]) rfl row79 rfl (cells_pts (by repeat (first | with_reducible exact Sel.head | apply Sel.tail)) rfl)) (res_tmp rfl) ?_
      intro w hw
      exact ⟨(none, 0), trivial, by rw [hT _ h59], by rw [hT _ h59]; exact Holds.sb (Holds.au_shut ⟨sn, sp, sa, L⟩ g N hw)⟩
    · have hb2 : ¬ (kk = 0 ∨ xg < 1 ∨ (L.length : Int) < xg ∨ kind ≠ kk ∨ epoch ≠ n ∨ ywhy ≠ 0) := fun hh => by have := hbad.2 hh; rw [h59] at this; cases this
      obtain ⟨i, hi⟩ : ∃ i : Nat, (xg - 1).toNat = i := ⟨_, rfl⟩
      have hx := List.getElem?_eq_getElem (l := L) (i := i) (by omega)
      generalize L[i]'_ = o at hx
      have hgd : L.getD i one0 = o := by rw [List.getD_eq_getElem?_getD, hx]; rfl
      obtain ⟨ois, oA, oc, orows⟩ := o
      refine do_skip ?_
      refine St.then_n ?_
      refine sr ?_
      refine rr (rd_move rfl) ?_
      refine rr (rd_bd [_, _, _, _, _] zero79 plc79) ?_
      refine r_al zero79 fun b13 => ?_
      first | refine r_sa row79 ?_ | refine r_sm row79 ?_
      refine run_nil ?_
      refine St.kp [(0, _), (2, _), (8, _), (9, _), (10, _), (13, _)] ?_
      refine St.then_n ?_
      refine do_seq ?_
      refine do_draw [[1, 2, 3, 7, 8], [2, 3, 7, 8], [3, 7, 8], [7, 8], [5, 6, 7, 8], [6, 7, 8], [7, 8], [8], []] (by kernel_rfl) rfl ?_
      refine ta 0 rfl (rd_move rfl) ?_
      refine ta 1 rfl (rd_nilCheck rfl) ?_
      refine ta 2 rfl (rd_fa rfl fld162_3) ?_
      refine ta 3 rfl (rd_ld rfl row160) ?_
      refine ta 4 rfl (rd_fa rfl fld49_0) ?_
      refine ta 5 rfl (rd_ld rfl row3) ?_
      refine ta 6 rfl (rd_subi rfl rfl) ?_
      refine ta 7 rfl ((rd_indexAddr Try.underlying160 ei170 rfl rfl (by omega) (by omega)).eq (show _ = Value.pointer (some ⟨g, 0 + i * 2, none⟩) by rw [hi])) ?_
      refine ta 8 rfl (rd_assign rfl) ?_
      refine any_nil (by kernel_rfl) ?_
      refine St.kp [(0, _), (2, _), (9, _), (10, _), (13, _), (14, _)] ?_
      refine St.then_n ?_
      refine do_seq ?_
      refine sr ?_
      refine rr (rd_move rfl) ?_
      refine nx ?_
      refine do_block ?_
      refine do_seq ?_
      refine do_block ?_
      refine do_seq ?_
      refine do_block ?_
      refine do_seq ?_
      refine sr ?_
      refine rr (rd_eq rfl rfl) ?_
      refine rr (rd_assign rfl) ?_
      refine nx ?_
      refine do_condp rfl (fun h72 => absurd h72 (by omega)) (fun h72 => ?_)
      refine do_skip ?_
      refine St.then_n ?_
      refine do_exit ?_
      refine St.blk_o rfl ?_
      refine St.then_x ?_
      refine St.blk_s ?_
      refine St.then_n ?_
      refine sr ?_
      refine rr (rd_move rfl) ?_
      refine rr (rd_nilCheck rfl) ?_
      refine rr (rd_fa (off' := 0 + i * 2 + 0) rfl fld170_0 rfl) ?_
      refine r_stQ1 (n := N) oneC_len (z := ⟨ois, oA, oc, orows⟩) (z' := ⟨true, oA, oc, orows⟩) i 0 hx (by decide) rfl row4 rfl ?_
      rw [← rowsAll_is (L := L) (x := ⟨ois, oA, oc, orows⟩) true hx]
      dsimp only
      refine St.au_shut ⟨sn, sp, sa, L.set i ⟨true, oA, oc, orows⟩⟩ g N ?_
      have hTS := hF (none, 0) h59
      rw [hi, hgd, show toldOne ⟨ois, oA, oc, orows⟩ ph prows (none, 0) = ⟨true, oA, oc, orows⟩ by unfold toldOne; rw [if_neg hph]] at hTS
      obtain ⟨L2, hL2⟩ : ∃ L2, L.set i ⟨true, oA, oc, orows⟩ = L2 := ⟨_, rfl⟩
      have hl2 : L2.length ≤ 3 := by rw [← hL2, List.length_set]; exact hL3
      rw [hL2] at hTS ⊢
      refine run_nil ?_
      refine St.kp [(0, _), (2, _), (10, _), (13, _)] ?_
      refine St.then_n ?_
      refine do_exit ?_
      refine St.blk_s ?_
      refine St.then_n ?_
      refine do_seq ?_
      refine sr ?_
      refine rr (rd_move rfl) ?_
      refine rc (hs := auLeft_spec _ r ⟨sn, sp, sa, L2⟩ hl2) (k := ?_)
      rintro ⟨⟩ -
      try simp only [List.cons_append, List.nil_append]
      refine rr (rd_gt rfl rfl) ?_
      refine nx ?_
      first | refine do_condp rfl (fun h87 => ?_) (fun h87 => ?_) | refine do_cond rfl (fun h87 => ?_) (fun h87 => ?_)
      · rw [if_pos (by omega)] at hTS
        refine sr ?_
        refine rr (rd_bd [_, _, _, _, _] zero79 plc79) ?_
        first | refine r_sa row79 ?_ | refine r_sm row79 ?_
        refine rr (rd_assign rfl) ?_
        refine run_nil ?_
        refine St.kp [(10, _), (11, _)] ?_
        refine St.then_n ?_
        refine do_ret ?_
        refine St.then_r ?_
        refine do_ret2 Try.results55 (res_cell_row (vs := [_, _, _, _, _]) rfl row79 rfl (cells_pts (by repeat (first | with_reducible exact Sel.head | apply Sel.tail)) rfl)) (res_tmp rfl) ?_
        intro w hw
        exact ⟨(none, 0), trivial, by rw [hTS], by rw [hTS]; exact hw.sb⟩
      · rw [if_neg (by omega)] at hTS
        refine St.sl (P := auO r ⟨sn, sp, sa, L2⟩) (St.au_open fun g2 N2 hN2 => ?_)
        dsimp only at hN2 ⊢
        refine do_skip ?_
        refine St.then_n ?_
        refine do_seq ?_
        refine do_cut (fun _ : Unit => True) (fun _ => [(13, .pointer (some ⟨b13, 0, none⟩)), (10, .pointer (some ⟨b10, 0, none⟩))]) (fun _ => [pts r 162 [.int .i64 sn, .int .i64 sp, .bool sa, .slice (some ⟨g2, 0, none⟩) N2 N2], ownQ oneC 170 2 (.slice (some ⟨g2, 0, none⟩) N2 N2) N2 L2, rowsAll L2, pts b13 79 [.int .i64 5, .int .i64 0, .int .i64 0, .int .i64 n, .int .i64 0], pts b10 79 [.int .i64 0, .int .i64 0, .int .i64 0, .int .i64 0, .int .i64 0], F]) (fun K hK => ?_) ?_
        · cases sa
          · refine do_region ?_
            refine rr (rd_move rfl) ?_
            refine rr (rd_move rfl) ?_
            refine rr (rd_nilCheck rfl) ?_
            refine rr (rd_fa rfl fld162_2) ?_
            refine rr (rd_ld rfl row4) ?_
            refine rr (rd_move rfl) ?_
            first | refine sk ?_ | (refine rr (rd_move rfl) ?_)
            first | refine sk ?_ | (refine rr ((rd_eq rfl rfl).eq (congrArg Value.bool (decide_eq_false (by omega)))) ?_)
            refine rr (rd_pick rfl rfl) ?_
            refine rr (rd_nilCheck rfl) ?_
            refine rr (rd_fa rfl fld162_2) ?_
            refine r_st row4 ?_
            refine run_nil ?_
            refine St.kp [(10, _), (13, _)] ?_
            refine St.then_n ?_
            exact St.sb (St.kq [(13, _), (10, _)] (h := hK () trivial))
          · refine do_region ?_
            refine rr (rd_move rfl) ?_
            refine rr (rd_move rfl) ?_
            refine rr (rd_nilCheck rfl) ?_
            refine rr (rd_fa rfl fld162_2) ?_
            refine rr (rd_ld rfl row4) ?_
            refine rr (rd_move rfl) ?_
            first | refine sk ?_ | (refine rr (rd_move rfl) ?_)
            first | refine sk ?_ | (refine rr ((rd_eq rfl rfl).eq (congrArg Value.bool (decide_eq_false (by omega)))) ?_)
            refine rr (rd_pick rfl rfl) ?_
            refine rr (rd_nilCheck rfl) ?_
            refine rr (rd_fa rfl fld162_2) ?_
            refine r_st row4 ?_
            refine run_nil ?_
            refine St.kp [(10, _), (13, _)] ?_
            refine St.then_n ?_
            exact St.sb (St.kq [(13, _), (10, _)] (h := hK () trivial))
        rintro ⟨⟩ -
        refine sr ?_
        refine rr (rd_ldr [_, _, _, _, _] rfl row79) ?_
        first | refine r_sa row79 ?_ | refine r_sm row79 ?_
        refine rr (rd_assign rfl) ?_
        refine nx ?_
        refine do_ret ?_
        refine do_ret2 Try.results55 (res_cell_row (vs := [_, _, _, _, _]) rfl row79 rfl (cells_pts (by repeat (first | with_reducible exact Sel.head | apply Sel.tail)) rfl)) (res_tmp rfl) ?_
        intro w hw
        exact ⟨(none, 0), trivial, by rw [hTS, if_neg hph], by rw [hTS]; simp only [hph, decide_false, Bool.or_false]; exact Holds.sb (Holds.au_shut ⟨sn, sp, sa, L2⟩ g2 N2 hw)⟩
theorem toldNil_spec (F : HP) (n ph : Int) (x : GAsk) (y : GRes) :
    Spec Try.prog 55 [.pointer none, .int .i64 n, .int .i64 ph, .agg x.L.toArray, .agg y.L.toArray] [] F (fun _ : Unit => True) (fun _ => .tuple #[ccmd 0 0, .bool false]) (fun _ => []) := by
  intro ω w hh
  refine enter Try.func55 rfl Try.ntmps55 rfl hh ?_
  simp only [List.nil_append, argsB]
  obtain ⟨xg, ⟨kind, ⟨okind, osrc, odst, oamt, okey, oslot, oshard⟩, id, name, nn, why, slot, epoch, at_, last, A, c, data⟩⟩ := x
  obtain ⟨ywhy, ywait, ⟨pwhy, pamt, pA, pc, prows⟩, rA, rK, rdata⟩ := y
  simp only [GAsk.L, GCmd.L, GCmd.v, GRes.L, GRes.v, GReply.v]
  refine sr ?_
  refine r_bx fun b8 => ?_
  refine r_bx fun b9 => ?_
  refine r_al zero79 fun b10 => ?_
  refine rr (rd_assign rfl) ?_
  refine nx ?_
  refine do_seq ?_
  refine sr ?_
  refine rr (rd_move rfl) ?_
  refine rr (rd_ptr_eq_nil Try.underlying111 rfl rfl) ?_
  refine run_nil ?_
  refine St.kp [(0, _), (1, _), (2, _), (8, _), (9, _), (10, _), (16, _)] ?_
  refine St.then_n ?_
  refine do_cond_t rfl ?_
  refine sr ?_
  refine rr (rd_bd [_, _, _, _, _] zero79 plc79) ?_
  first | refine r_sa row79 ?_ | refine r_sm row79 ?_
  refine rr (rd_assign rfl) ?_
  refine run_nil ?_
  refine St.kp [(10, _), (11, _)] ?_
  refine St.then_n ?_
  refine do_ret ?_
  refine St.then_r ?_
  refine do_ret2 Try.results55 (res_cell_row (vs := [_, _, _, _, _]) rfl row79 rfl (cells_pts (by repeat (first | with_reducible exact Sel.head | apply Sel.tail)) rfl)) (res_tmp rfl) ?_
  intro w hw
  exact ⟨(), trivial, rfl, hw.sb⟩
end Go.Proofs.Ytglcmlicfmmlpaa
