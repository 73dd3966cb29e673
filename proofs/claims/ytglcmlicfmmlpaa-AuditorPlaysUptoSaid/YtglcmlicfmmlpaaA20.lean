/-
  The reference's auditor is told an answer.
-/
import Derived.Test.YtglcmlicfmmlpaaA19
namespace Go.Proofs.Ytglcmlicfmmlpaa
open Go.RowKit
set_option linter.unusedSimpArgs false
set_option linter.unusedVariables false

theorem flat_set2 {α : Type} {f : α → List Value} {a b : α} (h : f a = f b) : ∀ (L : List α) (i : Nat), (L.set i a).flatMap f = (L.set i b).flatMap f
  | [], _ => rfl
  | x :: L, 0 => by rw [List.set_cons_zero, List.set_cons_zero, List.flatMap_cons, List.flatMap_cons, h]
  | x :: L, i + 1 => by rw [List.set_cons_succ, List.set_cons_succ, List.flatMap_cons, List.flatMap_cons, flat_set2 h L i]
theorem set_self {α : Type} {x : α} : ∀ {L : List α} {i : Nat}, L[i]? = some x → L.set i x = L
  | [], _, h => by simp at h
  | y :: L, 0, h => by simp at h; rw [h]; rfl
  | y :: L, i + 1, h => by rw [List.set_cons_succ, set_self (by simpa using h)]
theorem flat_set0 {α : Type} {f : α → List Value} {a x : α} {L : List α} {i : Nat} (h : f a = f x) (hx : L[i]? = some x) : (L.set i a).flatMap f = L.flatMap f := by rw [flat_set2 h, set_self hx]
set_option maxRecDepth 4000 in
set_option maxHeartbeats 4000000 in
theorem refTold_spec (F : HP) (r : Nat) (s : AuS) (n ph : Int) (x : GAsk) (y : GRes) (hs : s.L.length ≤ 3) (hR : VwRows F y.reply) (hy : y.reply.rows.length ≤ 1099511627776) :
    Spec Try.prog 57 [.pointer (some ⟨r, 0, none⟩), .int .i64 n, .int .i64 ph, .agg x.L.toArray, .agg y.L.toArray] [raO r s] F (fun _ : Option Addr × Nat => True)
      (fun q => .tuple #[ccmd (toldS s n ph x y.why y.reply.rows q).2.1 (toldS s n ph x y.why y.reply.rows q).2.2.1, .bool (toldS s n ph x y.why y.reply.rows q).2.2.2]) (fun q => [raO r (toldS s n ph x y.why y.reply.rows q).1]) := by
  intro ω w hh
  refine enter Try.func57 rfl Try.ntmps57 rfl hh ?_
  simp only [List.cons_append, List.nil_append, argsB]
  obtain ⟨xg, ⟨kind, ⟨okind, osrc, odst, oamt, okey, oslot, oshard⟩, id, name, nn, why, slot, epoch, at_, last, A, c, data⟩⟩ := x
  obtain ⟨ywhy, ywait, ⟨pwhy, pamt, pA, pc, prows⟩, rA, rK, rdata⟩ := y
  dsimp only at hR hy
  simp only [GAsk.L, GCmd.L, GCmd.v, GRes.L, GRes.v, GReply.v]
  have hR2 : Vw F (.slice pA prows.length pc) 2 prows.length (prows.flatMap rowC) := hR
  obtain ⟨bad, hbad⟩ : ∃ bad : Bool, (bad = true ↔ toldBad s.L.length n ph ⟨xg, ⟨kind, ⟨okind, osrc, odst, oamt, okey, oslot, oshard⟩, id, name, nn, why, slot, epoch, at_, last, A, c, data⟩⟩ ywhy) := ⟨decide _, decide_eq_true_iff⟩
  have hkl := knowS_len s n ph
  have hT : ∀ q, bad = true → toldS s n ph ⟨xg, ⟨kind, ⟨okind, osrc, odst, oamt, okey, oslot, oshard⟩, id, name, nn, why, slot, epoch, at_, last, A, c, data⟩⟩ ywhy prows q = (knowS s n ph, 0, 0, false) := fun q h => by unfold toldS; rw [if_pos (hbad.1 h)]
  have hF : ∀ q, bad = false → toldS s n ph ⟨xg, ⟨kind, ⟨okind, osrc, odst, oamt, okey, oslot, oshard⟩, id, name, nn, why, slot, epoch, at_, last, A, c, data⟩⟩ ywhy prows q = (if 0 < leftP ((knowS s n ph).L.set (xg - 1).toNat (toldOne ((knowS s n ph).L.getD (xg - 1).toNat one0) ph prows q)) then ({ knowS s n ph with L := (knowS s n ph).L.set (xg - 1).toNat (toldOne ((knowS s n ph).L.getD (xg - 1).toNat one0) ph prows q) }, 0, 0, false) else (⟨(knowS s n ph).n, (knowS s n ph).phase, (knowS s n ph).all || decide (ph = 1), (knowS s n ph).L.set (xg - 1).toNat (toldOne ((knowS s n ph).L.getD (xg - 1).toNat one0) ph prows q)⟩, if ph = 1 then 4 else 5, n, true)) := fun q h => by unfold toldS; rw [if_neg (fun hh => by have := hbad.2 hh; rw [h] at this; cases this)]
  unfold toldBad at hbad
  dsimp only at hbad
  obtain ⟨kk, hkk⟩ : ∃ kk, kindP ph = kk := ⟨_, rfl⟩
  rw [hkk] at hbad
  obtain ⟨s1, hs1⟩ : ∃ s1, knowS s n ph = s1 := ⟨_, rfl⟩
  rw [hs1] at hkl hT hF
  obtain ⟨sn, sp, sa, L⟩ := s1
  dsimp only at hkl hT hF
  rw [← hkl] at hbad
  have hL3 : L.length ≤ 3 := by omega
  have ei : ∀ {i : Int} {k : Nat}, i = k → Value.int .i64 i = .int .i64 (k : Int) := fun h => by rw [h]
  refine sr ?_
  refine r_bx fun b8 => ?_
  refine r_bx fun b9 => ?_
  refine r_al zero82 fun b10 => ?_
  refine rr (rd_assign rfl) ?_
  refine nx ?_
  refine sr ?_
  refine rr (rd_move rfl) ?_
  refine rr (rd_move rfl) ?_
  refine rr (rd_move rfl) ?_
  refine rc (hs := refKnow_spec _ r s n ph hs) (k := ?_)
  rintro ⟨⟩ -
  rw [hs1]
  simp only [List.cons_append, List.nil_append]
  refine St.ra_open fun g1 g2 N hN => ?_
  dsimp only at hN ⊢
  simp only [raG, List.cons_append, List.nil_append]
  try simp only [List.cons_append, List.nil_append]
  refine run_nil ?_
  refine St.kp [(0, _), (1, _), (2, _), (8, _), (9, _), (10, _)] ?_
  refine St.then_n ?_
  refine do_seq ?_
  refine do_seq ?_
  refine do_cut (fun z : Bool => z = bad) (fun z => [(0, .pointer (some ⟨r, 0, none⟩)), (1, .int .i64 n), (2, .int .i64 ph), (8, .pointer (some ⟨b8, 0, none⟩)), (9, .pointer (some ⟨b9, 0, none⟩)), (10, .pointer (some ⟨b10, 0, none⟩)), (54, .bool z)]) (fun _ => [pts r 164 [.int .i64 sn, .int .i64 sp, .slice (some ⟨g1, 0, none⟩) N N, .bool sa, .slice (some ⟨g2, 0, none⟩) N N], ownQ isC 4 1 (.slice (some ⟨g1, 0, none⟩) N N) N L, ownQ slC 31 1 (.slice (some ⟨g2, 0, none⟩) N N) N L, rowsAll L, pts b8 30 [.int .i64 xg, .int .i64 kind, .int .i64 okind, .string (strOf osrc), .string (strOf odst), .int .i64 oamt, .string (strOf okey), .int .i64 oslot, .int .i64 oshard, .string (strOf id), .string (strOf name), .int .i64 nn, .int .i64 why, .int .i64 slot, .int .i64 epoch, .int .i64 at_, .bool last, .slice A data.length c], pts b9 35 [.int .i64 ywhy, .bool ywait, .int .i64 pwhy, .int .i64 pamt, .slice pA prows.length pc, .slice rA rdata.length rK], pts b10 82 [.int .i64 0, .int .i64 0, .int .i64 0, .int .i64 0, .int .i64 0], F]) (fun K hK => ?_) ?_
  · rcases (show kk = 0 ∨ (kk ≠ 0 ∧ xg < 1) ∨ (kk ≠ 0 ∧ 1 ≤ xg ∧ (L.length : Int) < xg) ∨ (kk ≠ 0 ∧ 1 ≤ xg ∧ xg ≤ L.length ∧ kind ≠ kk) ∨ (kk ≠ 0 ∧ 1 ≤ xg ∧ xg ≤ L.length ∧ kind = kk ∧ epoch ≠ n) ∨ (kk ≠ 0 ∧ 1 ≤ xg ∧ xg ≤ L.length ∧ kind = kk ∧ epoch = n ∧ ywhy ≠ 0) ∨ (kk ≠ 0 ∧ 1 ≤ xg ∧ xg ≤ L.length ∧ kind = kk ∧ epoch = n ∧ ywhy = 0) by omega) with hA | hA | hA | hA | hA | hA | hA
    · refine do_draw [[1, 2, 3, 4, 5, 6, 7, 8, 9, 10, 11, 12, 13, 14, 15, 16, 17, 18, 19, 20, 21, 22, 23, 24, 25, 26, 27, 28, 29, 30, 31, 32, 33, 34, 35, 36, 37], [2, 3, 4, 5, 6, 7, 8, 9, 10, 11, 12, 13, 14, 15, 16, 17, 18, 19, 20, 21, 22, 23, 24, 25, 26, 27, 28, 29, 30, 31, 32, 33, 34, 35, 36, 37], [3, 4, 5, 6, 7, 8, 9, 10, 11, 12, 13, 14, 15, 16, 17, 18, 19, 20, 21, 22, 23, 24, 25, 26, 27, 28, 29, 30, 31, 32, 33, 34, 35, 36, 37], [4, 5, 6, 7, 8, 9, 10, 11, 12, 13, 14, 15, 16, 17, 18, 19, 20, 21, 22, 23, 24, 25, 26, 27, 28, 29, 30, 31, 32, 33, 34, 35, 36, 37], [5, 6, 7, 8, 9, 10, 11, 12, 13, 14, 15, 16, 17, 18, 19, 20, 21, 22, 23, 24, 25, 26, 27, 28, 29, 30, 31, 32, 33, 34, 35, 36, 37], [6, 7, 8, 9, 10, 11, 12, 13, 14, 15, 16, 17, 18, 19, 20, 21, 22, 23, 24, 25, 26, 27, 28, 29, 30, 31, 32, 33, 34, 35, 36, 37], [7, 8, 9, 10, 11, 12, 13, 14, 15, 16, 17, 18, 19, 20, 21, 22, 23, 24, 25, 26, 27, 28, 29, 30, 31, 32, 33, 34, 35, 36, 37], [8, 9, 10, 11, 12, 13, 14, 15, 16, 17, 18, 19, 20, 21, 22, 23, 24, 25, 26, 27, 28, 29, 30, 31, 32, 33, 34, 35, 36, 37], [9, 10, 11, 12, 13, 14, 15, 16, 17, 18, 19, 20, 21, 22, 23, 24, 25, 26, 27, 28, 29, 30, 31, 32, 33, 34, 35, 36, 37], [10, 16, 17, 18, 19, 20, 21, 22, 23, 24, 25, 26, 27, 28, 29, 30, 31, 32, 33, 34, 35, 36, 37], [16, 17, 18, 19, 20, 21, 22, 23, 24, 25, 26, 27, 28, 29, 30, 31, 32, 33, 34, 35, 36, 37], [12, 13, 14, 15, 16, 17, 18, 19, 20, 21, 22, 23, 24, 25, 26, 27, 28, 29, 30, 31, 32, 33, 34, 35, 36, 37], [13, 14, 15, 16, 17, 18, 19, 20, 21, 22, 23, 24, 25, 26, 27, 28, 29, 30, 31, 32, 33, 34, 35, 36, 37], [14, 15, 16, 17, 18, 19, 20, 21, 22, 23, 24, 25, 26, 27, 28, 29, 30, 31, 32, 33, 34, 35, 36, 37], [15, 16, 17, 18, 19, 20, 21, 22, 23, 24, 25, 26, 27, 28, 29, 30, 31, 32, 33, 34, 35, 36, 37], [16, 17, 18, 19, 20, 21, 22, 23, 24, 25, 26, 27, 28, 29, 30, 31, 32, 33, 34, 35, 36, 37], [17, 18, 19, 20, 21, 22, 23, 24, 25, 26, 27, 28, 29, 30, 31, 32, 33, 34, 35, 36, 37], [18, 19, 20, 21, 22, 23, 24, 25, 26, 27, 28, 29, 30, 31, 32, 33, 34, 35, 36, 37], [19, 20, 21, 22, 23, 24, 25, 26, 27, 28, 29, 30, 31, 32, 33, 34, 35, 36, 37], [20, 21, 24, 25, 26, 27, 28, 29, 30, 31, 32, 33, 34, 35, 36, 37], [21, 24, 25, 26, 27, 28, 29, 30, 31, 32, 33, 34, 35, 36, 37], [24, 25, 26, 27, 28, 29, 30, 31, 32, 33, 34, 35, 36, 37], [23, 24, 25, 26, 27, 28, 29, 30, 31, 32, 33, 34, 35, 36, 37], [24, 25, 26, 27, 28, 29, 30, 31, 32, 33, 34, 35, 36, 37], [25, 26, 27, 28, 29, 30, 31, 32, 33, 34, 35, 36, 37], [26, 27, 28, 29, 30, 31, 32, 33, 34, 35, 36, 37], [27, 28, 29, 30, 31, 32, 33, 34, 35, 36, 37], [28, 29, 31, 32, 33, 34, 35, 36, 37], [29, 31, 32, 33, 34, 35, 36, 37], [31, 32, 33, 34, 35, 36, 37], [31, 32, 33, 34, 35, 36, 37], [32, 33, 34, 35, 36, 37], [33, 34, 35, 36, 37], [34, 35, 36, 37], [35, 36, 37], [36, 37], [37], []] (by kernel_rfl) rfl ?_
      refine ta 0 rfl (rd_move rfl) ?_
      refine tr 1 ?_
      refine rc (hs := refKind_spec _ ph) (k := ?_)
      rintro ⟨⟩ -
      rw [hkk]
      try simp only [List.cons_append, List.nil_append]
      refine nx ?_
      refine any_next (by apply bd 0; exact .nil) ?_
      first | refine ta 2 rfl ((rd_eq rfl rfl).eq (congrArg Value.bool (decide_eq_true (by omega)))) ?_ | refine ta 2 rfl ((rd_eq rfl rfl).eq (congrArg Value.bool (decide_eq_false (by omega)))) ?_
      refine ta 3 rfl (rd_move rfl) ?_
      first | refine ts 4 ?_ | refine ta 4 rfl (rd_fa rfl fld30_0) ?_
      first | refine ts 5 ?_ | refine ta 5 rfl (rd_ld rfl row3) ?_
      first | refine ts 6 ?_ | refine ta 6 rfl ((rd_lt rfl rfl).eq (congrArg Value.bool (decide_eq_true (by omega)))) ?_ | refine ta 6 rfl ((rd_lt rfl rfl).eq (congrArg Value.bool (decide_eq_false (by omega)))) ?_
      refine ta 7 rfl (rd_pick rfl rfl) ?_
      refine ta 8 rfl (rd_move rfl) ?_
      first | refine ts 9 ?_ | refine ta 9 rfl (rd_fa rfl fld30_0) ?_
      first | refine ts 10 ?_ | refine ta 10 rfl (rd_ld rfl row3) ?_
      first | refine ts 11 ?_ | refine ta 11 rfl (rd_move rfl) ?_
      first | refine ts 12 ?_ | refine ta 12 rfl (rd_nilCheck rfl) ?_
      first | refine ts 13 ?_ | refine ta 13 rfl (rd_fa rfl fld164_2) ?_
      first | refine ts 14 ?_ | refine ta 14 rfl (rd_ld rfl row88) ?_
      first | refine ts 15 ?_ | refine ta 15 rfl (rd_len Try.underlying88 rfl) ?_
      first | refine ts 16 ?_ | refine ta 16 rfl ((rd_gt rfl rfl).eq (congrArg Value.bool (decide_eq_true (by omega)))) ?_ | refine ta 16 rfl ((rd_gt rfl rfl).eq (congrArg Value.bool (decide_eq_false (by omega)))) ?_
      refine ta 17 rfl (rd_pick rfl rfl) ?_
      refine ta 18 rfl (rd_move rfl) ?_
      first | refine ts 19 ?_ | refine ta 19 rfl (rd_fa rfl fld30_1) ?_
      first | refine ts 20 ?_ | refine ta 20 rfl (rd_fa rfl fld28_0) ?_
      first | refine ts 21 ?_ | refine ta 21 rfl (rd_ld rfl row3) ?_
      first | refine ts 22 ?_ | refine ta 22 rfl (rd_move rfl) ?_
      refine tr 23 ?_
      first
        | refine sk ?_
        | (refine rc (hs := refKind_spec _ ph) (k := ?_)
           rintro ⟨⟩ -
           rw [hkk]
           try simp only [List.cons_append, List.nil_append])
      refine nx ?_
      refine any_next (by (try (apply bd 22)); (try (apply bk 21 rfl (rd_ld rfl row3))); (try (apply bk 20 rfl (rd_fa rfl fld28_0))); (try (apply bk 19 rfl (rd_fa rfl fld30_1))); apply bd 18; apply bd 17; (try (apply bd 16)); (try (apply bd 15)); (try (apply bd 14)); (try (apply bd 13)); (try (apply bd 12)); (try (apply bd 11)); (try (apply bd 10)); (try (apply bd 9)); apply bd 8; apply bd 7; (try (apply bd 6)); (try (apply bd 5)); (try (apply bd 4)); apply bd 3; apply bd 2; exact .nil) ?_
      first | refine ts 24 ?_ | refine ta 24 rfl ((rd_ne rfl rfl).eq (congrArg Value.bool (decide_eq_true (by omega)))) ?_ | refine ta 24 rfl ((rd_ne rfl rfl).eq (congrArg Value.bool (decide_eq_false (by omega)))) ?_
      refine ta 25 rfl (rd_pick rfl rfl) ?_
      refine ta 26 rfl (rd_move rfl) ?_
      first | refine ts 27 ?_ | refine ta 27 rfl (rd_fa rfl fld30_1) ?_
      first | refine ts 28 ?_ | refine ta 28 rfl (rd_fa rfl fld28_7) ?_
      first | refine ts 29 ?_ | refine ta 29 rfl (rd_ld rfl row2) ?_
      first | refine ts 30 ?_ | refine ta 30 rfl (rd_move rfl) ?_
      first | refine ts 31 ?_ | refine ta 31 rfl ((rd_ne rfl rfl).eq (congrArg Value.bool (decide_eq_true (by omega)))) ?_ | refine ta 31 rfl ((rd_ne rfl rfl).eq (congrArg Value.bool (decide_eq_false (by omega)))) ?_
      refine ta 32 rfl (rd_pick rfl rfl) ?_
      refine ta 33 rfl (rd_move rfl) ?_
      first | refine ts 34 ?_ | refine ta 34 rfl (rd_fa rfl fld35_0) ?_
      first | refine ts 35 ?_ | refine ta 35 rfl (rd_ld rfl row25) ?_
      first | refine ts 36 ?_ | refine ta 36 rfl ((rd_ne rfl rfl).eq (congrArg Value.bool (decide_eq_true (by omega)))) ?_ | refine ta 36 rfl ((rd_ne rfl rfl).eq (congrArg Value.bool (decide_eq_false (by omega)))) ?_
      refine ta 37 rfl (rd_pick rfl rfl) ?_
      refine any_nil (by kernel_rfl) ?_
      refine St.then_n ?_
      exact St.sb (St.kq [(0, _), (1, _), (2, _), (8, _), (9, _), (10, _), (54, _)] (h := hK _ (by first | exact (hbad.2 (by omega)).symm | exact (Bool.eq_false_iff.2 (fun hh => absurd (hbad.1 hh) (by omega))).symm)))
    · refine do_draw [[1, 2, 3, 4, 5, 6, 7, 8, 9, 10, 11, 12, 13, 14, 15, 16, 17, 18, 19, 20, 21, 22, 23, 24, 25, 26, 27, 28, 29, 30, 31, 32, 33, 34, 35, 36, 37], [2, 3, 4, 5, 6, 7, 8, 9, 10, 11, 12, 13, 14, 15, 16, 17, 18, 19, 20, 21, 22, 23, 24, 25, 26, 27, 28, 29, 30, 31, 32, 33, 34, 35, 36, 37], [3, 4, 5, 6, 7, 8, 9, 10, 11, 12, 13, 14, 15, 16, 17, 18, 19, 20, 21, 22, 23, 24, 25, 26, 27, 28, 29, 30, 31, 32, 33, 34, 35, 36, 37], [4, 5, 6, 7, 8, 9, 10, 11, 12, 13, 14, 15, 16, 17, 18, 19, 20, 21, 22, 23, 24, 25, 26, 27, 28, 29, 30, 31, 32, 33, 34, 35, 36, 37], [5, 6, 7, 8, 9, 10, 11, 12, 13, 14, 15, 16, 17, 18, 19, 20, 21, 22, 23, 24, 25, 26, 27, 28, 29, 30, 31, 32, 33, 34, 35, 36, 37], [6, 7, 8, 9, 10, 11, 12, 13, 14, 15, 16, 17, 18, 19, 20, 21, 22, 23, 24, 25, 26, 27, 28, 29, 30, 31, 32, 33, 34, 35, 36, 37], [7, 8, 9, 10, 11, 12, 13, 14, 15, 16, 17, 18, 19, 20, 21, 22, 23, 24, 25, 26, 27, 28, 29, 30, 31, 32, 33, 34, 35, 36, 37], [8, 9, 10, 11, 12, 13, 14, 15, 16, 17, 18, 19, 20, 21, 22, 23, 24, 25, 26, 27, 28, 29, 30, 31, 32, 33, 34, 35, 36, 37], [9, 10, 11, 12, 13, 14, 15, 16, 17, 18, 19, 20, 21, 22, 23, 24, 25, 26, 27, 28, 29, 30, 31, 32, 33, 34, 35, 36, 37], [10, 16, 17, 18, 19, 20, 21, 22, 23, 24, 25, 26, 27, 28, 29, 30, 31, 32, 33, 34, 35, 36, 37], [16, 17, 18, 19, 20, 21, 22, 23, 24, 25, 26, 27, 28, 29, 30, 31, 32, 33, 34, 35, 36, 37], [12, 13, 14, 15, 16, 17, 18, 19, 20, 21, 22, 23, 24, 25, 26, 27, 28, 29, 30, 31, 32, 33, 34, 35, 36, 37], [13, 14, 15, 16, 17, 18, 19, 20, 21, 22, 23, 24, 25, 26, 27, 28, 29, 30, 31, 32, 33, 34, 35, 36, 37], [14, 15, 16, 17, 18, 19, 20, 21, 22, 23, 24, 25, 26, 27, 28, 29, 30, 31, 32, 33, 34, 35, 36, 37], [15, 16, 17, 18, 19, 20, 21, 22, 23, 24, 25, 26, 27, 28, 29, 30, 31, 32, 33, 34, 35, 36, 37], [16, 17, 18, 19, 20, 21, 22, 23, 24, 25, 26, 27, 28, 29, 30, 31, 32, 33, 34, 35, 36, 37], [17, 18, 19, 20, 21, 22, 23, 24, 25, 26, 27, 28, 29, 30, 31, 32, 33, 34, 35, 36, 37], [18, 19, 20, 21, 22, 23, 24, 25, 26, 27, 28, 29, 30, 31, 32, 33, 34, 35, 36, 37], [19, 20, 21, 22, 23, 24, 25, 26, 27, 28, 29, 30, 31, 32, 33, 34, 35, 36, 37], [20, 21, 24, 25, 26, 27, 28, 29, 30, 31, 32, 33, 34, 35, 36, 37], [21, 24, 25, 26, 27, 28, 29, 30, 31, 32, 33, 34, 35, 36, 37], [24, 25, 26, 27, 28, 29, 30, 31, 32, 33, 34, 35, 36, 37], [23, 24, 25, 26, 27, 28, 29, 30, 31, 32, 33, 34, 35, 36, 37], [24, 25, 26, 27, 28, 29, 30, 31, 32, 33, 34, 35, 36, 37], [25, 26, 27, 28, 29, 30, 31, 32, 33, 34, 35, 36, 37], [26, 27, 28, 29, 30, 31, 32, 33, 34, 35, 36, 37], [27, 28, 29, 30, 31, 32, 33, 34, 35, 36, 37], [28, 29, 31, 32, 33, 34, 35, 36, 37], [29, 31, 32, 33, 34, 35, 36, 37], [31, 32, 33, 34, 35, 36, 37], [31, 32, 33, 34, 35, 36, 37], [32, 33, 34, 35, 36, 37], [33, 34, 35, 36, 37], [34, 35, 36, 37], [35, 36, 37], [36, 37], [37], []] (by kernel_rfl) rfl ?_
      refine ta 0 rfl (rd_move rfl) ?_
      refine tr 1 ?_
      refine rc (hs := refKind_spec _ ph) (k := ?_)
      rintro ⟨⟩ -
      rw [hkk]
      try simp only [List.cons_append, List.nil_append]
      refine nx ?_
      refine any_next (by apply bd 0; exact .nil) ?_
      first | refine ta 2 rfl ((rd_eq rfl rfl).eq (congrArg Value.bool (decide_eq_true (by omega)))) ?_ | refine ta 2 rfl ((rd_eq rfl rfl).eq (congrArg Value.bool (decide_eq_false (by omega)))) ?_
      refine ta 3 rfl (rd_move rfl) ?_
      first | refine ts 4 ?_ | refine ta 4 rfl (rd_fa rfl fld30_0) ?_
      first | refine ts 5 ?_ | refine ta 5 rfl (rd_ld rfl row3) ?_
      first | refine ts 6 ?_ | refine ta 6 rfl ((rd_lt rfl rfl).eq (congrArg Value.bool (decide_eq_true (by omega)))) ?_ | refine ta 6 rfl ((rd_lt rfl rfl).eq (congrArg Value.bool (decide_eq_false (by omega)))) ?_
      refine ta 7 rfl (rd_pick rfl rfl) ?_
      refine ta 8 rfl (rd_move rfl) ?_
      first | refine ts 9 ?_ | refine ta 9 rfl (rd_fa rfl fld30_0) ?_
      first | refine ts 10 ?_ | refine ta 10 rfl (rd_ld rfl row3) ?_
      first | refine ts 11 ?_ | refine ta 11 rfl (rd_move rfl) ?_
      first | refine ts 12 ?_ | refine ta 12 rfl (rd_nilCheck rfl) ?_
      first | refine ts 13 ?_ | refine ta 13 rfl (rd_fa rfl fld164_2) ?_
      first | refine ts 14 ?_ | refine ta 14 rfl (rd_ld rfl row88) ?_
      first | refine ts 15 ?_ | refine ta 15 rfl (rd_len Try.underlying88 rfl) ?_
      first | refine ts 16 ?_ | refine ta 16 rfl ((rd_gt rfl rfl).eq (congrArg Value.bool (decide_eq_true (by omega)))) ?_ | refine ta 16 rfl ((rd_gt rfl rfl).eq (congrArg Value.bool (decide_eq_false (by omega)))) ?_
      refine ta 17 rfl (rd_pick rfl rfl) ?_
      refine ta 18 rfl (rd_move rfl) ?_
      first | refine ts 19 ?_ | refine ta 19 rfl (rd_fa rfl fld30_1) ?_
      first | refine ts 20 ?_ | refine ta 20 rfl (rd_fa rfl fld28_0) ?_
      first | refine ts 21 ?_ | refine ta 21 rfl (rd_ld rfl row3) ?_
      first | refine ts 22 ?_ | refine ta 22 rfl (rd_move rfl) ?_
      refine tr 23 ?_
      first
        | refine sk ?_
        | (refine rc (hs := refKind_spec _ ph) (k := ?_)
           rintro ⟨⟩ -
           rw [hkk]
           try simp only [List.cons_append, List.nil_append])
      refine nx ?_
      refine any_next (by (try (apply bd 22)); (try (apply bk 21 rfl (rd_ld rfl row3))); (try (apply bk 20 rfl (rd_fa rfl fld28_0))); (try (apply bk 19 rfl (rd_fa rfl fld30_1))); apply bd 18; apply bd 17; (try (apply bd 16)); (try (apply bd 15)); (try (apply bd 14)); (try (apply bd 13)); (try (apply bd 12)); (try (apply bd 11)); (try (apply bd 10)); (try (apply bd 9)); apply bd 8; apply bd 7; (try (apply bd 6)); (try (apply bd 5)); (try (apply bd 4)); apply bd 3; apply bd 2; exact .nil) ?_
      first | refine ts 24 ?_ | refine ta 24 rfl ((rd_ne rfl rfl).eq (congrArg Value.bool (decide_eq_true (by omega)))) ?_ | refine ta 24 rfl ((rd_ne rfl rfl).eq (congrArg Value.bool (decide_eq_false (by omega)))) ?_
      refine ta 25 rfl (rd_pick rfl rfl) ?_
      refine ta 26 rfl (rd_move rfl) ?_
      first | refine ts 27 ?_ | refine ta 27 rfl (rd_fa rfl fld30_1) ?_
      first | refine ts 28 ?_ | refine ta 28 rfl (rd_fa rfl fld28_7) ?_
      first | refine ts 29 ?_ | refine ta 29 rfl (rd_ld rfl row2) ?_
      first | refine ts 30 ?_ | refine ta 30 rfl (rd_move rfl) ?_
      first | refine ts 31 ?_ | refine ta 31 rfl ((rd_ne rfl rfl).eq (congrArg Value.bool (decide_eq_true (by omega)))) ?_ | refine ta 31 rfl ((rd_ne rfl rfl).eq (congrArg Value.bool (decide_eq_false (by omega)))) ?_
      refine ta 32 rfl (rd_pick rfl rfl) ?_
      refine ta 33 rfl (rd_move rfl) ?_
      first | refine ts 34 ?_ | refine ta 34 rfl (rd_fa rfl fld35_0) ?_
      first | refine ts 35 ?_ | refine ta 35 rfl (rd_ld rfl row25) ?_
      first | refine ts 36 ?_ | refine ta 36 rfl ((rd_ne rfl rfl).eq (congrArg Value.bool (decide_eq_true (by omega)))) ?_ | refine ta 36 rfl ((rd_ne rfl rfl).eq (congrArg Value.bool (decide_eq_false (by omega)))) ?_
      refine ta 37 rfl (rd_pick rfl rfl) ?_
      refine any_nil (by kernel_rfl) ?_
      refine St.then_n ?_
      exact St.sb (St.kq [(0, _), (1, _), (2, _), (8, _), (9, _), (10, _), (54, _)] (h := hK _ (by first | exact (hbad.2 (by omega)).symm | exact (Bool.eq_false_iff.2 (fun hh => absurd (hbad.1 hh) (by omega))).symm)))
    · refine do_draw [[1, 2, 3, 4, 5, 6, 7, 8, 9, 10, 11, 12, 13, 14, 15, 16, 17, 18, 19, 20, 21, 22, 23, 24, 25, 26, 27, 28, 29, 30, 31, 32, 33, 34, 35, 36, 37], [2, 3, 4, 5, 6, 7, 8, 9, 10, 11, 12, 13, 14, 15, 16, 17, 18, 19, 20, 21, 22, 23, 24, 25, 26, 27, 28, 29, 30, 31, 32, 33, 34, 35, 36, 37], [3, 4, 5, 6, 7, 8, 9, 10, 11, 12, 13, 14, 15, 16, 17, 18, 19, 20, 21, 22, 23, 24, 25, 26, 27, 28, 29, 30, 31, 32, 33, 34, 35, 36, 37], [4, 5, 6, 7, 8, 9, 10, 11, 12, 13, 14, 15, 16, 17, 18, 19, 20, 21, 22, 23, 24, 25, 26, 27, 28, 29, 30, 31, 32, 33, 34, 35, 36, 37], [5, 6, 7, 8, 9, 10, 11, 12, 13, 14, 15, 16, 17, 18, 19, 20, 21, 22, 23, 24, 25, 26, 27, 28, 29, 30, 31, 32, 33, 34, 35, 36, 37], [6, 7, 8, 9, 10, 11, 12, 13, 14, 15, 16, 17, 18, 19, 20, 21, 22, 23, 24, 25, 26, 27, 28, 29, 30, 31, 32, 33, 34, 35, 36, 37], [7, 8, 9, 10, 11, 12, 13, 14, 15, 16, 17, 18, 19, 20, 21, 22, 23, 24, 25, 26, 27, 28, 29, 30, 31, 32, 33, 34, 35, 36, 37], [8, 9, 10, 11, 12, 13, 14, 15, 16, 17, 18, 19, 20, 21, 22, 23, 24, 25, 26, 27, 28, 29, 30, 31, 32, 33, 34, 35, 36, 37], [9, 10, 11, 12, 13, 14, 15, 16, 17, 18, 19, 20, 21, 22, 23, 24, 25, 26, 27, 28, 29, 30, 31, 32, 33, 34, 35, 36, 37], [10, 16, 17, 18, 19, 20, 21, 22, 23, 24, 25, 26, 27, 28, 29, 30, 31, 32, 33, 34, 35, 36, 37], [16, 17, 18, 19, 20, 21, 22, 23, 24, 25, 26, 27, 28, 29, 30, 31, 32, 33, 34, 35, 36, 37], [12, 13, 14, 15, 16, 17, 18, 19, 20, 21, 22, 23, 24, 25, 26, 27, 28, 29, 30, 31, 32, 33, 34, 35, 36, 37], [13, 14, 15, 16, 17, 18, 19, 20, 21, 22, 23, 24, 25, 26, 27, 28, 29, 30, 31, 32, 33, 34, 35, 36, 37], [14, 15, 16, 17, 18, 19, 20, 21, 22, 23, 24, 25, 26, 27, 28, 29, 30, 31, 32, 33, 34, 35, 36, 37], [15, 16, 17, 18, 19, 20, 21, 22, 23, 24, 25, 26, 27, 28, 29, 30, 31, 32, 33, 34, 35, 36, 37], [16, 17, 18, 19, 20, 21, 22, 23, 24, 25, 26, 27, 28, 29, 30, 31, 32, 33, 34, 35, 36, 37], [17, 18, 19, 20, 21, 22, 23, 24, 25, 26, 27, 28, 29, 30, 31, 32, 33, 34, 35, 36, 37], [18, 19, 20, 21, 22, 23, 24, 25, 26, 27, 28, 29, 30, 31, 32, 33, 34, 35, 36, 37], [19, 20, 21, 22, 23, 24, 25, 26, 27, 28, 29, 30, 31, 32, 33, 34, 35, 36, 37], [20, 21, 24, 25, 26, 27, 28, 29, 30, 31, 32, 33, 34, 35, 36, 37], [21, 24, 25, 26, 27, 28, 29, 30, 31, 32, 33, 34, 35, 36, 37], [24, 25, 26, 27, 28, 29, 30, 31, 32, 33, 34, 35, 36, 37], [23, 24, 25, 26, 27, 28, 29, 30, 31, 32, 33, 34, 35, 36, 37], [24, 25, 26, 27, 28, 29, 30, 31, 32, 33, 34, 35, 36, 37], [25, 26, 27, 28, 29, 30, 31, 32, 33, 34, 35, 36, 37], [26, 27, 28, 29, 30, 31, 32, 33, 34, 35, 36, 37], [27, 28, 29, 30, 31, 32, 33, 34, 35, 36, 37], [28, 29, 31, 32, 33, 34, 35, 36, 37], [29, 31, 32, 33, 34, 35, 36, 37], [31, 32, 33, 34, 35, 36, 37], [31, 32, 33, 34, 35, 36, 37], [32, 33, 34, 35, 36, 37], [33, 34, 35, 36, 37], [34, 35, 36, 37], [35, 36, 37], [36, 37], [37], []] (by kernel_rfl) rfl ?_
      refine ta 0 rfl (rd_move rfl) ?_
      refine tr 1 ?_
      refine rc (hs := refKind_spec _ ph) (k := ?_)
      rintro ⟨⟩ -
      rw [hkk]
      try simp only [List.cons_append, List.nil_append]
      refine nx ?_
      refine any_next (by apply bd 0; exact .nil) ?_
      first | refine ta 2 rfl ((rd_eq rfl rfl).eq (congrArg Value.bool (decide_eq_true (by omega)))) ?_ | refine ta 2 rfl ((rd_eq rfl rfl).eq (congrArg Value.bool (decide_eq_false (by omega)))) ?_
      refine ta 3 rfl (rd_move rfl) ?_
      first | refine ts 4 ?_ | refine ta 4 rfl (rd_fa rfl fld30_0) ?_
      first | refine ts 5 ?_ | refine ta 5 rfl (rd_ld rfl row3) ?_
      first | refine ts 6 ?_ | refine ta 6 rfl ((rd_lt rfl rfl).eq (congrArg Value.bool (decide_eq_true (by omega)))) ?_ | refine ta 6 rfl ((rd_lt rfl rfl).eq (congrArg Value.bool (decide_eq_false (by omega)))) ?_
      refine ta 7 rfl (rd_pick rfl rfl) ?_
      refine ta 8 rfl (rd_move rfl) ?_
      first | refine ts 9 ?_ | refine ta 9 rfl (rd_fa rfl fld30_0) ?_
      first | refine ts 10 ?_ | refine ta 10 rfl (rd_ld rfl row3) ?_
      first | refine ts 11 ?_ | refine ta 11 rfl (rd_move rfl) ?_
      first | refine ts 12 ?_ | refine ta 12 rfl (rd_nilCheck rfl) ?_
      first | refine ts 13 ?_ | refine ta 13 rfl (rd_fa rfl fld164_2) ?_
      first | refine ts 14 ?_ | refine ta 14 rfl (rd_ld rfl row88) ?_
      first | refine ts 15 ?_ | refine ta 15 rfl (rd_len Try.underlying88 rfl) ?_
      first | refine ts 16 ?_ | refine ta 16 rfl ((rd_gt rfl rfl).eq (congrArg Value.bool (decide_eq_true (by omega)))) ?_ | refine ta 16 rfl ((rd_gt rfl rfl).eq (congrArg Value.bool (decide_eq_false (by omega)))) ?_
      refine ta 17 rfl (rd_pick rfl rfl) ?_
      refine ta 18 rfl (rd_move rfl) ?_
      first | refine ts 19 ?_ | refine ta 19 rfl (rd_fa rfl fld30_1) ?_
      first | refine ts 20 ?_ | refine ta 20 rfl (rd_fa rfl fld28_0) ?_
      first | refine ts 21 ?_ | refine ta 21 rfl (rd_ld rfl row3) ?_
      first | refine ts 22 ?_ | refine ta 22 rfl (rd_move rfl) ?_
      refine tr 23 ?_
      first
        | refine sk ?_
        | (refine rc (hs := refKind_spec _ ph) (k := ?_)
           rintro ⟨⟩ -
           rw [hkk]
           try simp only [List.cons_append, List.nil_append])
      refine nx ?_
      refine any_next (by (try (apply bd 22)); (try (apply bk 21 rfl (rd_ld rfl row3))); (try (apply bk 20 rfl (rd_fa rfl fld28_0))); (try (apply bk 19 rfl (rd_fa rfl fld30_1))); apply bd 18; apply bd 17; (try (apply bd 16)); (try (apply bd 15)); (try (apply bd 14)); (try (apply bd 13)); (try (apply bd 12)); (try (apply bd 11)); (try (apply bd 10)); (try (apply bd 9)); apply bd 8; apply bd 7; (try (apply bd 6)); (try (apply bd 5)); (try (apply bd 4)); apply bd 3; apply bd 2; exact .nil) ?_
      first | refine ts 24 ?_ | refine ta 24 rfl ((rd_ne rfl rfl).eq (congrArg Value.bool (decide_eq_true (by omega)))) ?_ | refine ta 24 rfl ((rd_ne rfl rfl).eq (congrArg Value.bool (decide_eq_false (by omega)))) ?_
      refine ta 25 rfl (rd_pick rfl rfl) ?_
      refine ta 26 rfl (rd_move rfl) ?_
      first | refine ts 27 ?_ | refine ta 27 rfl (rd_fa rfl fld30_1) ?_
      first | refine ts 28 ?_ | refine ta 28 rfl (rd_fa rfl fld28_7) ?_
      first | refine ts 29 ?_ | refine ta 29 rfl (rd_ld rfl row2) ?_
      first | refine ts 30 ?_ | refine ta 30 rfl (rd_move rfl) ?_
      first | refine ts 31 ?_ | refine ta 31 rfl ((rd_ne rfl rfl).eq (congrArg Value.bool (decide_eq_true (by omega)))) ?_ | refine ta 31 rfl ((rd_ne rfl rfl).eq (congrArg Value.bool (decide_eq_false (by omega)))) ?_
      refine ta 32 rfl (rd_pick rfl rfl) ?_
      refine ta 33 rfl (rd_move rfl) ?_
      first | refine ts 34 ?_ | refine ta 34 rfl (rd_fa rfl fld35_0) ?_
      first | refine ts 35 ?_ | refine ta 35 rfl (rd_ld rfl row25) ?_
      first | refine ts 36 ?_ | refine ta 36 rfl ((rd_ne rfl rfl).eq (congrArg Value.bool (decide_eq_true (by omega)))) ?_ | refine ta 36 rfl ((rd_ne rfl rfl).eq (congrArg Value.bool (decide_eq_false (by omega)))) ?_
      refine ta 37 rfl (rd_pick rfl rfl) ?_
      refine any_nil (by kernel_rfl) ?_
      refine St.then_n ?_
      exact St.sb (St.kq [(0, _), (1, _), (2, _), (8, _), (9, _), (10, _), (54, _)] (h := hK _ (by first | exact (hbad.2 (by omega)).symm | exact (Bool.eq_false_iff.2 (fun hh => absurd (hbad.1 hh) (by omega))).symm)))
    · refine do_draw [[1, 2, 3, 4, 5, 6, 7, 8, 9, 10, 11, 12, 13, 14, 15, 16, 17, 18, 19, 20, 21, 22, 23, 24, 25, 26, 27, 28, 29, 30, 31, 32, 33, 34, 35, 36, 37], [2, 3, 4, 5, 6, 7, 8, 9, 10, 11, 12, 13, 14, 15, 16, 17, 18, 19, 20, 21, 22, 23, 24, 25, 26, 27, 28, 29, 30, 31, 32, 33, 34, 35, 36, 37], [3, 4, 5, 6, 7, 8, 9, 10, 11, 12, 13, 14, 15, 16, 17, 18, 19, 20, 21, 22, 23, 24, 25, 26, 27, 28, 29, 30, 31, 32, 33, 34, 35, 36, 37], [4, 5, 6, 7, 8, 9, 10, 11, 12, 13, 14, 15, 16, 17, 18, 19, 20, 21, 22, 23, 24, 25, 26, 27, 28, 29, 30, 31, 32, 33, 34, 35, 36, 37], [5, 6, 7, 8, 9, 10, 11, 12, 13, 14, 15, 16, 17, 18, 19, 20, 21, 22, 23, 24, 25, 26, 27, 28, 29, 30, 31, 32, 33, 34, 35, 36, 37], [6, 7, 8, 9, 10, 11, 12, 13, 14, 15, 16, 17, 18, 19, 20, 21, 22, 23, 24, 25, 26, 27, 28, 29, 30, 31, 32, 33, 34, 35, 36, 37], [7, 8, 9, 10, 11, 12, 13, 14, 15, 16, 17, 18, 19, 20, 21, 22, 23, 24, 25, 26, 27, 28, 29, 30, 31, 32, 33, 34, 35, 36, 37], [8, 9, 10, 11, 12, 13, 14, 15, 16, 17, 18, 19, 20, 21, 22, 23, 24, 25, 26, 27, 28, 29, 30, 31, 32, 33, 34, 35, 36, 37], [9, 10, 11, 12, 13, 14, 15, 16, 17, 18, 19, 20, 21, 22, 23, 24, 25, 26, 27, 28, 29, 30, 31, 32, 33, 34, 35, 36, 37], [10, 16, 17, 18, 19, 20, 21, 22, 23, 24, 25, 26, 27, 28, 29, 30, 31, 32, 33, 34, 35, 36, 37], [16, 17, 18, 19, 20, 21, 22, 23, 24, 25, 26, 27, 28, 29, 30, 31, 32, 33, 34, 35, 36, 37], [12, 13, 14, 15, 16, 17, 18, 19, 20, 21, 22, 23, 24, 25, 26, 27, 28, 29, 30, 31, 32, 33, 34, 35, 36, 37], [13, 14, 15, 16, 17, 18, 19, 20, 21, 22, 23, 24, 25, 26, 27, 28, 29, 30, 31, 32, 33, 34, 35, 36, 37], [14, 15, 16, 17, 18, 19, 20, 21, 22, 23, 24, 25, 26, 27, 28, 29, 30, 31, 32, 33, 34, 35, 36, 37], [15, 16, 17, 18, 19, 20, 21, 22, 23, 24, 25, 26, 27, 28, 29, 30, 31, 32, 33, 34, 35, 36, 37], [16, 17, 18, 19, 20, 21, 22, 23, 24, 25, 26, 27, 28, 29, 30, 31, 32, 33, 34, 35, 36, 37], [17, 18, 19, 20, 21, 22, 23, 24, 25, 26, 27, 28, 29, 30, 31, 32, 33, 34, 35, 36, 37], [18, 19, 20, 21, 22, 23, 24, 25, 26, 27, 28, 29, 30, 31, 32, 33, 34, 35, 36, 37], [19, 20, 21, 22, 23, 24, 25, 26, 27, 28, 29, 30, 31, 32, 33, 34, 35, 36, 37], [20, 21, 24, 25, 26, 27, 28, 29, 30, 31, 32, 33, 34, 35, 36, 37], [21, 24, 25, 26, 27, 28, 29, 30, 31, 32, 33, 34, 35, 36, 37], [24, 25, 26, 27, 28, 29, 30, 31, 32, 33, 34, 35, 36, 37], [23, 24, 25, 26, 27, 28, 29, 30, 31, 32, 33, 34, 35, 36, 37], [24, 25, 26, 27, 28, 29, 30, 31, 32, 33, 34, 35, 36, 37], [25, 26, 27, 28, 29, 30, 31, 32, 33, 34, 35, 36, 37], [26, 27, 28, 29, 30, 31, 32, 33, 34, 35, 36, 37], [27, 28, 29, 30, 31, 32, 33, 34, 35, 36, 37], [28, 29, 31, 32, 33, 34, 35, 36, 37], [29, 31, 32, 33, 34, 35, 36, 37], [31, 32, 33, 34, 35, 36, 37], [31, 32, 33, 34, 35, 36, 37], [32, 33, 34, 35, 36, 37], [33, 34, 35, 36, 37], [34, 35, 36, 37], [35, 36, 37], [36, 37], [37], []] (by kernel_rfl) rfl ?_
      refine ta 0 rfl (rd_move rfl) ?_
      refine tr 1 ?_
      refine rc (hs := refKind_spec _ ph) (k := ?_)
      rintro ⟨⟩ -
      rw [hkk]
      try simp only [List.cons_append, List.nil_append]
      refine nx ?_
      refine any_next (by apply bd 0; exact .nil) ?_
      first | refine ta 2 rfl ((rd_eq rfl rfl).eq (congrArg Value.bool (decide_eq_true (by omega)))) ?_ | refine ta 2 rfl ((rd_eq rfl rfl).eq (congrArg Value.bool (decide_eq_false (by omega)))) ?_
      refine ta 3 rfl (rd_move rfl) ?_
      first | refine ts 4 ?_ | refine ta 4 rfl (rd_fa rfl fld30_0) ?_
      first | refine ts 5 ?_ | refine ta 5 rfl (rd_ld rfl row3) ?_
      first | refine ts 6 ?_ | refine ta 6 rfl ((rd_lt rfl rfl).eq (congrArg Value.bool (decide_eq_true (by omega)))) ?_ | refine ta 6 rfl ((rd_lt rfl rfl).eq (congrArg Value.bool (decide_eq_false (by omega)))) ?_
      refine ta 7 rfl (rd_pick rfl rfl) ?_
      refine ta 8 rfl (rd_move rfl) ?_
      first | refine ts 9 ?_ | refine ta 9 rfl (rd_fa rfl fld30_0) ?_
      first | refine ts 10 ?_ | refine ta 10 rfl (rd_ld rfl row3) ?_
      first | refine ts 11 ?_ | refine ta 11 rfl (rd_move rfl) ?_
      first | refine ts 12 ?_ | refine ta 12 rfl (rd_nilCheck rfl) ?_
      first | refine ts 13 ?_ | refine ta 13 rfl (rd_fa rfl fld164_2) ?_
      first | refine ts 14 ?_ | refine ta 14 rfl (rd_ld rfl row88) ?_
      first | refine ts 15 ?_ | refine ta 15 rfl (rd_len Try.underlying88 rfl) ?_
      first | refine ts 16 ?_ | refine ta 16 rfl ((rd_gt rfl rfl).eq (congrArg Value.bool (decide_eq_true (by omega)))) ?_ | refine ta 16 rfl ((rd_gt rfl rfl).eq (congrArg Value.bool (decide_eq_false (by omega)))) ?_
      refine ta 17 rfl (rd_pick rfl rfl) ?_
      refine ta 18 rfl (rd_move rfl) ?_
      first | refine ts 19 ?_ | refine ta 19 rfl (rd_fa rfl fld30_1) ?_
      first | refine ts 20 ?_ | refine ta 20 rfl (rd_fa rfl fld28_0) ?_
      first | refine ts 21 ?_ | refine ta 21 rfl (rd_ld rfl row3) ?_
      first | refine ts 22 ?_ | refine ta 22 rfl (rd_move rfl) ?_
      refine tr 23 ?_
      first
        | refine sk ?_
        | (refine rc (hs := refKind_spec _ ph) (k := ?_)
           rintro ⟨⟩ -
           rw [hkk]
           try simp only [List.cons_append, List.nil_append])
      refine nx ?_
      refine any_next (by (try (apply bd 22)); (try (apply bk 21 rfl (rd_ld rfl row3))); (try (apply bk 20 rfl (rd_fa rfl fld28_0))); (try (apply bk 19 rfl (rd_fa rfl fld30_1))); apply bd 18; apply bd 17; (try (apply bd 16)); (try (apply bd 15)); (try (apply bd 14)); (try (apply bd 13)); (try (apply bd 12)); (try (apply bd 11)); (try (apply bd 10)); (try (apply bd 9)); apply bd 8; apply bd 7; (try (apply bd 6)); (try (apply bd 5)); (try (apply bd 4)); apply bd 3; apply bd 2; exact .nil) ?_
      first | refine ts 24 ?_ | refine ta 24 rfl ((rd_ne rfl rfl).eq (congrArg Value.bool (decide_eq_true (by omega)))) ?_ | refine ta 24 rfl ((rd_ne rfl rfl).eq (congrArg Value.bool (decide_eq_false (by omega)))) ?_
      refine ta 25 rfl (rd_pick rfl rfl) ?_
      refine ta 26 rfl (rd_move rfl) ?_
      first | refine ts 27 ?_ | refine ta 27 rfl (rd_fa rfl fld30_1) ?_
      first | refine ts 28 ?_ | refine ta 28 rfl (rd_fa rfl fld28_7) ?_
      first | refine ts 29 ?_ | refine ta 29 rfl (rd_ld rfl row2) ?_
      first | refine ts 30 ?_ | refine ta 30 rfl (rd_move rfl) ?_
      first | refine ts 31 ?_ | refine ta 31 rfl ((rd_ne rfl rfl).eq (congrArg Value.bool (decide_eq_true (by omega)))) ?_ | refine ta 31 rfl ((rd_ne rfl rfl).eq (congrArg Value.bool (decide_eq_false (by omega)))) ?_
      refine ta 32 rfl (rd_pick rfl rfl) ?_
      refine ta 33 rfl (rd_move rfl) ?_
      first | refine ts 34 ?_ | refine ta 34 rfl (rd_fa rfl fld35_0) ?_
      first | refine ts 35 ?_ | refine ta 35 rfl (rd_ld rfl row25) ?_
      first | refine ts 36 ?_ | refine ta 36 rfl ((rd_ne rfl rfl).eq (congrArg Value.bool (decide_eq_true (by omega)))) ?_ | refine ta 36 rfl ((rd_ne rfl rfl).eq (congrArg Value.bool (decide_eq_false (by omega)))) ?_
      refine ta 37 rfl (rd_pick rfl rfl) ?_
      refine any_nil (by kernel_rfl) ?_
      refine St.then_n ?_
      exact St.sb (St.kq [(0, _), (1, _), (2, _), (8, _), (9, _), (10, _), (54, _)] (h := hK _ (by first | exact (hbad.2 (by omega)).symm | exact (Bool.eq_false_iff.2 (fun hh => absurd (hbad.1 hh) (by omega))).symm)))
    · refine do_draw [[1, 2, 3, 4, 5, 6, 7, 8, 9, 10, 11, 12, 13, 14, 15, 16, 17, 18, 19, 20, 21, 22, 23, 24, 25, 26, 27, 28, 29, 30, 31, 32, 33, 34, 35, 36, 37], [2, 3, 4, 5, 6, 7, 8, 9, 10, 11, 12, 13, 14, 15, 16, 17, 18, 19, 20, 21, 22, 23, 24, 25, 26, 27, 28, 29, 30, 31, 32, 33, 34, 35, 36, 37], [3, 4, 5, 6, 7, 8, 9, 10, 11, 12, 13, 14, 15, 16, 17, 18, 19, 20, 21, 22, 23, 24, 25, 26, 27, 28, 29, 30, 31, 32, 33, 34, 35, 36, 37], [4, 5, 6, 7, 8, 9, 10, 11, 12, 13, 14, 15, 16, 17, 18, 19, 20, 21, 22, 23, 24, 25, 26, 27, 28, 29, 30, 31, 32, 33, 34, 35, 36, 37], [5, 6, 7, 8, 9, 10, 11, 12, 13, 14, 15, 16, 17, 18, 19, 20, 21, 22, 23, 24, 25, 26, 27, 28, 29, 30, 31, 32, 33, 34, 35, 36, 37], [6, 7, 8, 9, 10, 11, 12, 13, 14, 15, 16, 17, 18, 19, 20, 21, 22, 23, 24, 25, 26, 27, 28, 29, 30, 31, 32, 33, 34, 35, 36, 37], [7, 8, 9, 10, 11, 12, 13, 14, 15, 16, 17, 18, 19, 20, 21, 22, 23, 24, 25, 26, 27, 28, 29, 30, 31, 32, 33, 34, 35, 36, 37], [8, 9, 10, 11, 12, 13, 14, 15, 16, 17, 18, 19, 20, 21, 22, 23, 24, 25, 26, 27, 28, 29, 30, 31, 32, 33, 34, 35, 36, 37], [9, 10, 11, 12, 13, 14, 15, 16, 17, 18, 19, 20, 21, 22, 23, 24, 25, 26, 27, 28, 29, 30, 31, 32, 33, 34, 35, 36, 37], [10, 16, 17, 18, 19, 20, 21, 22, 23, 24, 25, 26, 27, 28, 29, 30, 31, 32, 33, 34, 35, 36, 37], [16, 17, 18, 19, 20, 21, 22, 23, 24, 25, 26, 27, 28, 29, 30, 31, 32, 33, 34, 35, 36, 37], [12, 13, 14, 15, 16, 17, 18, 19, 20, 21, 22, 23, 24, 25, 26, 27, 28, 29, 30, 31, 32, 33, 34, 35, 36, 37], [13, 14, 15, 16, 17, 18, 19, 20, 21, 22, 23, 24, 25, 26, 27, 28, 29, 30, 31, 32, 33, 34, 35, 36, 37], [14, 15, 16, 17, 18, 19, 20, 21, 22, 23, 24, 25, 26, 27, 28, 29, 30, 31, 32, 33, 34, 35, 36, 37], [15, 16, 17, 18, 19, 20, 21, 22, 23, 24, 25, 26, 27, 28, 29, 30, 31, 32, 33, 34, 35, 36, 37], [16, 17, 18, 19, 20, 21, 22, 23, 24, 25, 26, 27, 28, 29, 30, 31, 32, 33, 34, 35, 36, 37], [17, 18, 19, 20, 21, 22, 23, 24, 25, 26, 27, 28, 29, 30, 31, 32, 33, 34, 35, 36, 37], [18, 19, 20, 21, 22, 23, 24, 25, 26, 27, 28, 29, 30, 31, 32, 33, 34, 35, 36, 37], [19, 20, 21, 22, 23, 24, 25, 26, 27, 28, 29, 30, 31, 32, 33, 34, 35, 36, 37], [20, 21, 24, 25, 26, 27, 28, 29, 30, 31, 32, 33, 34, 35, 36, 37], [21, 24, 25, 26, 27, 28, 29, 30, 31, 32, 33, 34, 35, 36, 37], [24, 25, 26, 27, 28, 29, 30, 31, 32, 33, 34, 35, 36, 37], [23, 24, 25, 26, 27, 28, 29, 30, 31, 32, 33, 34, 35, 36, 37], [24, 25, 26, 27, 28, 29, 30, 31, 32, 33, 34, 35, 36, 37], [25, 26, 27, 28, 29, 30, 31, 32, 33, 34, 35, 36, 37], [26, 27, 28, 29, 30, 31, 32, 33, 34, 35, 36, 37], [27, 28, 29, 30, 31, 32, 33, 34, 35, 36, 37], [28, 29, 31, 32, 33, 34, 35, 36, 37], [29, 31, 32, 33, 34, 35, 36, 37], [31, 32, 33, 34, 35, 36, 37], [31, 32, 33, 34, 35, 36, 37], [32, 33, 34, 35, 36, 37], [33, 34, 35, 36, 37], [34, 35, 36, 37], [35, 36, 37], [36, 37], [37], []] (by kernel_rfl) rfl ?_
      refine ta 0 rfl (rd_move rfl) ?_
      refine tr 1 ?_
      refine rc (hs := refKind_spec _ ph) (k := ?_)
      rintro ⟨⟩ -
      rw [hkk]
      try simp only [List.cons_append, List.nil_append]
      refine nx ?_
      refine any_next (by apply bd 0; exact .nil) ?_
      first | refine ta 2 rfl ((rd_eq rfl rfl).eq (congrArg Value.bool (decide_eq_true (by omega)))) ?_ | refine ta 2 rfl ((rd_eq rfl rfl).eq (congrArg Value.bool (decide_eq_false (by omega)))) ?_
      refine ta 3 rfl (rd_move rfl) ?_
      first | refine ts 4 ?_ | refine ta 4 rfl (rd_fa rfl fld30_0) ?_
      first | refine ts 5 ?_ | refine ta 5 rfl (rd_ld rfl row3) ?_
      first | refine ts 6 ?_ | refine ta 6 rfl ((rd_lt rfl rfl).eq (congrArg Value.bool (decide_eq_true (by omega)))) ?_ | refine ta 6 rfl ((rd_lt rfl rfl).eq (congrArg Value.bool (decide_eq_false (by omega)))) ?_
      refine ta 7 rfl (rd_pick rfl rfl) ?_
      refine ta 8 rfl (rd_move rfl) ?_
      first | refine ts 9 ?_ | refine ta 9 rfl (rd_fa rfl fld30_0) ?_
      first | refine ts 10 ?_ | refine ta 10 rfl (rd_ld rfl row3) ?_
      first | refine ts 11 ?_ | refine ta 11 rfl (rd_move rfl) ?_
      first | refine ts 12 ?_ | refine ta 12 rfl (rd_nilCheck rfl) ?_
      first | refine ts 13 ?_ | refine ta 13 rfl (rd_fa rfl fld164_2) ?_
      first | refine ts 14 ?_ | refine ta 14 rfl (rd_ld rfl row88) ?_
      first | refine ts 15 ?_ | refine ta 15 rfl (rd_len Try.underlying88 rfl) ?_
      first | refine ts 16 ?_ | refine ta 16 rfl ((rd_gt rfl rfl).eq (congrArg Value.bool (decide_eq_true (by omega)))) ?_ | refine ta 16 rfl ((rd_gt rfl rfl).eq (congrArg Value.bool (decide_eq_false (by omega)))) ?_
      refine ta 17 rfl (rd_pick rfl rfl) ?_
      refine ta 18 rfl (rd_move rfl) ?_
      first | refine ts 19 ?_ | refine ta 19 rfl (rd_fa rfl fld30_1) ?_
      first | refine ts 20 ?_ | refine ta 20 rfl (rd_fa rfl fld28_0) ?_
      first | refine ts 21 ?_ | refine ta 21 rfl (rd_ld rfl row3) ?_
      first | refine ts 22 ?_ | refine ta 22 rfl (rd_move rfl) ?_
      refine tr 23 ?_
      first
        | refine sk ?_
        | (refine rc (hs := refKind_spec _ ph) (k := ?_)
           rintro ⟨⟩ -
           rw [hkk]
           try simp only [List.cons_append, List.nil_append])
      refine nx ?_
      refine any_next (by (try (apply bd 22)); (try (apply bk 21 rfl (rd_ld rfl row3))); (try (apply bk 20 rfl (rd_fa rfl fld28_0))); (try (apply bk 19 rfl (rd_fa rfl fld30_1))); apply bd 18; apply bd 17; (try (apply bd 16)); (try (apply bd 15)); (try (apply bd 14)); (try (apply bd 13)); (try (apply bd 12)); (try (apply bd 11)); (try (apply bd 10)); (try (apply bd 9)); apply bd 8; apply bd 7; (try (apply bd 6)); (try (apply bd 5)); (try (apply bd 4)); apply bd 3; apply bd 2; exact .nil) ?_
      first | refine ts 24 ?_ | refine ta 24 rfl ((rd_ne rfl rfl).eq (congrArg Value.bool (decide_eq_true (by omega)))) ?_ | refine ta 24 rfl ((rd_ne rfl rfl).eq (congrArg Value.bool (decide_eq_false (by omega)))) ?_
      refine ta 25 rfl (rd_pick rfl rfl) ?_
      refine ta 26 rfl (rd_move rfl) ?_
      first | refine ts 27 ?_ | refine ta 27 rfl (rd_fa rfl fld30_1) ?_
      first | refine ts 28 ?_ | refine ta 28 rfl (rd_fa rfl fld28_7) ?_
      first | refine ts 29 ?_ | refine ta 29 rfl (rd_ld rfl row2) ?_
      first | refine ts 30 ?_ | refine ta 30 rfl (rd_move rfl) ?_
      first | refine ts 31 ?_ | refine ta 31 rfl ((rd_ne rfl rfl).eq (congrArg Value.bool (decide_eq_true (by omega)))) ?_ | refine ta 31 rfl ((rd_ne rfl rfl).eq (congrArg Value.bool (decide_eq_false (by omega)))) ?_
      refine ta 32 rfl (rd_pick rfl rfl) ?_
      refine ta 33 rfl (rd_move rfl) ?_
      first | refine ts 34 ?_ | refine ta 34 rfl (rd_fa rfl fld35_0) ?_
      first | refine ts 35 ?_ | refine ta 35 rfl (rd_ld rfl row25) ?_
      first | refine ts 36 ?_ | refine ta 36 rfl ((rd_ne rfl rfl).eq (congrArg Value.bool (decide_eq_true (by omega)))) ?_ | refine ta 36 rfl ((rd_ne rfl rfl).eq (congrArg Value.bool (decide_eq_false (by omega)))) ?_
      refine ta 37 rfl (rd_pick rfl rfl) ?_
      refine any_nil (by kernel_rfl) ?_
      refine St.then_n ?_
      exact St.sb (St.kq [(0, _), (1, _), (2, _), (8, _), (9, _), (10, _), (54, _)] (h := hK _ (by first | exact (hbad.2 (by omega)).symm | exact (Bool.eq_false_iff.2 (fun hh => absurd (hbad.1 hh) (by omega))).symm)))
    · refine do_draw [[1, 2, 3, 4, 5, 6, 7, 8, 9, 10, 11, 12, 13, 14, 15, 16, 17, 18, 19, 20, 21, 22, 23, 24, 25, 26, 27, 28, 29, 30, 31, 32, 33, 34, 35, 36, 37], [2, 3, 4, 5, 6, 7, 8, 9, 10, 11, 12, 13, 14, 15, 16, 17, 18, 19, 20, 21, 22, 23, 24, 25, 26, 27, 28, 29, 30, 31, 32, 33, 34, 35, 36, 37], [3, 4, 5, 6, 7, 8, 9, 10, 11, 12, 13, 14, 15, 16, 17, 18, 19, 20, 21, 22, 23, 24, 25, 26, 27, 28, 29, 30, 31, 32, 33, 34, 35, 36, 37], [4, 5, 6, 7, 8, 9, 10, 11, 12, 13, 14, 15, 16, 17, 18, 19, 20, 21, 22, 23, 24, 25, 26, 27, 28, 29, 30, 31, 32, 33, 34, 35, 36, 37], [5, 6, 7, 8, 9, 10, 11, 12, 13, 14, 15, 16, 17, 18, 19, 20, 21, 22, 23, 24, 25, 26, 27, 28, 29, 30, 31, 32, 33, 34, 35, 36, 37], [6, 7, 8, 9, 10, 11, 12, 13, 14, 15, 16, 17, 18, 19, 20, 21, 22, 23, 24, 25, 26, 27, 28, 29, 30, 31, 32, 33, 34, 35, 36, 37], [7, 8, 9, 10, 11, 12, 13, 14, 15, 16, 17, 18, 19, 20, 21, 22, 23, 24, 25, 26, 27, 28, 29, 30, 31, 32, 33, 34, 35, 36, 37], [8, 9, 10, 11, 12, 13, 14, 15, 16, 17, 18, 19, 20, 21, 22, 23, 24, 25, 26, 27, 28, 29, 30, 31, 32, 33, 34, 35, 36, 37], [9, 10, 11, 12, 13, 14, 15, 16, 17, 18, 19, 20, 21, 22, 23, 24, 25, 26, 27, 28, 29, 30, 31, 32, 33, 34, 35, 36, 37], [10, 16, 17, 18, 19, 20, 21, 22, 23, 24, 25, 26, 27, 28, 29, 30, 31, 32, 33, 34, 35, 36, 37], [16, 17, 18, 19, 20, 21, 22, 23, 24, 25, 26, 27, 28, 29, 30, 31, 32, 33, 34, 35, 36, 37], [12, 13, 14, 15, 16, 17, 18, 19, 20, 21, 22, 23, 24, 25, 26, 27, 28, 29, 30, 31, 32, 33, 34, 35, 36, 37], [13, 14, 15, 16, 17, 18, 19, 20, 21, 22, 23, 24, 25, 26, 27, 28, 29, 30, 31, 32, 33, 34, 35, 36, 37], [14, 15, 16, 17, 18, 19, 20, 21, 22, 23, 24, 25, 26, 27, 28, 29, 30, 31, 32, 33, 34, 35, 36, 37], [15, 16, 17, 18, 19, 20, 21, 22, 23, 24, 25, 26, 27, 28, 29, 30, 31, 32, 33, 34, 35, 36, 37], [16, 17, 18, 19, 20, 21, 22, 23, 24, 25, 26, 27, 28, 29, 30, 31, 32, 33, 34, 35, 36, 37], [17, 18, 19, 20, 21, 22, 23, 24, 25, 26, 27, 28, 29, 30, 31, 32, 33, 34, 35, 36, 37], [18, 19, 20, 21, 22, 23, 24, 25, 26, 27, 28, 29, 30, 31, 32, 33, 34, 35, 36, 37], [19, 20, 21, 22, 23, 24, 25, 26, 27, 28, 29, 30, 31, 32, 33, 34, 35, 36, 37], [20, 21, 24, 25, 26, 27, 28, 29, 30, 31, 32, 33, 34, 35, 36, 37], [21, 24, 25, 26, 27, 28, 29, 30, 31, 32, 33, 34, 35, 36, 37], [24, 25, 26, 27, 28, 29, 30, 31, 32, 33, 34, 35, 36, 37], [23, 24, 25, 26, 27, 28, 29, 30, 31, 32, 33, 34, 35, 36, 37], [24, 25, 26, 27, 28, 29, 30, 31, 32, 33, 34, 35, 36, 37], [25, 26, 27, 28, 29, 30, 31, 32, 33, 34, 35, 36, 37], [26, 27, 28, 29, 30, 31, 32, 33, 34, 35, 36, 37], [27, 28, 29, 30, 31, 32, 33, 34, 35, 36, 37], [28, 29, 31, 32, 33, 34, 35, 36, 37], [29, 31, 32, 33, 34, 35, 36, 37], [31, 32, 33, 34, 35, 36, 37], [31, 32, 33, 34, 35, 36, 37], [32, 33, 34, 35, 36, 37], [33, 34, 35, 36, 37], [34, 35, 36, 37], [35, 36, 37], [36, 37], [37], []] (by kernel_rfl) rfl ?_
      refine ta 0 rfl (rd_move rfl) ?_
      refine tr 1 ?_
      refine rc (hs := refKind_spec _ ph) (k := ?_)
      rintro ⟨⟩ -
      rw [hkk]
      try simp only [List.cons_append, List.nil_append]
      refine nx ?_
      refine any_next (by apply bd 0; exact .nil) ?_
      first | refine ta 2 rfl ((rd_eq rfl rfl).eq (congrArg Value.bool (decide_eq_true (by omega)))) ?_ | refine ta 2 rfl ((rd_eq rfl rfl).eq (congrArg Value.bool (decide_eq_false (by omega)))) ?_
      refine ta 3 rfl (rd_move rfl) ?_
      first | refine ts 4 ?_ | refine ta 4 rfl (rd_fa rfl fld30_0) ?_
      first | refine ts 5 ?_ | refine ta 5 rfl (rd_ld rfl row3) ?_
      first | refine ts 6 ?_ | refine ta 6 rfl ((rd_lt rfl rfl).eq (congrArg Value.bool (decide_eq_true (by omega)))) ?_ | refine ta 6 rfl ((rd_lt rfl rfl).eq (congrArg Value.bool (decide_eq_false (by omega)))) ?_
      refine ta 7 rfl (rd_pick rfl rfl) ?_
      refine ta 8 rfl (rd_move rfl) ?_
      first | refine ts 9 ?_ | refine ta 9 rfl (rd_fa rfl fld30_0) ?_
      first | refine ts 10 ?_ | refine ta 10 rfl (rd_ld rfl row3) ?_
      first | refine ts 11 ?_ | refine ta 11 rfl (rd_move rfl) ?_
      first | refine ts 12 ?_ | refine ta 12 rfl (rd_nilCheck rfl) ?_
      first | refine ts 13 ?_ | refine ta 13 rfl (rd_fa rfl fld164_2) ?_
      first | refine ts 14 ?_ | refine ta 14 rfl (rd_ld rfl row88) ?_
      first | refine ts 15 ?_ | refine ta 15 rfl (rd_len Try.underlying88 rfl) ?_
      first | refine ts 16 ?_ | refine ta 16 rfl ((rd_gt rfl rfl).eq (congrArg Value.bool (decide_eq_true (by omega)))) ?_ | refine ta 16 rfl ((rd_gt rfl rfl).eq (congrArg Value.bool (decide_eq_false (by omega)))) ?_
      refine ta 17 rfl (rd_pick rfl rfl) ?_
      refine ta 18 rfl (rd_move rfl) ?_
      first | refine ts 19 ?_ | refine ta 19 rfl (rd_fa rfl fld30_1) ?_
      first | refine ts 20 ?_ | refine ta 20 rfl (rd_fa rfl fld28_0) ?_
      first | refine ts 21 ?_ | refine ta 21 rfl (rd_ld rfl row3) ?_
      first | refine ts 22 ?_ | refine ta 22 rfl (rd_move rfl) ?_
      refine tr 23 ?_
      first
        | refine sk ?_
        | (refine rc (hs := refKind_spec _ ph) (k := ?_)
           rintro ⟨⟩ -
           rw [hkk]
           try simp only [List.cons_append, List.nil_append])
      refine nx ?_
      refine any_next (by (try (apply bd 22)); (try (apply bk 21 rfl (rd_ld rfl row3))); (try (apply bk 20 rfl (rd_fa rfl fld28_0))); (try (apply bk 19 rfl (rd_fa rfl fld30_1))); apply bd 18; apply bd 17; (try (apply bd 16)); (try (apply bd 15)); (try (apply bd 14)); (try (apply bd 13)); (try (apply bd 12)); (try (apply bd 11)); (try (apply bd 10)); (try (apply bd 9)); apply bd 8; apply bd 7; (try (apply bd 6)); (try (apply bd 5)); (try (apply bd 4)); apply bd 3; apply bd 2; exact .nil) ?_
      first | refine ts 24 ?_ | refine ta 24 rfl ((rd_ne rfl rfl).eq (congrArg Value.bool (decide_eq_true (by omega)))) ?_ | refine ta 24 rfl ((rd_ne rfl rfl).eq (congrArg Value.bool (decide_eq_false (by omega)))) ?_
      refine ta 25 rfl (rd_pick rfl rfl) ?_
      refine ta 26 rfl (rd_move rfl) ?_
      first | refine ts 27 ?_ | refine ta 27 rfl (rd_fa rfl fld30_1) ?_
      first | refine ts 28 ?_ | refine ta 28 rfl (rd_fa rfl fld28_7) ?_
      first | refine ts 29 ?_ | refine ta 29 rfl (rd_ld rfl row2) ?_
      first | refine ts 30 ?_ | refine ta 30 rfl (rd_move rfl) ?_
      first | refine ts 31 ?_ | refine ta 31 rfl ((rd_ne rfl rfl).eq (congrArg Value.bool (decide_eq_true (by omega)))) ?_ | refine ta 31 rfl ((rd_ne rfl rfl).eq (congrArg Value.bool (decide_eq_false (by omega)))) ?_
      refine ta 32 rfl (rd_pick rfl rfl) ?_
      refine ta 33 rfl (rd_move rfl) ?_
      first | refine ts 34 ?_ | refine ta 34 rfl (rd_fa rfl fld35_0) ?_
      first | refine ts 35 ?_ | refine ta 35 rfl (rd_ld rfl row25) ?_
      first | refine ts 36 ?_ | refine ta 36 rfl ((rd_ne rfl rfl).eq (congrArg Value.bool (decide_eq_true (by omega)))) ?_ | refine ta 36 rfl ((rd_ne rfl rfl).eq (congrArg Value.bool (decide_eq_false (by omega)))) ?_
      refine ta 37 rfl (rd_pick rfl rfl) ?_
      refine any_nil (by kernel_rfl) ?_
      refine St.then_n ?_
      exact St.sb (St.kq [(0, _), (1, _), (2, _), (8, _), (9, _), (10, _), (54, _)] (h := hK _ (by first | exact (hbad.2 (by omega)).symm | exact (Bool.eq_false_iff.2 (fun hh => absurd (hbad.1 hh) (by omega))).symm)))
    · refine do_draw [[1, 2, 3, 4, 5, 6, 7, 8, 9, 10, 11, 12, 13, 14, 15, 16, 17, 18, 19, 20, 21, 22, 23, 24, 25, 26, 27, 28, 29, 30, 31, 32, 33, 34, 35, 36, 37], [2, 3, 4, 5, 6, 7, 8, 9, 10, 11, 12, 13, 14, 15, 16, 17, 18, 19, 20, 21, 22, 23, 24, 25, 26, 27, 28, 29, 30, 31, 32, 33, 34, 35, 36, 37], [3, 4, 5, 6, 7, 8, 9, 10, 11, 12, 13, 14, 15, 16, 17, 18, 19, 20, 21, 22, 23, 24, 25, 26, 27, 28, 29, 30, 31, 32, 33, 34, 35, 36, 37], [4, 5, 6, 7, 8, 9, 10, 11, 12, 13, 14, 15, 16, 17, 18, 19, 20, 21, 22, 23, 24, 25, 26, 27, 28, 29, 30, 31, 32, 33, 34, 35, 36, 37], [5, 6, 7, 8, 9, 10, 11, 12, 13, 14, 15, 16, 17, 18, 19, 20, 21, 22, 23, 24, 25, 26, 27, 28, 29, 30, 31, 32, 33, 34, 35, 36, 37], [6, 7, 8, 9, 10, 11, 12, 13, 14, 15, 16, 17, 18, 19, 20, 21, 22, 23, 24, 25, 26, 27, 28, 29, 30, 31, 32, 33, 34, 35, 36, 37], [7, 8, 9, 10, 11, 12, 13, 14, 15, 16, 17, 18, 19, 20, 21, 22, 23, 24, 25, 26, 27, 28, 29, 30, 31, 32, 33, 34, 35, 36, 37], [8, 9, 10, 11, 12, 13, 14, 15, 16, 17, 18, 19, 20, 21, 22, 23, 24, 25, 26, 27, 28, 29, 30, 31, 32, 33, 34, 35, 36, 37], [9, 10, 11, 12, 13, 14, 15, 16, 17, 18, 19, 20, 21, 22, 23, 24, 25, 26, 27, 28, 29, 30, 31, 32, 33, 34, 35, 36, 37], [10, 16, 17, 18, 19, 20, 21, 22, 23, 24, 25, 26, 27, 28, 29, 30, 31, 32, 33, 34, 35, 36, 37], [16, 17, 18, 19, 20, 21, 22, 23, 24, 25, 26, 27, 28, 29, 30, 31, 32, 33, 34, 35, 36, 37], [12, 13, 14, 15, 16, 17, 18, 19, 20, 21, 22, 23, 24, 25, 26, 27, 28, 29, 30, 31, 32, 33, 34, 35, 36, 37], [13, 14, 15, 16, 17, 18, 19, 20, 21, 22, 23, 24, 25, 26, 27, 28, 29, 30, 31, 32, 33, 34, 35, 36, 37], [14, 15, 16, 17, 18, 19, 20, 21, 22, 23, 24, 25, 26, 27, 28, 29, 30, 31, 32, 33, 34, 35, 36, 37], [15, 16, 17, 18, 19, 20, 21, 22, 23, 24, 25, 26, 27, 28, 29, 30, 31, 32, 33, 34, 35, 36, 37], [16, 17, 18, 19, 20, 21, 22, 23, 24, 25, 26, 27, 28, 29, 30, 31, 32, 33, 34, 35, 36, 37], [17, 18, 19, 20, 21, 22, 23, 24, 25, 26, 27, 28, 29, 30, 31, 32, 33, 34, 35, 36, 37], [18, 19, 20, 21, 22, 23, 24, 25, 26, 27, 28, 29, 30, 31, 32, 33, 34, 35, 36, 37], [19, 20, 21, 22, 23, 24, 25, 26, 27, 28, 29, 30, 31, 32, 33, 34, 35, 36, 37], [20, 21, 24, 25, 26, 27, 28, 29, 30, 31, 32, 33, 34, 35, 36, 37], [21, 24, 25, 26, 27, 28, 29, 30, 31, 32, 33, 34, 35, 36, 37], [24, 25, 26, 27, 28, 29, 30, 31, 32, 33, 34, 35, 36, 37], [23, 24, 25, 26, 27, 28, 29, 30, 31, 32, 33, 34, 35, 36, 37], [24, 25, 26, 27, 28, 29, 30, 31, 32, 33, 34, 35, 36, 37], [25, 26, 27, 28, 29, 30, 31, 32, 33, 34, 35, 36, 37], [26, 27, 28, 29, 30, 31, 32, 33, 34, 35, 36, 37], [27, 28, 29, 30, 31, 32, 33, 34, 35, 36, 37], [28, 29, 31, 32, 33, 34, 35, 36, 37], [29, 31, 32, 33, 34, 35, 36, 37], [31, 32, 33, 34, 35, 36, 37], [31, 32, 33, 34, 35, 36, 37], [32, 33, 34, 35, 36, 37], [33, 34, 35, 36, 37], [34, 35, 36, 37], [35, 36, 37], [36, 37], [37], []] (by kernel_rfl) rfl ?_
      refine ta 0 rfl (rd_move rfl) ?_
      refine tr 1 ?_
      refine rc (hs := refKind_spec _ ph) (k := ?_)
      rintro ⟨⟩ -
      rw [hkk]
      try simp only [List.cons_append, List.nil_append]
      refine nx ?_
      refine any_next (by apply bd 0; exact .nil) ?_
      first | refine ta 2 rfl ((rd_eq rfl rfl).eq (congrArg Value.bool (decide_eq_true (by omega)))) ?_ | refine ta 2 rfl ((rd_eq rfl rfl).eq (congrArg Value.bool (decide_eq_false (by omega)))) ?_
      refine ta 3 rfl (rd_move rfl) ?_
      first | refine ts 4 ?_ | refine ta 4 rfl (rd_fa rfl fld30_0) ?_
      first | refine ts 5 ?_ | refine ta 5 rfl (rd_ld rfl row3) ?_
      first | refine ts 6 ?_ | refine ta 6 rfl ((rd_lt rfl rfl).eq (congrArg Value.bool (decide_eq_true (by omega)))) ?_ | refine ta 6 rfl ((rd_lt rfl rfl).eq (congrArg Value.bool (decide_eq_false (by omega)))) ?_
      refine ta 7 rfl (rd_pick rfl rfl) ?_
      refine ta 8 rfl (rd_move rfl) ?_
      first | refine ts 9 ?_ | refine ta 9 rfl (rd_fa rfl fld30_0) ?_
      first | refine ts 10 ?_ | refine ta 10 rfl (rd_ld rfl row3) ?_
      first | refine ts 11 ?_ | refine ta 11 rfl (rd_move rfl) ?_
      first | refine ts 12 ?_ | refine ta 12 rfl (rd_nilCheck rfl) ?_
      first | refine ts 13 ?_ | refine ta 13 rfl (rd_fa rfl fld164_2) ?_
      first | refine ts 14 ?_ | refine ta 14 rfl (rd_ld rfl row88) ?_
      first | refine ts 15 ?_ | refine ta 15 rfl (rd_len Try.underlying88 rfl) ?_
      first | refine ts 16 ?_ | refine ta 16 rfl ((rd_gt rfl rfl).eq (congrArg Value.bool (decide_eq_true (by omega)))) ?_ | refine ta 16 rfl ((rd_gt rfl rfl).eq (congrArg Value.bool (decide_eq_false (by omega)))) ?_
      refine ta 17 rfl (rd_pick rfl rfl) ?_
      refine ta 18 rfl (rd_move rfl) ?_
      first | refine ts 19 ?_ | refine ta 19 rfl (rd_fa rfl fld30_1) ?_
      first | refine ts 20 ?_ | refine ta 20 rfl (rd_fa rfl fld28_0) ?_
      first | refine ts 21 ?_ | refine ta 21 rfl (rd_ld rfl row3) ?_
      first | refine ts 22 ?_ | refine ta 22 rfl (rd_move rfl) ?_
      refine tr 23 ?_
      first
        | refine sk ?_
        | (refine rc (hs := refKind_spec _ ph) (k := ?_)
           rintro ⟨⟩ -
           rw [hkk]
           try simp only [List.cons_append, List.nil_append])
      refine nx ?_
      refine any_next (by (try (apply bd 22)); (try (apply bk 21 rfl (rd_ld rfl row3))); (try (apply bk 20 rfl (rd_fa rfl fld28_0))); (try (apply bk 19 rfl (rd_fa rfl fld30_1))); apply bd 18; apply bd 17; (try (apply bd 16)); (try (apply bd 15)); (try (apply bd 14)); (try (apply bd 13)); (try (apply bd 12)); (try (apply bd 11)); (try (apply bd 10)); (try (apply bd 9)); apply bd 8; apply bd 7; (try (apply bd 6)); (try (apply bd 5)); (try (apply bd 4)); apply bd 3; apply bd 2; exact .nil) ?_
      first | refine ts 24 ?_ | refine ta 24 rfl ((rd_ne rfl rfl).eq (congrArg Value.bool (decide_eq_true (by omega)))) ?_ | refine ta 24 rfl ((rd_ne rfl rfl).eq (congrArg Value.bool (decide_eq_false (by omega)))) ?_
      refine ta 25 rfl (rd_pick rfl rfl) ?_
      refine ta 26 rfl (rd_move rfl) ?_
      first | refine ts 27 ?_ | refine ta 27 rfl (rd_fa rfl fld30_1) ?_
      first | refine ts 28 ?_ | refine ta 28 rfl (rd_fa rfl fld28_7) ?_
      first | refine ts 29 ?_ | refine ta 29 rfl (rd_ld rfl row2) ?_
      first | refine ts 30 ?_ | refine ta 30 rfl (rd_move rfl) ?_
      first | refine ts 31 ?_ | refine ta 31 rfl ((rd_ne rfl rfl).eq (congrArg Value.bool (decide_eq_true (by omega)))) ?_ | refine ta 31 rfl ((rd_ne rfl rfl).eq (congrArg Value.bool (decide_eq_false (by omega)))) ?_
      refine ta 32 rfl (rd_pick rfl rfl) ?_
      refine ta 33 rfl (rd_move rfl) ?_
      first | refine ts 34 ?_ | refine ta 34 rfl (rd_fa rfl fld35_0) ?_
      first | refine ts 35 ?_ | refine ta 35 rfl (rd_ld rfl row25) ?_
      first | refine ts 36 ?_ | refine ta 36 rfl ((rd_ne rfl rfl).eq (congrArg Value.bool (decide_eq_true (by omega)))) ?_ | refine ta 36 rfl ((rd_ne rfl rfl).eq (congrArg Value.bool (decide_eq_false (by omega)))) ?_
      refine ta 37 rfl (rd_pick rfl rfl) ?_
      refine any_nil (by kernel_rfl) ?_
      refine St.then_n ?_
      exact St.sb (St.kq [(0, _), (1, _), (2, _), (8, _), (9, _), (10, _), (54, _)] (h := hK _ (by first | exact (hbad.2 (by omega)).symm | exact (Bool.eq_false_iff.2 (fun hh => absurd (hbad.1 hh) (by omega))).symm)))
  rintro z hz
  rw [hz]
  first | refine do_condp rfl (fun h54 => ?_) (fun h54 => ?_) | refine do_cond rfl (fun h54 => ?_) (fun h54 => ?_)
  · refine sr ?_
    refine rr (rd_bd [_, _, _, _, _] zero82 plc82) ?_
    first | refine r_sa row82 ?_ | refine r_sm row82 ?_
    refine rr (rd_assign rfl) ?_
    refine run_nil ?_
    refine St.kp [(10, _), (11, _)] ?_
    refine St.then_n ?_
    refine do_ret ?_
    refine St.then_r ?_
    refine do_ret2 Try.results57 (res_cell_row (vs := [_, _, _, _, _]) rfl row82 rfl (cells_pts (by repeat (first | with_reducible exact Sel.head | apply Sel.tail)) rfl)) (res_tmp rfl) ?_
    intro w hw
    exact ⟨(none, 0), trivial, by rw [hT _ h54], by rw [hT _ h54]; exact Holds.sb (Holds.ra_shut ⟨sn, sp, sa, L⟩ g1 g2 N hw)⟩
  · have hb2 : ¬ (kk = 0 ∨ xg < 1 ∨ (L.length : Int) < xg ∨ kind ≠ kk ∨ epoch ≠ n ∨ ywhy ≠ 0) := fun hh => by have := hbad.2 hh; rw [h54] at this; cases this
    have hph12 : ph = 1 ∨ ph = 2 := by
      have : kk ≠ 0 := fun h => hb2 (.inl h)
      rw [← hkk] at this
      unfold kindP at this
      split at this
      · exact .inl ‹_›
      · split at this
        · exact .inr ‹_›
        · exact absurd rfl this
    obtain ⟨i, hi⟩ : ∃ i : Nat, (xg - 1).toNat = i := ⟨_, rfl⟩
    have hx := List.getElem?_eq_getElem (l := L) (i := i) (by omega)
    generalize L[i]'_ = o at hx
    have hgd : L.getD i one0 = o := by rw [List.getD_eq_getElem?_getD, hx]; rfl
    obtain ⟨ois, oA, oc, orows⟩ := o
    refine do_skip ?_
    refine St.then_n ?_
    refine do_seq ?_
    refine do_draw [[1, 2, 3, 7, 8], [2, 3, 7, 8], [3, 7, 8], [7, 8], [5, 6, 7, 8], [6, 7, 8], [7, 8], [8], []] (by kernel_rfl) rfl ?_
    refine ta 0 rfl (rd_move rfl) ?_
    refine ta 1 rfl (rd_nilCheck rfl) ?_
    refine ta 2 rfl (rd_fa rfl fld164_2) ?_
    refine ta 3 rfl (rd_ld rfl row88) ?_
    refine ta 4 rfl (rd_fa rfl fld30_0) ?_
    refine ta 5 rfl (rd_ld rfl row3) ?_
    refine ta 6 rfl ((rd_subi rfl rfl).eq (ei (k := i) (by omega))) ?_
    refine ta 7 rfl ((rd_indexAddr Try.underlying88 ei4 rfl rfl (by omega) (by omega)).eq (show _ = Value.pointer (some ⟨g1, 0 + i * 1 + 0, none⟩) from rfl)) ?_
    refine tr 8 ?_
    refine r_stQ1 (n := N) isC_len (z := ⟨ois, oA, oc, orows⟩) (z' := ⟨true, oA, oc, orows⟩) i 0 hx (by decide) rfl row4 rfl ?_
    refine nx ?_
    refine any_next (by apply bd 7; apply bd 6; apply bd 5; apply bd 4; apply bd 3; apply bd 2; apply bd 1; apply bd 0; exact .nil) ?_
    refine any_nil (by kernel_rfl) ?_
    refine St.kp [(0, _), (1, _), (2, _), (8, _), (9, _), (10, _)] ?_
    refine St.then_n ?_
    refine do_seq ?_
    refine sr ?_
    refine rr (rd_move rfl) ?_
    refine rr (rd_eq rfl rfl) ?_
    refine nx ?_
    first | refine do_condp rfl (fun h65 => ?_) (fun h65 => ?_) | refine do_cond rfl (fun h65 => ?_) (fun h65 => ?_)
    · refine sr ?_
      refine rr (rd_assign rfl) ?_
      refine nx ?_
      refine sr ?_
      refine rr (rd_move rfl) ?_
      refine rr (rd_fa rfl fld35_2) ?_
      refine rr (rd_fa rfl fld33_2) ?_
      refine rr (rd_ld rfl row31) ?_
      refine St.nilQ (f := rowC) (T := 108) (k := 2) ?_
      refine r_apQ (f := rowC) (L := []) (n := 0) (M := prows) rowC_len rowC_one Try.underlying31 ei108 (X := F) hR2 rfl (by omega) (by omega) (by omega) (fun v1 _ => ?_)
      rw [List.nil_append, Nat.zero_add]
      refine St.Q_sl fun A1 c1 hv1 _ _ _ => ?_
      subst hv1
      refine rr (rd_assign rfl) ?_
      refine run_nil ?_
      refine St.kp [(0, _), (1, _), (2, _), (8, _), (10, _), (12, _)] ?_
      refine St.then_n ?_
      refine do_draw [[1, 2, 3, 8, 9], [2, 3, 8, 9], [3, 8, 9], [8, 9], [5, 6, 8, 9], [6, 8, 9], [8, 9], [8, 9], [9], []] (by kernel_rfl) rfl ?_
      refine ta 0 rfl (rd_move rfl) ?_
      refine ta 1 rfl (rd_nilCheck rfl) ?_
      refine ta 2 rfl (rd_fa rfl fld164_4) ?_
      refine ta 3 rfl (rd_ld rfl row127) ?_
      refine ta 4 rfl (rd_fa rfl fld30_0) ?_
      refine ta 5 rfl (rd_ld rfl row3) ?_
      refine ta 6 rfl ((rd_subi rfl rfl).eq (ei (k := i) (by omega))) ?_
      refine ta 7 rfl (rd_move rfl) ?_
      refine ta 8 rfl ((rd_indexAddr Try.underlying127 ei31 rfl rfl (by omega) (by omega)).eq (show _ = Value.pointer (some ⟨g2, 0 + i * 1 + 0, none⟩) from rfl)) ?_
      refine tr 9 ?_
      refine r_stQ1 (n := N) (L := L) slC_len (z := ⟨ois, oA, oc, orows⟩) (z' := ⟨true, A1, c1, prows⟩) i 0 hx (by decide) rfl row31 rfl ?_
      refine St.rowsAll_set (L := L) (i := i) ⟨true, A1, c1, prows⟩ (by omega) ?_
      rw [ownQ_eq (f := isC) (f' := isC) (L := L.set i ⟨true, oA, oc, orows⟩) (L' := L.set i ⟨true, A1, c1, prows⟩) (by simp) (flat_set2 (f := isC) (a := (⟨true, oA, oc, orows⟩ : One)) (b := (⟨true, A1, c1, prows⟩ : One)) rfl L i)]
      obtain ⟨q, hq⟩ : ∃ q : Option Addr × Nat, q = (A1, c1) := ⟨_, rfl⟩
      obtain ⟨L2, hL2⟩ : ∃ L2, L.set i ⟨true, A1, c1, prows⟩ = L2 := ⟨_, rfl⟩
      have hTS := hF q h54
      rw [hi, hgd, show toldOne ⟨ois, oA, oc, orows⟩ ph prows q = ⟨true, A1, c1, prows⟩ by unfold toldOne; rw [if_pos (by omega), hq]] at hTS
      have hl2 : L2.length ≤ 3 := by rw [← hL2, List.length_set]; exact hL3
      rw [hL2] at hTS ⊢
      refine St.ra_shut ⟨sn, sp, sa, L2⟩ g1 g2 N ?_
      refine nx ?_
      refine any_next (by apply bd 8; apply bd 7; apply bd 6; apply bd 5; apply bd 4; apply bd 3; apply bd 2; apply bd 1; apply bd 0; exact .nil) ?_
      refine any_nil (by kernel_rfl) ?_
      refine St.kp [(0, _), (1, _), (2, _), (10, _)] ?_
      refine St.then_n ?_
      refine do_seq ?_
      refine sr ?_
      refine rr (rd_move rfl) ?_
      refine rc (hs := refLeft_spec _ r ⟨sn, sp, sa, L2⟩ hl2) (k := ?_)
      rintro ⟨⟩ -
      try simp only [List.cons_append, List.nil_append]
      refine rr (rd_gt rfl rfl) ?_
      refine nx ?_
      first | refine do_condp rfl (fun h82 => ?_) (fun h82 => ?_) | refine do_cond rfl (fun h82 => ?_) (fun h82 => ?_)
      · rw [if_pos (by omega)] at hTS
        refine sr ?_
        refine rr (rd_bd [_, _, _, _, _] zero82 plc82) ?_
        first | refine r_sa row82 ?_ | refine r_sm row82 ?_
        refine rr (rd_assign rfl) ?_
        refine run_nil ?_
        refine St.kp [(10, _), (11, _)] ?_
        refine St.then_n ?_
        refine do_ret ?_
        refine St.then_r ?_
        refine do_ret2 Try.results57 (res_cell_row (vs := [_, _, _, _, _]) rfl row82 rfl (cells_pts (by repeat (first | with_reducible exact Sel.head | apply Sel.tail)) rfl)) (res_tmp rfl) ?_
        intro w hw
        exact ⟨q, trivial, by rw [hTS], by rw [hTS]; exact hw.sb⟩
      · rw [if_neg (by omega)] at hTS
        try simp only [List.cons_append, List.nil_append]
        refine St.ra_open fun g3 g4 N2 hN2 => ?_
        dsimp only at hN2 ⊢
        simp only [raG, List.cons_append, List.nil_append]
        refine do_skip ?_
        refine St.then_n ?_
        refine do_seq ?_
        refine sr ?_
        refine rr (rd_move rfl) ?_
        refine rr (rd_eq rfl rfl) ?_
        refine run_nil ?_
        refine St.kp [(0, _), (1, _), (2, _), (10, _), (85, _)] ?_
        refine St.then_n ?_
        first | refine do_condp rfl (fun h85 => ?_) (fun h85 => ?_) | refine do_cond rfl (fun h85 => ?_) (fun h85 => ?_)
        · refine do_region ?_
          refine rr (rd_move rfl) ?_
          refine rr (rd_nilCheck rfl) ?_
          refine rr (rd_fa rfl fld164_3) ?_
          refine r_st row4 ?_
          refine run_nil ?_
          refine St.kp [(1, _), (2, _), (10, _)] ?_
          refine St.then_n ?_
          refine sr ?_
          refine rr (rd_move rfl) ?_
          refine rr ((rd_addi rfl rfl).eq (show _ = Value.int .i64 (if ph = 1 then 4 else 5) by split <;> congr 1 <;> omega)) ?_
          refine rr (rd_move rfl) ?_
          refine rr (rd_bd [_, _, _, _, _] zero82 plc82) ?_
          first | refine r_sa row82 ?_ | refine r_sm row82 ?_
          refine rr (rd_assign rfl) ?_
          refine run_nil ?_
          refine St.kp [(10, _), (11, _)] ?_
          refine St.then_n ?_
          refine do_ret ?_
          refine do_ret2 Try.results57 (res_cell_row (vs := [_, _, _, _, _]) rfl row82 rfl (cells_pts (by repeat (first | with_reducible exact Sel.head | apply Sel.tail)) rfl)) (res_tmp rfl) ?_
          intro w hw
          exact ⟨q, trivial, by rw [hTS], by rw [hTS]; first | (exfalso; omega) | (rw [decide_eq_true (show ph = 1 by omega), Bool.or_true]; exact Holds.sb (Holds.ra_shut ⟨sn, sp, true, L2⟩ g3 g4 N2 hw)) | (rw [decide_eq_false (show ¬ ph = 1 by omega), Bool.or_false]; exact Holds.sb (Holds.ra_shut ⟨sn, sp, sa, L2⟩ g3 g4 N2 hw))⟩
        · refine do_skip ?_
          refine St.then_n ?_
          refine sr ?_
          refine rr (rd_move rfl) ?_
          refine rr ((rd_addi rfl rfl).eq (show _ = Value.int .i64 (if ph = 1 then 4 else 5) by split <;> congr 1 <;> omega)) ?_
          refine rr (rd_move rfl) ?_
          refine rr (rd_bd [_, _, _, _, _] zero82 plc82) ?_
          first | refine r_sa row82 ?_ | refine r_sm row82 ?_
          refine rr (rd_assign rfl) ?_
          refine run_nil ?_
          refine St.kp [(10, _), (11, _)] ?_
          refine St.then_n ?_
          refine do_ret ?_
          refine do_ret2 Try.results57 (res_cell_row (vs := [_, _, _, _, _]) rfl row82 rfl (cells_pts (by repeat (first | with_reducible exact Sel.head | apply Sel.tail)) rfl)) (res_tmp rfl) ?_
          intro w hw
          exact ⟨q, trivial, by rw [hTS], by rw [hTS]; first | (exfalso; omega) | (rw [decide_eq_true (show ph = 1 by omega), Bool.or_true]; exact Holds.sb (Holds.ra_shut ⟨sn, sp, true, L2⟩ g3 g4 N2 hw)) | (rw [decide_eq_false (show ¬ ph = 1 by omega), Bool.or_false]; exact Holds.sb (Holds.ra_shut ⟨sn, sp, sa, L2⟩ g3 g4 N2 hw))⟩
    · rw [← rowsAll_is true hx]
      rw [ownQ_eq (f := slC) (f' := slC) (L := L) (L' := L.set i ⟨true, oA, oc, orows⟩) (by simp) (flat_set0 (f := slC) (a := (⟨true, oA, oc, orows⟩ : One)) (x := (⟨ois, oA, oc, orows⟩ : One)) rfl hx).symm]
      dsimp only
      obtain ⟨q, hq⟩ : ∃ q : Option Addr × Nat, q = (none, 0) := ⟨_, rfl⟩
      obtain ⟨L2, hL2⟩ : ∃ L2, L.set i ⟨true, oA, oc, orows⟩ = L2 := ⟨_, rfl⟩
      have hTS := hF q h54
      rw [hi, hgd, show toldOne ⟨ois, oA, oc, orows⟩ ph prows q = ⟨true, oA, oc, orows⟩ by unfold toldOne; rw [if_neg (by omega)]] at hTS
      have hl2 : L2.length ≤ 3 := by rw [← hL2, List.length_set]; exact hL3
      rw [hL2] at hTS ⊢
      refine St.ra_shut ⟨sn, sp, sa, L2⟩ g1 g2 N ?_
      refine do_skip ?_
      refine St.then_n ?_
      refine do_seq ?_
      refine sr ?_
      refine rr (rd_move rfl) ?_
      refine rc (hs := refLeft_spec _ r ⟨sn, sp, sa, L2⟩ hl2) (k := ?_)
      rintro ⟨⟩ -
      try simp only [List.cons_append, List.nil_append]
      refine rr (rd_gt rfl rfl) ?_
      refine run_nil ?_
      refine St.kp [(0, _), (1, _), (2, _), (10, _), (82, _)] ?_
      refine St.then_n ?_
      first | refine do_condp rfl (fun h82 => ?_) (fun h82 => ?_) | refine do_cond rfl (fun h82 => ?_) (fun h82 => ?_)
      · rw [if_pos (by omega)] at hTS
        refine sr ?_
        refine rr (rd_bd [_, _, _, _, _] zero82 plc82) ?_
        first | refine r_sa row82 ?_ | refine r_sm row82 ?_
        refine rr (rd_assign rfl) ?_
        refine run_nil ?_
        refine St.kp [(10, _), (11, _)] ?_
        refine St.then_n ?_
        refine do_ret ?_
        refine St.then_r ?_
        refine do_ret2 Try.results57 (res_cell_row (vs := [_, _, _, _, _]) rfl row82 rfl (cells_pts (by repeat (first | with_reducible exact Sel.head | apply Sel.tail)) rfl)) (res_tmp rfl) ?_
        intro w hw
        exact ⟨q, trivial, by rw [hTS], by rw [hTS]; exact hw.sb⟩
      · rw [if_neg (by omega)] at hTS
        try simp only [List.cons_append, List.nil_append]
        refine St.ra_open fun g3 g4 N2 hN2 => ?_
        dsimp only at hN2 ⊢
        simp only [raG, List.cons_append, List.nil_append]
        refine do_skip ?_
        refine St.then_n ?_
        refine do_seq ?_
        refine sr ?_
        refine rr (rd_move rfl) ?_
        refine rr (rd_eq rfl rfl) ?_
        refine nx ?_
        first | refine do_condp rfl (fun h85 => ?_) (fun h85 => ?_) | refine do_cond rfl (fun h85 => ?_) (fun h85 => ?_)
        · refine do_region ?_
          refine rr (rd_move rfl) ?_
          refine rr (rd_nilCheck rfl) ?_
          refine rr (rd_fa rfl fld164_3) ?_
          refine r_st row4 ?_
          refine run_nil ?_
          refine St.kp [(1, _), (2, _), (10, _)] ?_
          refine St.then_n ?_
          refine sr ?_
          refine rr (rd_move rfl) ?_
          refine rr ((rd_addi rfl rfl).eq (show _ = Value.int .i64 (if ph = 1 then 4 else 5) by split <;> congr 1 <;> omega)) ?_
          refine rr (rd_move rfl) ?_
          refine rr (rd_bd [_, _, _, _, _] zero82 plc82) ?_
          first | refine r_sa row82 ?_ | refine r_sm row82 ?_
          refine rr (rd_assign rfl) ?_
          refine run_nil ?_
          refine St.kp [(10, _), (11, _)] ?_
          refine St.then_n ?_
          refine do_ret ?_
          refine do_ret2 Try.results57 (res_cell_row (vs := [_, _, _, _, _]) rfl row82 rfl (cells_pts (by repeat (first | with_reducible exact Sel.head | apply Sel.tail)) rfl)) (res_tmp rfl) ?_
          intro w hw
          exact ⟨q, trivial, by rw [hTS], by rw [hTS]; first | (exfalso; omega) | (rw [decide_eq_true (show ph = 1 by omega), Bool.or_true]; exact Holds.sb (Holds.ra_shut ⟨sn, sp, true, L2⟩ g3 g4 N2 hw)) | (rw [decide_eq_false (show ¬ ph = 1 by omega), Bool.or_false]; exact Holds.sb (Holds.ra_shut ⟨sn, sp, sa, L2⟩ g3 g4 N2 hw))⟩
        · refine do_skip ?_
          refine St.then_n ?_
          refine sr ?_
          refine rr (rd_move rfl) ?_
          refine rr ((rd_addi rfl rfl).eq (show _ = Value.int .i64 (if ph = 1 then 4 else 5) by split <;> congr 1 <;> omega)) ?_
          refine rr (rd_move rfl) ?_
          refine rr (rd_bd [_, _, _, _, _] zero82 plc82) ?_
          first | refine r_sa row82 ?_ | refine r_sm row82 ?_
          refine rr (rd_assign rfl) ?_
          refine run_nil ?_
          refine St.kp [(10, _), (11, _)] ?_
          refine St.then_n ?_
          refine do_ret ?_
          refine do_ret2 Try.results57 (res_cell_row (vs := [_, _, _, _, _]) rfl row82 rfl (cells_pts (by repeat (first | with_reducible exact Sel.head | apply Sel.tail)) rfl)) (res_tmp rfl) ?_
          intro w hw
          exact ⟨q, trivial, by rw [hTS], by rw [hTS]; first | (exfalso; omega) | (rw [decide_eq_true (show ph = 1 by omega), Bool.or_true]; exact Holds.sb (Holds.ra_shut ⟨sn, sp, true, L2⟩ g3 g4 N2 hw)) | (rw [decide_eq_false (show ¬ ph = 1 by omega), Bool.or_false]; exact Holds.sb (Holds.ra_shut ⟨sn, sp, sa, L2⟩ g3 g4 N2 hw))⟩
end Go.Proofs.Ytglcmlicfmmlpaa
