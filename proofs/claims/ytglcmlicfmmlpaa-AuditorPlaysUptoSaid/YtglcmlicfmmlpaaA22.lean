/-
  The law AuditorPlays.
-/
import Derived.Test.YtglcmlicfmmlpaaA21
namespace Go.Proofs.Ytglcmlicfmmlpaa
open Go.RowKit
set_option linter.unusedSimpArgs false
set_option linter.unusedVariables false

abbrev rowsN (o : AOp) : Nat := o.r.reply.rows.length
def sumR (l : List AOp) (i : Nat) : Nat := ((l.take i).map rowsN).sum
theorem sumR_step {l : List AOp} {i : Nat} {o : AOp} (h : l[i]? = some o) : sumR l (i + 1) = sumR l i + rowsN o := by
  unfold sumR
  rw [take_get h, List.map_append, List.sum_append]; simp
theorem sumR_le (l : List AOp) {i j : Nat} (h : i ≤ j) : sumR l i ≤ sumR l j := by
  unfold sumR
  have e : l.take j = (l.take j).take i ++ (l.take j).drop i := (List.take_append_drop i _).symm
  rw [List.take_take, Nat.min_eq_left h] at e
  rw [e, List.map_append, List.sum_append]; omega
theorem aop_len (x : AOp) : (AOp.L x).length = 28 := rfl
def AskP (L : List GAsk) : Prop := L.length ≤ 3 ∧ ∀ x ∈ L, ∃ g k n, x = askC g k n
theorem told_as (s : AuS) (n ph : Int) (x : GAsk) (A : Option Addr) (c : Nat) (why : Int) (rows : List GRow) (q : Option Addr × Nat) : toldS s n ph ⟨x.group, { x.cmd with A := A, c := c }⟩ why rows q = toldS s n ph x why rows q := rfl
def setAm (m : Int) (x : GRow) : GRow := { x with amount := m }
set_option maxRecDepth 8000 in
set_option maxHeartbeats 8000000 in
theorem auditorPlays_law (k : Int) (l : List AOp) (v : Value) (w : World) (U : Nat → Prop) (hv : Sl w U 28 v l.length (l.flatMap AOp.L))
    (hB : ∀ o ∈ l, Bs w U o.a.cmd.v o.a.cmd.data ∧ o.a.cmd.data.length ≤ 140737488355328 ∧ Sl w U 2 o.r.reply.v o.r.reply.rows.length (o.r.reply.rows.flatMap rowC)) (hsm : sumR l 100 ≤ 1099511627776) :
    Calls Try.prog 9 #[.int .i64 k, v] w fun e w' => e = .returned (.bool true) ∧ Fr nowhere w w' := by
  refine enter (vs := [.int .i64 k, v]) Try.func9 rfl Try.ntmps9 rfl (Holds.init w) ?_
  simp only [argsB]
  have vS : Vw (kept w) v 28 l.length (l.flatMap AOp.L) := vw_kept (by decide) hv
  have hO : ∀ o ∈ l, VwB (kept w) o.a.cmd.v o.a.cmd.data ∧ o.a.cmd.data.length ≤ 140737488355328 ∧ VwRows (kept w) o.r.reply := fun o ho => ⟨vw_kept (by decide) (hB o ho).1, (hB o ho).2.1, vw_kept (by decide) (hB o ho).2.2⟩
  clear hv hB
  refine St.vw vS .head (fun A0 c0 hv _ hm0 _ => ?_)
  subst hv
  have hll : l.length ≤ 9223372036854775807 := by simp only [maxLen] at hm0; omega
  have ei : ∀ {i : Int} {k : Nat}, i = k → Value.int .i64 i = .int .i64 (k : Int) := fun h => by rw [h]
  refine sr ?_
  refine rr (rd_assign rfl) ?_
  refine nx ?_
  refine sr ?_
  refine rr (rd_move rfl) ?_
  refine rc (hs := auNew_spec _ k) (k := ?_)
  rintro r -
  obtain ⟨s0, hs0⟩ : ∃ s0 : AuS, (⟨0, 0, false, List.replicate (if k < 1 ∨ 3 < k then 1 else k.toNat) one0⟩ : AuS) = s0 := ⟨_, rfl⟩
  have hs0l : s0.L.length ≤ 3 := by rw [← hs0]; simp only [List.length_replicate]; split <;> omega
  have hs0r : allRows s0.L = [] := by rw [← hs0]; exact rows_zero _
  rw [hs0]
  try simp only [List.cons_append, List.nil_append]
  refine rr (rd_assign rfl) ?_
  refine nx ?_
  refine do_seq ?_
  refine sr ?_
  refine rr (rd_move rfl) ?_
  refine rr ((rd_ptr_eq_nil Try.underlying111 rfl rfl)) ?_
  refine run_nil ?_
  refine St.kp [(0, _), (1, _), (5, _), (27, _)] ?_
  refine St.then_n ?_
  refine do_cond_f rfl ?_
  refine do_skip ?_
  refine St.then_n ?_
  refine sr ?_
  refine rr (rd_move rfl) ?_
  refine rc (hs := refNew_spec _ k) (k := ?_)
  rintro ra2 -
  rw [hs0]
  simp only [List.cons_append, List.nil_append]
  try simp only [List.cons_append, List.nil_append]
  refine rr (rd_assign rfl) ?_
  refine run_nil ?_
  refine St.kp [(1, _), (5, _), (6, _)] ?_
  refine St.then_n ?_
  refine sr ?_
  refine rr (rd_assign rfl) ?_
  refine nx ?_
  refine do_seq ?_
  refine sr ?_
  refine rr (rd_assign rfl) ?_
  refine nx ?_
  refine do_block ?_
  refine St.nilQ (f := GAsk.L) (T := 30) (k := 18) ?_
  refine do_lp (fun y : Nat × AuS × AuS × Value × List GAsk => y.1 ≤ l.length ∧ y.1 ≤ 100 ∧ y.2.1.L.length ≤ 3 ∧ eqv y.2.1 y.2.2.1 ∧ AskP y.2.2.2.2 ∧ (allRows y.2.1.L).length ≤ sumR l y.1) (fun y => [(1, .slice A0 l.length c0), (5, .pointer (some ⟨r, 0, none⟩)), (6, .pointer (some ⟨ra2, 0, none⟩)), (7, y.2.2.2.1), (8, .int .i64 y.1)]) (fun y => [auO r y.2.1, raO ra2 y.2.2.1, ownQ GAsk.L 30 18 y.2.2.2.1 (List.length y.2.2.2.2) y.2.2.2.2, kept w]) (fun y => l.length - y.1) (0, s0, s0, .slice none 0 0, []) ⟨Nat.zero_le _, Nat.zero_le _, hs0l, ⟨rfl, rfl, rfl, rfl⟩, ⟨Nat.zero_le _, fun _ h => by cases h⟩, by dsimp only; rw [hs0r]; exact Nat.zero_le _⟩ ?_ (hΓ := .cons (.tail (.tail .head)) (.cons (.tail .head) (.cons .head (.cons .head .nil))))
  rintro ⟨i, s, t, v7, Lst⟩ ⟨hi, hi100, hs3, hev, hP, hsum⟩
  dsimp only at hi hi100 hs3 hev hP hsum ⊢
  refine St.sl (P := ownQ GAsk.L 30 18 v7 (List.length Lst) Lst) (St.Q_sl fun A7 c7 hv7 _ _ _ => ?_)
  subst hv7
  refine do_seq ?_
  refine do_seq ?_
  refine do_cut (fun z : Bool => z = decide (i < l.length ∧ i < 100)) (fun z => [(1, .slice A0 l.length c0), (5, .pointer (some ⟨r, 0, none⟩)), (6, .pointer (some ⟨ra2, 0, none⟩)), (7, .slice A7 Lst.length c7), (8, .int .i64 i), (37, .bool z)]) (fun _ => [auO r s, raO ra2 t, ownQ GAsk.L 30 18 (.slice A7 Lst.length c7) (List.length Lst) Lst, kept w]) (fun K hK => ?_) ?_
  · by_cases hA : i < l.length
    · refine do_region ?_
      refine rr (rd_move rfl) ?_
      refine rr (rd_move rfl) ?_
      refine rr (rd_len Try.underlying110 rfl) ?_
      first | refine rr ((rd_lt rfl rfl).eq (congrArg Value.bool (decide_eq_true (by omega)))) ?_ | refine rr ((rd_lt rfl rfl).eq (congrArg Value.bool (decide_eq_false (by omega)))) ?_
      refine rr (rd_move rfl) ?_
      first | refine sk ?_ | (refine rr (rd_move rfl) ?_)
      first | refine sk ?_ | (refine rr (rd_lt rfl rfl) ?_)
      refine rr (rd_pick rfl rfl) ?_
      refine run_nil ?_
      refine St.kp [(1, _), (5, _), (6, _), (7, _), (8, _), (35, _), (36, _), (37, _)] ?_
      refine St.then_n ?_
      exact St.sb (St.kq [(1, _), (5, _), (6, _), (7, _), (8, _), (37, _)] (h := hK _ (by first | exact (decide_eq_false (by omega)).symm | exact decide_eq_decide.2 (by omega))))
    · refine do_region ?_
      refine rr (rd_move rfl) ?_
      refine rr (rd_move rfl) ?_
      refine rr (rd_len Try.underlying110 rfl) ?_
      first | refine rr ((rd_lt rfl rfl).eq (congrArg Value.bool (decide_eq_true (by omega)))) ?_ | refine rr ((rd_lt rfl rfl).eq (congrArg Value.bool (decide_eq_false (by omega)))) ?_
      refine rr (rd_move rfl) ?_
      first | refine sk ?_ | (refine rr (rd_move rfl) ?_)
      first | refine sk ?_ | (refine rr (rd_lt rfl rfl) ?_)
      refine rr (rd_pick rfl rfl) ?_
      refine run_nil ?_
      refine St.kp [(1, _), (5, _), (6, _), (7, _), (8, _), (35, _), (36, _), (37, _)] ?_
      refine St.then_n ?_
      exact St.sb (St.kq [(1, _), (5, _), (6, _), (7, _), (8, _), (37, _)] (h := hK _ (by first | exact (decide_eq_false (by omega)).symm | exact decide_eq_decide.2 (by omega))))
  rintro z hz
  first | refine do_condp rfl (fun h37 => ?_) (fun h37 => ?_) | refine do_cond rfl (fun h37 => ?_) (fun h37 => ?_)
  · obtain ⟨hiN, hi1⟩ := of_decide_eq_true (hz.symm.trans h37)
    have ht3 : t.L.length ≤ 3 := by rw [← sim_len hev.2.2.2]; exact hs3
    have hx := List.getElem?_eq_getElem (l := l) (i := i) (by omega)
    have hxm := List.mem_of_getElem? hx
    generalize l[i]'_ = o at hx hxm
    have hstep := sumR_step hx
    have hsle := sumR_le l (show i + 1 ≤ 100 by omega)
    obtain ⟨oV, ol, oR⟩ := hO o hxm
    obtain ⟨okd, on, oph, ⟨xg, ⟨xkind, ⟨xokind, xosrc, xodst, xoamt, xokey, xoslot, xoshard⟩, xid, xname, xnn, xwhy, xslot, xepoch, xat_, xlast, xA, xc, xdata⟩⟩, ⟨ywhy, ywait, ⟨pwhy, pamt, pA, pc, prows⟩, rA, rK, rdata⟩, oat⟩ := o
    simp only [rowsN] at hstep
    dsimp only at oV ol oR hstep
    simp only [GCmd.v] at oV
    have oR2 : Vw (kept w) (.slice pA prows.length pc) 2 prows.length (prows.flatMap rowC) := oR
    refine St.vw_some vS (by repeat (first | with_reducible exact Sel.head | apply Sel.tail)) (by omega) (fun g0 of0 hg _ _ => ?_)
    subst hg
    refine do_skip ?_
    refine St.then_n ?_
    refine do_seq ?_
    refine do_block ?_
    refine sr ?_
    refine rr (rd_move rfl) ?_
    refine rr (rd_move rfl) ?_
    refine rr ((rd_indexAddr Try.underlying110 ei116 rfl rfl (by omega) (by omega)).eq (show _ = Value.pointer (some ⟨g0, of0 + i * 28, none⟩) by simp)) ?_
    refine rr (rd_ldr _ rfl row116 (Vw.cells (vs := [.int .i64 okd, .int .i64 on, .int .i64 oph, .int .i64 xg, .int .i64 xkind, .int .i64 xokind, .string (strOf xosrc), .string (strOf xodst), .int .i64 xoamt, .string (strOf xokey), .int .i64 xoslot, .int .i64 xoshard, .string (strOf xid), .string (strOf xname), .int .i64 xnn, .int .i64 xwhy, .int .i64 xslot, .int .i64 xepoch, .int .i64 xat_, .bool xlast, .slice xA xdata.length xc, .int .i64 ywhy, .bool ywait, .int .i64 pwhy, .int .i64 pamt, .slice pA prows.length pc, .slice rA rdata.length rK, .int .i64 oat]) vS (by repeat (first | with_reducible exact Sel.head | apply Sel.tail)) (by omega) (flat_at (f := AOp.L) (k := 28) aop_len hx))) ?_
    refine r_al zero116 fun b9 => ?_
    first | refine r_sa row116 ?_ | refine r_sm row116 ?_
    refine run_nil ?_
    refine St.kp [(1, _), (5, _), (6, _), (7, _), (8, _), (9, _)] ?_
    refine St.then_n ?_
    refine do_seq ?_
    refine sr ?_
    refine rr (rd_fa rfl fld116_0) ?_
    refine rr (rd_ld rfl row3) ?_
    refine nx ?_
    refine do_block ?_
    refine sr ?_
    refine rr (rd_eq rfl rfl) ?_
    refine rr (rd_assign rfl) ?_
    refine nx ?_
    refine do_cutQ (fun y : AuS × AuS × Value × List GAsk => y.1.L.length ≤ 3 ∧ eqv y.1 y.2.1 ∧ AskP y.2.2.2 ∧ (allRows y.1.L).length ≤ sumR l (i + 1)) (fun y => [(1, .slice (some ⟨g0, of0, none⟩) l.length c0), (5, .pointer (some ⟨r, 0, none⟩)), (6, .pointer (some ⟨ra2, 0, none⟩)), (7, y.2.2.1), (8, .int .i64 i)]) (fun y => [auO r y.1, raO ra2 y.2.1, ownQ GAsk.L 30 18 y.2.2.1 (List.length y.2.2.2) y.2.2.2, kept w]) (fun K hK => ?_) ?_
    · first | refine do_condp rfl (fun h46 => ?_) (fun h46 => ?_) | refine do_cond rfl (fun h46 => ?_) (fun h46 => ?_)
      · have hm1 := True.intro
        refine sr ?_
        refine rr (rd_move rfl) ?_
        refine rr (rd_fa rfl fld116_1) ?_
        refine rr (rd_ld rfl row2) ?_
        refine rr (rd_fa rfl fld116_2) ?_
        refine rr (rd_ld rfl row3) ?_
        refine rc (hs := asks17_spec _ r s on oph hs3) (k := ?_)
        rintro v10 -
        obtain ⟨Qa, hQ⟩ : ∃ Qa, askAll s on oph = Qa := ⟨_, rfl⟩
        have hQ3 : Qa.length ≤ 3 := hQ ▸ askAll_len s on oph hs3
        have hQi : ∀ x ∈ Qa, ∃ g k n, x = askC g k n := fun x hxq => by
          rw [← hQ] at hxq
          obtain ⟨g, hg⟩ := askL_is _ _ _ _ x hxq
          exact ⟨g, _, _, hg⟩
        rw [hQ]
        simp only [List.cons_append, List.nil_append]
        refine St.sl (P := ownQ GAsk.L 49 18 v10 Qa.length Qa) (St.Q_sl fun A10 c10 hv10 _ _ _ => ?_)
        subst hv10
        try simp only [List.cons_append, List.nil_append]
        refine rr (rd_assign rfl) ?_
        refine run_nil ?_
        refine St.kp [(1, _), (5, _), (6, _), (8, _), (9, _), (10, _)] ?_
        refine St.then_n ?_
        refine sr ?_
        refine rr (rd_move rfl) ?_
        refine rr (rd_fa rfl fld116_1) ?_
        refine rr (rd_ld rfl row2) ?_
        refine rr (rd_fa rfl fld116_2) ?_
        refine rr (rd_ld rfl row3) ?_
        refine rc (hs := refAsks_spec _ ra2 t on oph ht3) (k := ?_)
        rintro v59 -
        rw [← eqv_ask hev on oph, hQ]
        simp only [List.cons_append, List.nil_append]
        refine St.sl (P := ownQ GAsk.L 30 18 v59 Qa.length Qa) (St.Q_sl fun A59 c59 hv59 _ _ _ => ?_)
        subst hv59
        try simp only [List.cons_append, List.nil_append]
        refine rr (rd_assign rfl) ?_
        refine run_nil ?_
        refine St.kp [(1, _), (5, _), (6, _), (7, _), (8, _), (10, _)] ?_
        refine St.then_n ?_
        refine do_seq ?_
        refine sr ?_
        refine rr (rd_move rfl) ?_
        refine rr (rd_len Try.underlying41 rfl) ?_
        refine rr (rd_move rfl) ?_
        refine rr (rd_len Try.underlying43 rfl) ?_
        refine rr ((rd_ne rfl rfl).eq (show _ = Value.bool false by simp)) ?_
        refine run_nil ?_
        refine St.kp [(1, _), (5, _), (6, _), (7, _), (8, _), (10, _), (64, _)] ?_
        refine St.then_n ?_
        refine do_cond_f rfl ?_
        refine do_skip ?_
        refine St.then_n ?_
        refine sr ?_
        refine rr (rd_assign rfl) ?_
        refine nx ?_
        refine do_block ?_
        refine do_lp (fun j : Nat => j ≤ Qa.length) (fun j => [(1, .slice (some ⟨g0, of0, none⟩) l.length c0), (5, .pointer (some ⟨r, 0, none⟩)), (6, .pointer (some ⟨ra2, 0, none⟩)), (7, .slice A59 Qa.length c59), (8, .int .i64 i), (10, .slice A10 Qa.length c10), (11, .int .i64 j)]) (fun _ => [ownQ GAsk.L 49 18 (.slice A10 Qa.length c10) Qa.length Qa, auO r (knowS s on oph), raO ra2 (knowS t on oph), ownQ GAsk.L 30 18 (.slice A59 Qa.length c59) Qa.length Qa, kept w]) (fun j => Qa.length - j) 0 (Nat.zero_le _) ?_
        intro j hj
        refine do_seq ?_
        refine sr ?_
        refine rr (rd_move rfl) ?_
        refine rr (rd_move rfl) ?_
        refine rr (rd_len Try.underlying41 rfl) ?_
        refine rr (rd_lt rfl rfl) ?_
        refine nx ?_
        first | refine do_condp rfl (fun h68 => ?_) (fun h68 => ?_) | refine do_cond rfl (fun h68 => ?_) (fun h68 => ?_)
        · have hq := List.getElem?_eq_getElem (l := Qa) (i := j) (by omega)
          have hqm := List.mem_of_getElem? hq
          generalize Qa[j]'_ = xq at hq hqm
          obtain ⟨qg, qk, qn, rfl⟩ := hQi xq hqm
          refine St.sl (P := ownQ GAsk.L 49 18 (.slice A10 Qa.length c10) Qa.length Qa) (St.Q_some (by omega) fun g10 c11 hg10 _ _ => ?_)
          cases hg10
          refine St.sl (P := ownQ GAsk.L 30 18 (.slice A59 Qa.length c59) Qa.length Qa) (St.Q_some (by omega) fun g59 c60 hg59 _ _ => ?_)
          cases hg59
          refine do_skip ?_
          refine St.then_n ?_
          refine do_seq ?_
          refine do_block ?_
          refine do_seq ?_
          refine do_draw [[2, 3, 4, 11, 16, 17], [2, 3, 4, 11, 16, 17], [3, 4, 11, 16, 17], [4, 11, 16, 17], [11, 16, 17], [7, 8, 9, 10, 11, 16, 17], [7, 8, 9, 10, 11, 16, 17], [8, 9, 10, 11, 16, 17], [9, 10, 11, 16, 17], [10, 11, 16, 17], [11, 16, 17], [16, 17], [14, 15, 16, 17], [14, 15, 16, 17], [15, 16, 17], [16, 17], [17], []] (by kernel_rfl) rfl ?_
          refine ta 0 rfl (rd_move rfl) ?_
          refine ta 1 rfl (rd_move rfl) ?_
          refine ta 2 rfl ((rd_indexAddr Try.underlying41 ei49 rfl rfl (by omega) (by omega)).eq (show _ = Value.pointer (some ⟨g10, 0 + j * 18, none⟩) by simp)) ?_
          refine ta 3 rfl (rd_fa (off' := 0 + j * 18 + 0) rfl fld49_0 rfl) ?_
          refine ta 4 rfl (rd_ld rfl row3 (cell_Q Qa j 0 (askC qg qk qn) gask_len hq (by decide) rfl (by omega))) ?_
          refine ta 5 rfl (rd_move rfl) ?_
          refine ta 6 rfl (rd_move rfl) ?_
          refine ta 7 rfl ((rd_indexAddr Try.underlying41 ei49 rfl rfl (by omega) (by omega)).eq (show _ = Value.pointer (some ⟨g10, 0 + j * 18, none⟩) by simp)) ?_
          refine ta 8 rfl (rd_fa (off' := 0 + j * 18 + 1) rfl fld49_1 rfl) ?_
          refine ta 9 rfl (rd_ldr _ rfl row47 (part_Q (us := GCmd.L (askC qg qk qn).cmd) Qa j 1 (askC qg qk qn) gask_len hq (Nat.le_of_ble_eq_true rfl) rfl (by omega))) ?_
          refine ta 12 rfl (rd_move rfl) ?_
          refine ta 13 rfl (rd_move rfl) ?_
          refine ta 14 rfl ((rd_indexAddr Try.underlying43 ei30 rfl rfl (by omega) (by omega)).eq (show _ = Value.pointer (some ⟨g59, 0 + j * 18, none⟩) by simp)) ?_
          refine ta 15 rfl (rd_ldr _ rfl row30 (cells_Q (f := GAsk.L) gask_len hq)) ?_
          refine tr 10 ?_
          refine rc (hs := taken17_spec _ (askC qg qk qn).cmd) (k := ?_)
          rintro ⟨⟩ -
          try simp only [List.cons_append, List.nil_append]
          refine nx ?_
          refine any_next (by apply bk 15 rfl (rd_ldr _ rfl row30 (cells_Q (f := GAsk.L) gask_len hq)); apply bk 14 rfl ((rd_indexAddr Try.underlying43 ei30 rfl rfl (by omega) (by omega)).eq (show _ = Value.pointer (some ⟨g59, 0 + j * 18, none⟩) by simp)); apply bk 13 rfl (rd_move rfl); apply bk 12 rfl (rd_move rfl); apply bd 9; apply bd 8; apply bd 7; apply bd 6; apply bd 5; apply bk 4 rfl (rd_ld rfl row3 (cell_Q Qa j 0 (askC qg qk qn) gask_len hq (by decide) rfl (by omega))); apply bk 3 rfl (rd_fa (off' := 0 + j * 18 + 0) rfl fld49_0 rfl); apply bk 2 rfl ((rd_indexAddr Try.underlying41 ei49 rfl rfl (by omega) (by omega)).eq (show _ = Value.pointer (some ⟨g10, 0 + j * 18, none⟩) by simp)); apply bk 1 rfl (rd_move rfl); apply bk 0 rfl (rd_move rfl); exact .nil) ?_
          refine ta 11 rfl (rd_bd [_, _, _, _, _, _, _, _, _, _, _, _, _, _, _, _, _, _] zero30 plc30) ?_
          refine tr 16 ?_
          refine rc (hs := same_spec _ (askC qg qk qn) (askC qg qk qn) (vw_nil _ _) (vw_nil _ _) rfl) (k := ?_)
          rintro ⟨⟩ -
          try simp only [List.cons_append, List.nil_append]
          refine nx ?_
          refine any_next (by apply bd 11; apply bd 15; apply bd 14; apply bd 13; apply bd 12; apply bd 4; apply bd 3; apply bd 2; apply bd 1; apply bd 0; exact .nil) ?_
          refine ta 17 rfl (rd_not rfl) ?_
          refine any_nil (by kernel_rfl) ?_
          refine St.kp [(1, _), (5, _), (6, _), (7, _), (8, _), (10, _), (11, _), (88, _)] ?_
          refine St.then_n ?_
          refine do_cond_f rfl ?_
          refine do_skip ?_
          refine St.blk_n ?_
          refine St.then_n ?_
          refine do_region ?_
          refine rr (rd_move rfl) ?_
          refine rr (rd_addi rfl rfl) ?_
          refine rr (rd_assign rfl) ?_
          refine nx ?_
          exact loop_bk (j + 1) (by omega) (hμ := by omega)
        · refine do_exit ?_
          refine St.then_x ?_
          refine St.then_x ?_
          refine St.blk_s ?_
          refine St.then_n ?_
          first
            | (have hmm := hm1
               exact St.sb (St.kq [(1, _), (5, _), (6, _), (7, _), (8, _)] (h := hK (knowS s on oph, knowS t on oph, .slice A59 Qa.length c59, Qa) ⟨by rw [knowS_len]; exact hs3, eqv_know hev on oph, ⟨hQ3, hQi⟩, by have := know_rows s on oph; dsimp only; omega⟩)))
            | (have hmm := hm4
               exact St.sb (St.kq [(1, _), (5, _), (6, _), (7, _), (8, _)] (h := hK ((toldS s on oph ⟨zg, ⟨zkind, ⟨zokind, zosrc, zodst, zoamt, zokey, zoslot, zoshard⟩, zid, zname, znn, zwhy, zslot, zepoch, zat_, zlast, zA, zc, zdata⟩⟩ ywhy prows q).1, (toldS t on oph ⟨zg, ⟨zkind, ⟨zokind, zosrc, zodst, zoamt, zokey, zoslot, zoshard⟩, zid, zname, znn, zwhy, zslot, zepoch, zat_, zlast, zA, zc, zdata⟩⟩ ywhy prows p).1, .slice A7 Lst.length c7, Lst) ⟨by rw [told_len]; exact hs3, hTe.1, hP, by have := told_rows s on oph ⟨zg, ⟨zkind, ⟨zokind, zosrc, zodst, zoamt, zokey, zoslot, zoshard⟩, zid, zname, znn, zwhy, zslot, zepoch, zat_, zlast, zA, zc, zdata⟩⟩ ywhy prows q; dsimp only; omega⟩)))
            | (have hmm := hm5
               exact St.sb (St.kq [(1, _), (5, _), (6, _), (7, _), (8, _)] (h := hK (s, t, .slice A7 Lst.length c7, Lst) ⟨hs3, hev, hP, by dsimp only; omega⟩)))
      · have hm2 := True.intro
        refine do_seq ?_
        refine sr ?_
        refine rr (rd_eq rfl rfl) ?_
        refine rr (rd_assign rfl) ?_
        refine run_nil ?_
        refine St.kp [(1, _), (5, _), (6, _), (7, _), (8, _), (9, _), (45, _), (89, _)] ?_
        refine St.then_n ?_
        refine do_cut (fun z : Bool => True) (fun z => [(1, .slice (some ⟨g0, of0, none⟩) l.length c0), (5, .pointer (some ⟨r, 0, none⟩)), (6, .pointer (some ⟨ra2, 0, none⟩)), (7, .slice A7 Lst.length c7), (8, .int .i64 i), (9, .pointer (some ⟨b9, 0, none⟩)), (89, .bool z)]) (fun _ => [pts b9 116 [.int .i64 okd, .int .i64 on, .int .i64 oph, .int .i64 xg, .int .i64 xkind, .int .i64 xokind, .string (strOf xosrc), .string (strOf xodst), .int .i64 xoamt, .string (strOf xokey), .int .i64 xoslot, .int .i64 xoshard, .string (strOf xid), .string (strOf xname), .int .i64 xnn, .int .i64 xwhy, .int .i64 xslot, .int .i64 xepoch, .int .i64 xat_, .bool xlast, .slice xA xdata.length xc, .int .i64 ywhy, .bool ywait, .int .i64 pwhy, .int .i64 pamt, .slice pA prows.length pc, .slice rA rdata.length rK, .int .i64 oat], auO r s, raO ra2 t, ownQ GAsk.L 30 18 (.slice A7 Lst.length c7) (List.length Lst) Lst, kept w]) (fun K2 hK2 => ?_) ?_
        · first | refine do_condp rfl (fun h89 => ?_) (fun h89 => ?_) | refine do_cond rfl (fun h89 => ?_) (fun h89 => ?_)
          · refine do_skip ?_
            refine St.then_n ?_
            exact St.sb (St.kq [(1, _), (5, _), (6, _), (7, _), (8, _), (9, _), (89, _)] (h := hK2 _ trivial))
          · refine sr ?_
            refine rr (rd_eq rfl rfl) ?_
            refine rr (rd_assign rfl) ?_
            refine nx ?_
            first | refine do_condp rfl (fun h89 => ?_) (fun h89 => ?_) | refine do_cond rfl (fun h89 => ?_) (fun h89 => ?_)
            · refine do_skip ?_
              refine St.then_n ?_
              exact St.sb (St.kq [(1, _), (5, _), (6, _), (7, _), (8, _), (9, _), (89, _)] (h := hK2 _ trivial))
            · refine do_region ?_
              refine rr (rd_eq rfl rfl) ?_
              refine rr (rd_assign rfl) ?_
              refine nx ?_
              exact St.sb (St.kq [(1, _), (5, _), (6, _), (7, _), (8, _), (9, _), (89, _)] (h := hK2 _ trivial))
        rintro z89 -
        first | refine do_condp rfl (fun h89 => ?_) (fun h89 => ?_) | refine do_cond rfl (fun h89 => ?_) (fun h89 => ?_)
        · have hm4 := True.intro
          refine sr ?_
          refine rr (rd_fa rfl fld116_3) ?_
          refine rr (rd_ldr [_, _, _, _, _, _, _, _, _, _, _, _, _, _, _, _, _, _] rfl row30) ?_
          refine r_al zero30 fun b12 => ?_
          first | refine r_sa row30 ?_ | refine r_sm row30 ?_
          refine nx ?_
          refine do_seq ?_
          refine do_seq ?_
          refine do_cut (fun z : Bool => z = decide (1 < okd ∧ 0 < Lst.length)) (fun z => [(1, .slice (some ⟨g0, of0, none⟩) l.length c0), (5, .pointer (some ⟨r, 0, none⟩)), (6, .pointer (some ⟨ra2, 0, none⟩)), (7, .slice A7 Lst.length c7), (8, .int .i64 i), (9, .pointer (some ⟨b9, 0, none⟩)), (12, .pointer (some ⟨b12, 0, none⟩)), (102, .bool z)]) (fun _ => [pts b12 30 [.int .i64 xg, .int .i64 xkind, .int .i64 xokind, .string (strOf xosrc), .string (strOf xodst), .int .i64 xoamt, .string (strOf xokey), .int .i64 xoslot, .int .i64 xoshard, .string (strOf xid), .string (strOf xname), .int .i64 xnn, .int .i64 xwhy, .int .i64 xslot, .int .i64 xepoch, .int .i64 xat_, .bool xlast, .slice xA xdata.length xc], pts b9 116 [.int .i64 okd, .int .i64 on, .int .i64 oph, .int .i64 xg, .int .i64 xkind, .int .i64 xokind, .string (strOf xosrc), .string (strOf xodst), .int .i64 xoamt, .string (strOf xokey), .int .i64 xoslot, .int .i64 xoshard, .string (strOf xid), .string (strOf xname), .int .i64 xnn, .int .i64 xwhy, .int .i64 xslot, .int .i64 xepoch, .int .i64 xat_, .bool xlast, .slice xA xdata.length xc, .int .i64 ywhy, .bool ywait, .int .i64 pwhy, .int .i64 pamt, .slice pA prows.length pc, .slice rA rdata.length rK, .int .i64 oat], auO r s, raO ra2 t, ownQ GAsk.L 30 18 (.slice A7 Lst.length c7) (List.length Lst) Lst, kept w]) (fun K3 hK3 => ?_) ?_
          · by_cases hA : 1 < okd
            · refine do_region ?_
              refine rr (rd_fa rfl fld116_0) ?_
              refine rr (rd_ld rfl row3) ?_
              first | refine rr ((rd_gt rfl rfl).eq (congrArg Value.bool (decide_eq_true (by omega)))) ?_ | refine rr ((rd_gt rfl rfl).eq (congrArg Value.bool (decide_eq_false (by omega)))) ?_
              refine rr (rd_move rfl) ?_
              first | refine sk ?_ | (refine rr (rd_move rfl) ?_)
              first | refine sk ?_ | (refine rr (rd_len Try.underlying43 rfl) ?_)
              first | refine sk ?_ | (refine rr (rd_gt rfl rfl) ?_)
              refine rr (rd_pick rfl rfl) ?_
              refine run_nil ?_
              refine St.kp [(1, _), (5, _), (6, _), (7, _), (8, _), (9, _), (12, _), (99, _), (100, _), (101, _), (102, _)] ?_
              refine St.then_n ?_
              exact St.sb (St.kq [(1, _), (5, _), (6, _), (7, _), (8, _), (9, _), (12, _), (102, _)] (h := hK3 _ (by first | exact (decide_eq_false (by omega)).symm | exact decide_eq_decide.2 (by omega))))
            · refine do_region ?_
              refine rr (rd_fa rfl fld116_0) ?_
              refine rr (rd_ld rfl row3) ?_
              first | refine rr ((rd_gt rfl rfl).eq (congrArg Value.bool (decide_eq_true (by omega)))) ?_ | refine rr ((rd_gt rfl rfl).eq (congrArg Value.bool (decide_eq_false (by omega)))) ?_
              refine rr (rd_move rfl) ?_
              first | refine sk ?_ | (refine rr (rd_move rfl) ?_)
              first | refine sk ?_ | (refine rr (rd_len Try.underlying43 rfl) ?_)
              first | refine sk ?_ | (refine rr (rd_gt rfl rfl) ?_)
              refine rr (rd_pick rfl rfl) ?_
              refine run_nil ?_
              refine St.kp [(1, _), (5, _), (6, _), (7, _), (8, _), (9, _), (12, _), (99, _), (100, _), (101, _), (102, _)] ?_
              refine St.then_n ?_
              exact St.sb (St.kq [(1, _), (5, _), (6, _), (7, _), (8, _), (9, _), (12, _), (102, _)] (h := hK3 _ (by first | exact (decide_eq_false (by omega)).symm | exact decide_eq_decide.2 (by omega))))
          rintro z2 hz2
          refine do_cut (fun x : GAsk => VwB (kept w) x.cmd.v x.cmd.data ∧ x.cmd.data.length ≤ 140737488355328) (fun _ => [(1, .slice (some ⟨g0, of0, none⟩) l.length c0), (5, .pointer (some ⟨r, 0, none⟩)), (6, .pointer (some ⟨ra2, 0, none⟩)), (7, .slice A7 Lst.length c7), (8, .int .i64 i), (9, .pointer (some ⟨b9, 0, none⟩)), (12, .pointer (some ⟨b12, 0, none⟩))]) (fun x => [pts b12 30 (GAsk.L x), pts b9 116 [.int .i64 okd, .int .i64 on, .int .i64 oph, .int .i64 xg, .int .i64 xkind, .int .i64 xokind, .string (strOf xosrc), .string (strOf xodst), .int .i64 xoamt, .string (strOf xokey), .int .i64 xoslot, .int .i64 xoshard, .string (strOf xid), .string (strOf xname), .int .i64 xnn, .int .i64 xwhy, .int .i64 xslot, .int .i64 xepoch, .int .i64 xat_, .bool xlast, .slice xA xdata.length xc, .int .i64 ywhy, .bool ywait, .int .i64 pwhy, .int .i64 pamt, .slice pA prows.length pc, .slice rA rdata.length rK, .int .i64 oat], auO r s, raO ra2 t, ownQ GAsk.L 30 18 (.slice A7 Lst.length c7) (List.length Lst) Lst, kept w]) (fun K4 hK4 => ?_) ?_
          · first | refine do_condp rfl (fun h102 => ?_) (fun h102 => ?_) | refine do_cond rfl (fun h102 => ?_) (fun h102 => ?_)
            · obtain ⟨hk1, hLn⟩ := of_decide_eq_true (hz2.symm.trans h102)
              obtain ⟨jj, hjj, hjl⟩ : ∃ jj : Nat, oat % (Lst.length : Int) = jj ∧ jj < Lst.length := by
                have q1 := Int.emod_nonneg oat (show (Lst.length : Int) ≠ 0 by omega)
                have q2 := Int.emod_lt_of_pos oat (show (0 : Int) < Lst.length by omega)
                exact ⟨(oat % (Lst.length : Int)).toNat, by omega, by omega⟩
              have hg := List.getElem?_eq_getElem (l := Lst) (i := jj) (by omega)
              have hgm := List.mem_of_getElem? hg
              generalize Lst[jj]'_ = xg2 at hg hgm
              obtain ⟨qg, qk, qn, rfl⟩ := hP.2 xg2 hgm
              have hL3 := hP.1
              refine St.sl (P := ownQ GAsk.L 30 18 (.slice A7 Lst.length c7) Lst.length Lst) (St.Q_some (by omega) fun g7 c8 hg7 _ _ => ?_)
              cases hg7
              refine do_region ?_
              refine rr (rd_move rfl) ?_
              refine rr (rd_fa rfl fld116_5) ?_
              refine rr (rd_ld rfl row3) ?_
              refine rr (rd_move rfl) ?_
              refine rr (rd_len Try.underlying43 rfl) ?_
              refine rc (hs := count_spec _ oat Lst.length (by omega) (by omega)) (k := ?_)
              rintro ⟨⟩ -
              rw [hjj]
              try simp only [List.cons_append, List.nil_append]
              refine rr ((rd_indexAddr Try.underlying43 ei30 rfl rfl (by omega) (by omega)).eq (show _ = Value.pointer (some ⟨g7, 0 + jj * 18, none⟩) by simp)) ?_
              refine rr (rd_ldr _ rfl row30 (cells_Q (f := GAsk.L) gask_len hg)) ?_
              first | refine r_sa row30 ?_ | refine r_sm row30 ?_
              refine run_nil ?_
              refine St.kp [(1, _), (5, _), (6, _), (7, _), (8, _), (9, _), (12, _)] ?_
              refine St.then_n ?_
              first
                | (have hmm := hm6
                   have hk5 := hK4 ⟨xg, ⟨xkind, ⟨xokind, xosrc, xodst, xoamt, xokey, xoslot, xoshard⟩, xid, xname, xnn, xwhy, xslot, xepoch, xat_, xlast, xA, xc, xdata⟩⟩ ⟨oV, ol⟩
                   simp only [GAsk.L, GCmd.L, GCmd.v] at hk5
                   exact St.sb (St.kq [(1, _), (5, _), (6, _), (7, _), (8, _), (9, _), (12, _)] (h := hk5)))
                | exact St.sb (St.kq [(1, _), (5, _), (6, _), (7, _), (8, _), (9, _), (12, _)] (h := hK4 (askC qg qk qn) ⟨vw_nil _ _, Nat.zero_le _⟩))
            · have hm6 := True.intro
              refine do_skip ?_
              refine St.then_n ?_
              first
                | (have hmm := hm6
                   have hk5 := hK4 ⟨xg, ⟨xkind, ⟨xokind, xosrc, xodst, xoamt, xokey, xoslot, xoshard⟩, xid, xname, xnn, xwhy, xslot, xepoch, xat_, xlast, xA, xc, xdata⟩⟩ ⟨oV, ol⟩
                   simp only [GAsk.L, GCmd.L, GCmd.v] at hk5
                   exact St.sb (St.kq [(1, _), (5, _), (6, _), (7, _), (8, _), (9, _), (12, _)] (h := hk5)))
                | exact St.sb (St.kq [(1, _), (5, _), (6, _), (7, _), (8, _), (9, _), (12, _)] (h := hK4 (askC qg qk qn) ⟨vw_nil _ _, Nat.zero_le _⟩))
          rintro ⟨zg, ⟨zkind, ⟨zokind, zosrc, zodst, zoamt, zokey, zoslot, zoshard⟩, zid, zname, znn, zwhy, zslot, zepoch, zat_, zlast, zA, zc, zdata⟩⟩ ⟨zV, zl⟩
          dsimp only at zV zl
          simp only [GAsk.L, GCmd.L, GCmd.v] at zV ⊢
          refine sr ?_
          refine rr (rd_assign rfl) ?_
          refine nx ?_
          refine sr ?_
          refine rr (rd_move rfl) ?_
          refine rr (rd_fa rfl fld116_4) ?_
          refine rr (rd_fa rfl fld35_2) ?_
          refine rr (rd_fa rfl fld33_2) ?_
          refine rr (rd_ld rfl row31) ?_
          refine St.nilQ (f := rowC) (T := 108) (k := 2) ?_
          refine r_apQ (f := rowC) (L := []) (n := 0) (M := prows) rowC_len rowC_one Try.underlying31 ei108 (X := kept w) oR2 rfl (by omega) (by omega) (by omega) (fun v13 _ => ?_)
          rw [List.nil_append, Nat.zero_add]
          refine St.Q_sl fun A13 c13 hv13 _ _ _ => ?_
          subst hv13
          refine rr (rd_assign rfl) ?_
          refine run_nil ?_
          refine St.kp [(1, _), (5, _), (6, _), (7, _), (8, _), (9, _), (12, _), (13, _)] ?_
          refine St.then_n ?_
          refine do_seq ?_
          refine do_cut (fun _ : (Option Addr × Nat) × Nat => True) (fun y => [(1, .slice (some ⟨g0, of0, none⟩) l.length c0), (5, .pointer (some ⟨r, 0, none⟩)), (6, .pointer (some ⟨ra2, 0, none⟩)), (7, .slice A7 Lst.length c7), (8, .int .i64 i), (9, .pointer (some ⟨b9, 0, none⟩)), (12, .pointer (some ⟨b12, 0, none⟩)), (13, .slice A13 prows.length c13), (14, .pointer (some ⟨y.2, 0, none⟩)), (15, .bool (toldS s on oph ⟨zg, ⟨zkind, ⟨zokind, zosrc, zodst, zoamt, zokey, zoslot, zoshard⟩, zid, zname, znn, zwhy, zslot, zepoch, zat_, zlast, zA, zc, zdata⟩⟩ ywhy prows y.1).2.2.2)]) (fun y => [pts y.2 79 [.int .i64 (toldS s on oph ⟨zg, ⟨zkind, ⟨zokind, zosrc, zodst, zoamt, zokey, zoslot, zoshard⟩, zid, zname, znn, zwhy, zslot, zepoch, zat_, zlast, zA, zc, zdata⟩⟩ ywhy prows y.1).2.1, .int .i64 0, .int .i64 0, .int .i64 (toldS s on oph ⟨zg, ⟨zkind, ⟨zokind, zosrc, zodst, zoamt, zokey, zoslot, zoshard⟩, zid, zname, znn, zwhy, zslot, zepoch, zat_, zlast, zA, zc, zdata⟩⟩ ywhy prows y.1).2.2.1, .int .i64 0], rq (.slice A13 prows.length c13) prows.length prows, pts b12 30 [.int .i64 zg, .int .i64 zkind, .int .i64 zokind, .string (strOf zosrc), .string (strOf zodst), .int .i64 zoamt, .string (strOf zokey), .int .i64 zoslot, .int .i64 zoshard, .string (strOf zid), .string (strOf zname), .int .i64 znn, .int .i64 zwhy, .int .i64 zslot, .int .i64 zepoch, .int .i64 zat_, .bool zlast, .slice zA zdata.length zc], pts b9 116 [.int .i64 okd, .int .i64 on, .int .i64 oph, .int .i64 xg, .int .i64 xkind, .int .i64 xokind, .string (strOf xosrc), .string (strOf xodst), .int .i64 xoamt, .string (strOf xokey), .int .i64 xoslot, .int .i64 xoshard, .string (strOf xid), .string (strOf xname), .int .i64 xnn, .int .i64 xwhy, .int .i64 xslot, .int .i64 xepoch, .int .i64 xat_, .bool xlast, .slice xA xdata.length xc, .int .i64 ywhy, .bool ywait, .int .i64 pwhy, .int .i64 pamt, .slice pA prows.length pc, .slice rA rdata.length rK, .int .i64 oat], auO r (toldS s on oph ⟨zg, ⟨zkind, ⟨zokind, zosrc, zodst, zoamt, zokey, zoslot, zoshard⟩, zid, zname, znn, zwhy, zslot, zepoch, zat_, zlast, zA, zc, zdata⟩⟩ ywhy prows y.1).1, raO ra2 t, ownQ GAsk.L 30 18 (.slice A7 Lst.length c7) (List.length Lst) Lst, kept w]) (fun K6 hK6 => ?_) ?_
          · skip
            · refine do_draw [[17, 18, 19, 20, 22, 23], [2, 17, 18, 19, 20, 22, 23], [17, 18, 19, 20, 22, 23], [4, 17, 18, 19, 20, 22, 23], [17, 18, 19, 20, 22, 23], [6, 10, 17, 18, 19, 20, 22, 23], [10, 17, 18, 19, 20, 22, 23], [8, 9, 10, 17, 18, 19, 20, 22, 23], [9, 10, 17, 18, 19, 20, 22, 23], [10, 17, 18, 19, 20, 22, 23], [17, 18, 19, 20, 22, 23], [12, 13, 16, 17, 18, 19, 20, 22, 23], [13, 16, 17, 18, 19, 20, 22, 23], [16, 17, 18, 19, 20, 22, 23], [15, 16, 17, 18, 19, 20, 22, 23], [16, 17, 18, 19, 20, 22, 23], [17, 18, 19, 20, 22, 23], [18, 19, 20, 22, 23], [19, 20, 22, 23], [22, 23], [23], [22, 23], [23], []] (by kernel_rfl) rfl ?_
              refine ta 0 rfl (rd_move rfl) ?_
              refine ta 1 rfl (rd_fa rfl fld116_1) ?_
              refine ta 2 rfl (rd_ld rfl row2) ?_
              refine ta 3 rfl (rd_fa rfl fld116_2) ?_
              refine ta 4 rfl (rd_ld rfl row3) ?_
              refine ta 5 rfl (rd_fa rfl fld30_0) ?_
              refine ta 6 rfl (rd_ld rfl row3) ?_
              refine ta 7 rfl (rd_fa rfl fld30_1) ?_
              refine ta 8 rfl (rd_ldr [_, _, _, _, _, _, _, _, _, _, _, _, _, _, _, _, _] rfl row28) ?_
              refine ta 11 rfl (rd_fa rfl fld116_4) ?_
              refine ta 12 rfl (rd_fa rfl fld35_0) ?_
              refine ta 13 rfl (rd_ld rfl row25) ?_
              refine ta 14 rfl (rd_move rfl) ?_
              refine ta 15 rfl (rd_bd [_, _, _] zero33 plc33) ?_
              refine ta 16 rfl (rd_bd [_, _, _, _, _, _] zero53 plc53) ?_
              refine any_run2 (i := 9) (j := 21) (by kernel_rfl) rfl rfl ?_ ?_
              · refine rc (hs := given17_spec _ ⟨zkind, ⟨zokind, zosrc, zodst, zoamt, zokey, zoslot, zoshard⟩, zid, zname, znn, zwhy, zslot, zepoch, zat_, zlast, zA, zc, zdata⟩ (Vw.sep zV (by repeat (first | with_reducible exact Sel.head | apply Sel.tail))) zl) (k := ?_)
                rintro ⟨A14, c14⟩ -
                simp only [GCmd.L, GCmd.v]
                try simp only [List.cons_append, List.nil_append]
                refine nx ?_
                refine any_next (by apply bk 16 rfl (rd_bd [_, _, _, _, _, _] zero53 plc53); apply bk 15 rfl (rd_bd [_, _, _] zero33 plc33); apply bk 14 rfl (rd_move rfl); apply bk 13 rfl (rd_ld rfl row25); apply bk 12 rfl (rd_fa rfl fld35_0); apply bk 11 rfl (rd_fa rfl fld116_4); apply bd 8; apply bd 7; apply bk 6 rfl (rd_ld rfl row3); apply bk 5 rfl (rd_fa rfl fld30_0); apply bk 4 rfl (rd_ld rfl row3); apply bk 3 rfl (rd_fa rfl fld116_2); apply bk 2 rfl (rd_ld rfl row2); apply bk 1 rfl (rd_fa rfl fld116_1); apply bk 0 rfl (rd_move rfl); exact .nil) ?_
                refine ta 10 rfl (rd_bd [_, _, _, _, _, _, _, _, _, _, _, _, _, _, _, _, _, _] zero49 plc49) ?_
                refine any_run2 (i := 17) (j := 21) (by kernel_rfl) rfl rfl ?_ ?_
                · refine rc (hs := told_spec _ r s on oph ⟨zg, ⟨zkind, ⟨zokind, zosrc, zodst, zoamt, zokey, zoslot, zoshard⟩, zid, zname, znn, zwhy, zslot, zepoch, zat_, zlast, A14, c14, zdata⟩⟩ ⟨ywhy, false, ⟨0, 0, A13, c13, prows⟩, none, 0, []⟩ hs3 (Vw.sep vw_Q (by repeat (first | with_reducible exact Sel.head | apply Sel.tail))) (by dsimp only; omega)) (k := ?_)
                  rintro q -
                  rw [show toldS s on oph ⟨zg, ⟨zkind, ⟨zokind, zosrc, zodst, zoamt, zokey, zoslot, zoshard⟩, zid, zname, znn, zwhy, zslot, zepoch, zat_, zlast, A14, c14, zdata⟩⟩ ywhy prows q = toldS s on oph ⟨zg, ⟨zkind, ⟨zokind, zosrc, zodst, zoamt, zokey, zoslot, zoshard⟩, zid, zname, znn, zwhy, zslot, zepoch, zat_, zlast, zA, zc, zdata⟩⟩ ywhy prows q from rfl]
                  try simp only [List.cons_append, List.nil_append]
                  refine nx ?_
                  refine any_next (by apply bd 10; apply bd 16; apply bd 15; apply bd 14; apply bd 13; apply bd 12; apply bd 11; apply bd 6; apply bd 5; apply bd 4; apply bd 3; apply bd 2; apply bd 1; apply bd 0; exact .nil) ?_
                  refine ta 18 rfl (rd_move rfl) ?_
                  refine ta 19 rfl (rd_extract rfl rfl) ?_
                  refine ta 20 rfl (rd_extract rfl rfl) ?_
                  refine tr 21 ?_
                  refine r_al zero79 fun b14 => ?_
                  refine nx ?_
                  refine any_next (by apply bk 20 rfl (rd_extract rfl rfl); apply bk 19 rfl (rd_extract rfl rfl); apply bk 18 rfl (rd_move rfl); exact .nil) ?_
                  refine tr 22 ?_
                  first | refine r_sa row79 ?_ | refine r_sm row79 ?_
                  refine nx ?_
                  refine any_next (by apply bk 20 rfl (rd_extract rfl rfl); apply bd 19; apply bd 18; exact .nil) ?_
                  refine ta 23 rfl (rd_assign rfl) ?_
                  refine any_nil (by kernel_rfl) ?_
                  refine St.then_n ?_
                  exact St.sb (St.kq [(1, _), (5, _), (6, _), (7, _), (8, _), (9, _), (12, _), (13, _), (14, _), (15, _)] (h := hK6 (q, b14) trivial))
                rotate_left
                refine r_al zero79 fun b14 => ?_
                refine nx ?_
                refine any_next (by apply bk 10 rfl (rd_bd [_, _, _, _, _, _, _, _, _, _, _, _, _, _, _, _, _, _] zero49 plc49); apply bk 16 rfl (rd_bd [_, _, _, _, _, _] zero53 plc53); apply bk 15 rfl (rd_bd [_, _, _] zero33 plc33); apply bk 14 rfl (rd_move rfl); apply bk 13 rfl (rd_ld rfl row25); apply bk 12 rfl (rd_fa rfl fld35_0); apply bk 11 rfl (rd_fa rfl fld116_4); apply bk 6 rfl (rd_ld rfl row3); apply bk 5 rfl (rd_fa rfl fld30_0); apply bk 4 rfl (rd_ld rfl row3); apply bk 3 rfl (rd_fa rfl fld116_2); apply bk 2 rfl (rd_ld rfl row2); apply bk 1 rfl (rd_fa rfl fld116_1); apply bk 0 rfl (rd_move rfl); exact .nil) ?_
                refine tr 17 ?_
                refine rc (hs := told_spec _ r s on oph ⟨zg, ⟨zkind, ⟨zokind, zosrc, zodst, zoamt, zokey, zoslot, zoshard⟩, zid, zname, znn, zwhy, zslot, zepoch, zat_, zlast, A14, c14, zdata⟩⟩ ⟨ywhy, false, ⟨0, 0, A13, c13, prows⟩, none, 0, []⟩ hs3 (Vw.sep vw_Q (by repeat (first | with_reducible exact Sel.head | apply Sel.tail))) (by dsimp only; omega)) (k := ?_)
                rintro q -
                rw [show toldS s on oph ⟨zg, ⟨zkind, ⟨zokind, zosrc, zodst, zoamt, zokey, zoslot, zoshard⟩, zid, zname, znn, zwhy, zslot, zepoch, zat_, zlast, A14, c14, zdata⟩⟩ ywhy prows q = toldS s on oph ⟨zg, ⟨zkind, ⟨zokind, zosrc, zodst, zoamt, zokey, zoslot, zoshard⟩, zid, zname, znn, zwhy, zslot, zepoch, zat_, zlast, zA, zc, zdata⟩⟩ ywhy prows q from rfl]
                try simp only [List.cons_append, List.nil_append]
                refine nx ?_
                refine any_next (by apply bd 10; apply bd 16; apply bd 15; apply bd 14; apply bd 13; apply bd 12; apply bd 11; apply bd 6; apply bd 5; apply bd 4; apply bd 3; apply bd 2; apply bd 1; apply bd 0; exact .nil) ?_
                refine ta 18 rfl (rd_move rfl) ?_
                refine ta 19 rfl (rd_extract rfl rfl) ?_
                refine ta 20 rfl (rd_extract rfl rfl) ?_
                refine tr 22 ?_
                first | refine r_sa row79 ?_ | refine r_sm row79 ?_
                refine nx ?_
                refine any_next (by apply bk 20 rfl (rd_extract rfl rfl); apply bd 19; apply bd 18; exact .nil) ?_
                refine ta 23 rfl (rd_assign rfl) ?_
                refine any_nil (by kernel_rfl) ?_
                refine St.then_n ?_
                exact St.sb (St.kq [(1, _), (5, _), (6, _), (7, _), (8, _), (9, _), (12, _), (13, _), (14, _), (15, _)] (h := hK6 (q, b14) trivial))
              rotate_left
              refine r_al zero79 fun b14 => ?_
              refine nx ?_
              refine any_next (by apply bk 16 rfl (rd_bd [_, _, _, _, _, _] zero53 plc53); apply bk 15 rfl (rd_bd [_, _, _] zero33 plc33); apply bk 14 rfl (rd_move rfl); apply bk 13 rfl (rd_ld rfl row25); apply bk 12 rfl (rd_fa rfl fld35_0); apply bk 11 rfl (rd_fa rfl fld116_4); apply bk 8 rfl (rd_ldr [_, _, _, _, _, _, _, _, _, _, _, _, _, _, _, _, _] rfl row28); apply bk 7 rfl (rd_fa rfl fld30_1); apply bk 6 rfl (rd_ld rfl row3); apply bk 5 rfl (rd_fa rfl fld30_0); apply bk 4 rfl (rd_ld rfl row3); apply bk 3 rfl (rd_fa rfl fld116_2); apply bk 2 rfl (rd_ld rfl row2); apply bk 1 rfl (rd_fa rfl fld116_1); apply bk 0 rfl (rd_move rfl); exact .nil) ?_
              refine tr 9 ?_
              refine rc (hs := given17_spec _ ⟨zkind, ⟨zokind, zosrc, zodst, zoamt, zokey, zoslot, zoshard⟩, zid, zname, znn, zwhy, zslot, zepoch, zat_, zlast, zA, zc, zdata⟩ (Vw.sep zV (by repeat (first | with_reducible exact Sel.head | apply Sel.tail))) zl) (k := ?_)
              rintro ⟨A14, c14⟩ -
              simp only [GCmd.L, GCmd.v]
              try simp only [List.cons_append, List.nil_append]
              refine nx ?_
              refine any_next (by apply bk 16 rfl (rd_bd [_, _, _, _, _, _] zero53 plc53); apply bk 15 rfl (rd_bd [_, _, _] zero33 plc33); apply bk 14 rfl (rd_move rfl); apply bk 13 rfl (rd_ld rfl row25); apply bk 12 rfl (rd_fa rfl fld35_0); apply bk 11 rfl (rd_fa rfl fld116_4); apply bd 8; apply bd 7; apply bk 6 rfl (rd_ld rfl row3); apply bk 5 rfl (rd_fa rfl fld30_0); apply bk 4 rfl (rd_ld rfl row3); apply bk 3 rfl (rd_fa rfl fld116_2); apply bk 2 rfl (rd_ld rfl row2); apply bk 1 rfl (rd_fa rfl fld116_1); apply bk 0 rfl (rd_move rfl); exact .nil) ?_
              refine ta 10 rfl (rd_bd [_, _, _, _, _, _, _, _, _, _, _, _, _, _, _, _, _, _] zero49 plc49) ?_
              refine tr 17 ?_
              refine rc (hs := told_spec _ r s on oph ⟨zg, ⟨zkind, ⟨zokind, zosrc, zodst, zoamt, zokey, zoslot, zoshard⟩, zid, zname, znn, zwhy, zslot, zepoch, zat_, zlast, A14, c14, zdata⟩⟩ ⟨ywhy, false, ⟨0, 0, A13, c13, prows⟩, none, 0, []⟩ hs3 (Vw.sep vw_Q (by repeat (first | with_reducible exact Sel.head | apply Sel.tail))) (by dsimp only; omega)) (k := ?_)
              rintro q -
              rw [show toldS s on oph ⟨zg, ⟨zkind, ⟨zokind, zosrc, zodst, zoamt, zokey, zoslot, zoshard⟩, zid, zname, znn, zwhy, zslot, zepoch, zat_, zlast, A14, c14, zdata⟩⟩ ywhy prows q = toldS s on oph ⟨zg, ⟨zkind, ⟨zokind, zosrc, zodst, zoamt, zokey, zoslot, zoshard⟩, zid, zname, znn, zwhy, zslot, zepoch, zat_, zlast, zA, zc, zdata⟩⟩ ywhy prows q from rfl]
              try simp only [List.cons_append, List.nil_append]
              refine nx ?_
              refine any_next (by apply bd 10; apply bd 16; apply bd 15; apply bd 14; apply bd 13; apply bd 12; apply bd 11; apply bd 6; apply bd 5; apply bd 4; apply bd 3; apply bd 2; apply bd 1; apply bd 0; exact .nil) ?_
              refine ta 18 rfl (rd_move rfl) ?_
              refine ta 19 rfl (rd_extract rfl rfl) ?_
              refine ta 20 rfl (rd_extract rfl rfl) ?_
              refine tr 22 ?_
              first | refine r_sa row79 ?_ | refine r_sm row79 ?_
              refine nx ?_
              refine any_next (by apply bk 20 rfl (rd_extract rfl rfl); apply bd 19; apply bd 18; exact .nil) ?_
              refine ta 23 rfl (rd_assign rfl) ?_
              refine any_nil (by kernel_rfl) ?_
              refine St.then_n ?_
              exact St.sb (St.kq [(1, _), (5, _), (6, _), (7, _), (8, _), (9, _), (12, _), (13, _), (14, _), (15, _)] (h := hK6 (q, b14) trivial))
          rintro ⟨q, b14⟩ -
          dsimp only
          refine sr ?_
          refine rr (rd_move rfl) ?_
          refine rr (rd_fa rfl fld116_1) ?_
          refine rr (rd_ld rfl row2) ?_
          refine rr (rd_fa rfl fld116_2) ?_
          refine rr (rd_ld rfl row3) ?_
          refine rr (rd_ldr [_, _, _, _, _, _, _, _, _, _, _, _, _, _, _, _, _, _] rfl row30) ?_
          refine rr (rd_fa rfl fld116_4) ?_
          refine rr (rd_ldr [_, _, _, _, _, _] rfl row35) ?_
          refine rc (hs := refTold_spec _ ra2 t on oph ⟨zg, ⟨zkind, ⟨zokind, zosrc, zodst, zoamt, zokey, zoslot, zoshard⟩, zid, zname, znn, zwhy, zslot, zepoch, zat_, zlast, zA, zc, zdata⟩⟩ ⟨ywhy, ywait, ⟨pwhy, pamt, pA, pc, prows⟩, rA, rK, rdata⟩ ht3 (Vw.sep oR (by repeat (first | with_reducible exact Sel.head | apply Sel.tail))) (by dsimp only; omega)) (k := ?_)
          rintro p -
          have hTe := eqv_told hev on oph ⟨zg, ⟨zkind, ⟨zokind, zosrc, zodst, zoamt, zokey, zoslot, zoshard⟩, zid, zname, znn, zwhy, zslot, zepoch, zat_, zlast, zA, zc, zdata⟩⟩ ywhy prows q p
          rw [← hTe.2]
          try simp only [List.cons_append, List.nil_append]
          refine rr (rd_move rfl) ?_
          refine rr (rd_extract rfl rfl) ?_
          refine rr (rd_extract rfl rfl) ?_
          refine r_al zero82 fun b16 => ?_
          first | refine r_sa row82 ?_ | refine r_sm row82 ?_
          refine rr (rd_assign rfl) ?_
          refine run_nil ?_
          refine St.kp [(1, _), (5, _), (6, _), (7, _), (8, _), (13, _), (14, _), (15, _), (16, _), (17, _)] ?_
          refine St.then_n ?_
          refine do_seq ?_
          refine sr ?_
          refine rr (rd_fa rfl fld79_0) ?_
          refine rr (rd_ld rfl row3) ?_
          refine rr (rd_fa rfl fld82_0) ?_
          refine rr (rd_ld rfl row3) ?_
          refine rr ((rd_ne rfl rfl).eq (show _ = Value.bool false by simp)) ?_
          refine rr (rd_move rfl) ?_
          first | refine sk ?_ | (refine rr (rd_fa rfl fld79_3) ?_)
          first | refine sk ?_ | (refine rr (rd_ld rfl row2) ?_)
          first | refine sk ?_ | (refine rr (rd_fa rfl fld82_3) ?_)
          first | refine sk ?_ | (refine rr (rd_ld rfl row2) ?_)
          first | refine sk ?_ | (refine rr ((rd_ne rfl rfl).eq (show _ = Value.bool false by simp)) ?_)
          refine rr (rd_pick rfl rfl) ?_
          refine rr (rd_move rfl) ?_
          first | refine sk ?_ | (refine rr (rd_fa rfl fld79_1) ?_)
          first | refine sk ?_ | (refine rr (rd_ld rfl row3) ?_)
          first | refine sk ?_ | (refine rr (rd_fa rfl fld82_1) ?_)
          first | refine sk ?_ | (refine rr (rd_ld rfl row3) ?_)
          first | refine sk ?_ | (refine rr ((rd_ne rfl rfl).eq (show _ = Value.bool false by simp)) ?_)
          refine rr (rd_pick rfl rfl) ?_
          refine rr (rd_move rfl) ?_
          first | refine sk ?_ | (refine rr (rd_fa rfl fld79_4) ?_)
          first | refine sk ?_ | (refine rr (rd_ld rfl row3) ?_)
          first | refine sk ?_ | (refine rr (rd_fa rfl fld82_4) ?_)
          first | refine sk ?_ | (refine rr (rd_ld rfl row3) ?_)
          first | refine sk ?_ | (refine rr ((rd_ne rfl rfl).eq (show _ = Value.bool false by simp)) ?_)
          refine rr (rd_pick rfl rfl) ?_
          refine rr (rd_move rfl) ?_
          first | refine sk ?_ | (refine rr (rd_move rfl) ?_)
          first | refine sk ?_ | (refine rr (rd_move rfl) ?_)
          first | refine sk ?_ | (refine rr ((rd_bool_ne Try.underlying4 rfl rfl).eq (show _ = Value.bool false by simp)) ?_)
          refine rr (rd_pick rfl rfl) ?_
          refine run_nil ?_
          refine St.kp [(1, _), (5, _), (6, _), (7, _), (8, _), (13, _), (156, _), (157, _), (158, _), (159, _), (160, _), (163, _), (164, _), (165, _), (166, _), (167, _), (170, _), (171, _), (172, _), (173, _), (174, _), (177, _), (178, _), (179, _), (180, _)] ?_
          refine St.then_n ?_
          refine do_cond_f rfl ?_
          refine do_skip ?_
          refine St.then_n ?_
          refine sr ?_
          refine rr (rd_assign rfl) ?_
          refine nx ?_
          refine do_block ?_
          refine do_lp (fun y : Nat × List GRow => y.1 ≤ prows.length) (fun y => [(1, .slice (some ⟨g0, of0, none⟩) l.length c0), (5, .pointer (some ⟨r, 0, none⟩)), (6, .pointer (some ⟨ra2, 0, none⟩)), (7, .slice A7 Lst.length c7), (8, .int .i64 i), (13, .slice A13 prows.length c13), (18, .int .i64 y.1)]) (fun y => [rq (.slice A13 prows.length c13) prows.length y.2, auO r (toldS s on oph ⟨zg, ⟨zkind, ⟨zokind, zosrc, zodst, zoamt, zokey, zoslot, zoshard⟩, zid, zname, znn, zwhy, zslot, zepoch, zat_, zlast, zA, zc, zdata⟩⟩ ywhy prows q).1, raO ra2 (toldS t on oph ⟨zg, ⟨zkind, ⟨zokind, zosrc, zodst, zoamt, zokey, zoslot, zoshard⟩, zid, zname, znn, zwhy, zslot, zepoch, zat_, zlast, zA, zc, zdata⟩⟩ ywhy prows p).1, ownQ GAsk.L 30 18 (.slice A7 Lst.length c7) (List.length Lst) Lst, kept w]) (fun y => prows.length - y.1) (0, prows) (Nat.zero_le _) ?_ (hΓ := .cons (by repeat (first | exact Sel.head | apply Sel.tail)) (by repeat (first | exact Pick.nil | apply Pick.cons (by repeat (first | with_reducible exact Sel.head | apply Sel.tail)))))
          rintro ⟨j, M⟩ hj
          dsimp only at hj ⊢
          refine do_seq ?_
          refine sr ?_
          refine rr (rd_move rfl) ?_
          refine rr (rd_move rfl) ?_
          refine rr (rd_len Try.underlying31 rfl) ?_
          refine rr (rd_lt rfl rfl) ?_
          refine nx ?_
          first | refine do_condp rfl (fun h184 => ?_) (fun h184 => ?_) | refine do_cond rfl (fun h184 => ?_) (fun h184 => ?_)
          · refine St.sl (P := rq (.slice A13 prows.length c13) prows.length M) (St.Q_sl fun A13' c13' hq13 _ _ hMl => ?_)
            clear hq13
            refine St.sl (P := rq (.slice A13 prows.length c13) prows.length M) (St.Q_some (by omega) fun g13 c15 hg13 _ _ => ?_)
            cases hg13
            have hy := List.getElem?_eq_getElem (l := M) (i := j) (by omega)
            generalize M[j]'_ = y at hy
            refine do_skip ?_
            refine St.then_n ?_
            refine do_seq ?_
            refine do_block ?_
            refine do_region ?_
            refine rr (rd_move rfl) ?_
            refine rr (rd_move rfl) ?_
            refine rr (rd_indexAddr Try.underlying31 ei108 rfl rfl (by omega) (by omega)) ?_
            refine rr (rd_fa (off' := 0 + j * 2 + 1) rfl fld108_1 rfl) ?_
            refine r_stQ1 (n := prows.length) rowC_len (z := y) (z' := setAm 99 y) j 1 hy (by decide) rfl row2 rfl ?_
            refine run_nil ?_
            refine St.kp [(1, _), (5, _), (6, _), (7, _), (8, _), (13, _), (18, _)] ?_
            refine St.blk_n ?_
            refine St.then_n ?_
            refine do_region ?_
            refine rr (rd_move rfl) ?_
            refine rr (rd_addi rfl rfl) ?_
            refine rr (rd_assign rfl) ?_
            refine nx ?_
            exact loop_bk (j + 1, M.set j (setAm 99 y)) (by dsimp only; omega) (hμ := by dsimp only; omega)
          · refine do_exit ?_
            refine St.then_x ?_
            refine St.then_x ?_
            refine St.blk_s ?_
            refine St.then_n ?_
            first
              | (have hmm := hm1
                 exact St.sb (St.kq [(1, _), (5, _), (6, _), (7, _), (8, _)] (h := hK (knowS s on oph, knowS t on oph, .slice A59 Qa.length c59, Qa) ⟨by rw [knowS_len]; exact hs3, eqv_know hev on oph, ⟨hQ3, hQi⟩, by have := know_rows s on oph; dsimp only; omega⟩)))
              | (have hmm := hm4
                 exact St.sb (St.kq [(1, _), (5, _), (6, _), (7, _), (8, _)] (h := hK ((toldS s on oph ⟨zg, ⟨zkind, ⟨zokind, zosrc, zodst, zoamt, zokey, zoslot, zoshard⟩, zid, zname, znn, zwhy, zslot, zepoch, zat_, zlast, zA, zc, zdata⟩⟩ ywhy prows q).1, (toldS t on oph ⟨zg, ⟨zkind, ⟨zokind, zosrc, zodst, zoamt, zokey, zoslot, zoshard⟩, zid, zname, znn, zwhy, zslot, zepoch, zat_, zlast, zA, zc, zdata⟩⟩ ywhy prows p).1, .slice A7 Lst.length c7, Lst) ⟨by rw [told_len]; exact hs3, hTe.1, hP, by have := told_rows s on oph ⟨zg, ⟨zkind, ⟨zokind, zosrc, zodst, zoamt, zokey, zoslot, zoshard⟩, zid, zname, znn, zwhy, zslot, zepoch, zat_, zlast, zA, zc, zdata⟩⟩ ywhy prows q; dsimp only; omega⟩)))
              | (have hmm := hm5
                 exact St.sb (St.kq [(1, _), (5, _), (6, _), (7, _), (8, _)] (h := hK (s, t, .slice A7 Lst.length c7, Lst) ⟨hs3, hev, hP, by dsimp only; omega⟩)))
        · have hm5 := True.intro
          refine do_skip ?_
          refine St.then_n ?_
          first
            | (have hmm := hm1
               exact St.sb (St.kq [(1, _), (5, _), (6, _), (7, _), (8, _)] (h := hK (knowS s on oph, knowS t on oph, .slice A59 Qa.length c59, Qa) ⟨by rw [knowS_len]; exact hs3, eqv_know hev on oph, ⟨hQ3, hQi⟩, by have := know_rows s on oph; dsimp only; omega⟩)))
            | (have hmm := hm4
               exact St.sb (St.kq [(1, _), (5, _), (6, _), (7, _), (8, _)] (h := hK ((toldS s on oph ⟨zg, ⟨zkind, ⟨zokind, zosrc, zodst, zoamt, zokey, zoslot, zoshard⟩, zid, zname, znn, zwhy, zslot, zepoch, zat_, zlast, zA, zc, zdata⟩⟩ ywhy prows q).1, (toldS t on oph ⟨zg, ⟨zkind, ⟨zokind, zosrc, zodst, zoamt, zokey, zoslot, zoshard⟩, zid, zname, znn, zwhy, zslot, zepoch, zat_, zlast, zA, zc, zdata⟩⟩ ywhy prows p).1, .slice A7 Lst.length c7, Lst) ⟨by rw [told_len]; exact hs3, hTe.1, hP, by have := told_rows s on oph ⟨zg, ⟨zkind, ⟨zokind, zosrc, zodst, zoamt, zokey, zoslot, zoshard⟩, zid, zname, znn, zwhy, zslot, zepoch, zat_, zlast, zA, zc, zdata⟩⟩ ywhy prows q; dsimp only; omega⟩)))
            | (have hmm := hm5
               exact St.sb (St.kq [(1, _), (5, _), (6, _), (7, _), (8, _)] (h := hK (s, t, .slice A7 Lst.length c7, Lst) ⟨hs3, hev, hP, by dsimp only; omega⟩)))
    rintro ⟨s2, t2, v72, L2⟩ ⟨hs23, hev2, hP2, hsum2⟩
    dsimp only at hs23 hev2 hP2 hsum2 ⊢
    have ht23 : t2.L.length ≤ 3 := by rw [← sim_len hev2.2.2.2]; exact hs23
    obtain ⟨M, hM⟩ : ∃ M, (if s2.all then isort (allRows s2.L) else []) = M := ⟨_, rfl⟩
    have hML : (if s2.all then (allRows s2.L).length else 0) = M.length := by rw [← hM]; split <;> simp [isort_len]
    have hMb : M.length ≤ 1099511627776 := by rw [← hML]; split <;> omega
    refine St.blk_n ?_
    refine St.then_n ?_
    refine sr ?_
    refine rr (rd_move rfl) ?_
    refine rc (hs := auRows_spec _ r s2 hs23 (by omega)) (k := ?_)
    rintro v19 -
    rw [hM, hML]
    simp only [List.cons_append, List.nil_append]
    refine St.sl (P := rq v19 M.length M) (St.Q_sl fun A19 c19 hv19 _ _ _ => ?_)
    subst hv19
    try simp only [List.cons_append, List.nil_append]
    refine rr (rd_move rfl) ?_
    refine rr (rd_extract rfl rfl) ?_
    refine rr (rd_extract rfl rfl) ?_
    refine rr (rd_assign rfl) ?_
    refine rr (rd_assign rfl) ?_
    refine run_nil ?_
    refine St.kp [(1, _), (5, _), (6, _), (7, _), (8, _), (19, _), (20, _)] ?_
    refine St.then_n ?_
    refine sr ?_
    refine rr (rd_move rfl) ?_
    refine rc (hs := refRows_spec _ ra2 t2 ht23 (by rw [← sim_rows hev2.2.2.2]; omega)) (k := ?_)
    rintro v21 -
    rw [← sim_rows hev2.2.2.2, ← hev2.2.2.1, hM, hML]
    simp only [List.cons_append, List.nil_append]
    refine St.sl (P := rq v21 M.length M) (St.Q_sl fun A21 c21 hv21 _ _ _ => ?_)
    subst hv21
    try simp only [List.cons_append, List.nil_append]
    refine rr (rd_move rfl) ?_
    refine rr (rd_extract rfl rfl) ?_
    refine rr (rd_extract rfl rfl) ?_
    refine rr (rd_assign rfl) ?_
    refine rr (rd_assign rfl) ?_
    refine run_nil ?_
    refine St.kp [(1, _), (5, _), (6, _), (7, _), (8, _), (19, _), (20, _), (21, _), (22, _)] ?_
    refine St.then_n ?_
    refine do_seq ?_
    refine sr ?_
    refine rr (rd_move rfl) ?_
    refine rr (rd_move rfl) ?_
    refine rc (hs := sameRows_spec _ A19 A21 c19 c21 M (Vw.sep vw_Q (by repeat (first | with_reducible exact Sel.head | apply Sel.tail))) (Vw.sep vw_Q (by repeat (first | with_reducible exact Sel.head | apply Sel.tail)))) (k := ?_)
    rintro ⟨⟩ -
    try simp only [List.cons_append, List.nil_append]
    refine rr (rd_not rfl) ?_
    refine rr (rd_move rfl) ?_
    first | refine sk ?_ | (refine rr (rd_move rfl) ?_)
    first | refine sk ?_ | (refine rr (rd_move rfl) ?_)
    first | refine sk ?_ | (refine rr ((rd_bool_ne Try.underlying4 rfl rfl).eq (show _ = Value.bool false by simp)) ?_)
    refine rr (rd_pick rfl rfl) ?_
    refine rr (rd_move rfl) ?_
    first | refine sk ?_ | (refine rr (rd_move rfl) ?_)
    first
      | refine sk ?_
      | (refine rc (hs := auLeft_spec _ r s2 hs23) (k := ?_)
         rintro ⟨⟩ -
         try simp only [List.cons_append, List.nil_append])
    first | refine sk ?_ | (refine rr (rd_move rfl) ?_)
    first
      | refine sk ?_
      | (refine rc (hs := refLeft_spec _ ra2 t2 ht23) (k := ?_)
         rintro ⟨⟩ -
         rw [← sim_left hev2.2.2.2]
         try simp only [List.cons_append, List.nil_append])
    first | refine sk ?_ | (refine rr ((rd_ne rfl rfl).eq (show _ = Value.bool false by simp)) ?_)
    refine rr (rd_pick rfl rfl) ?_
    refine run_nil ?_
    refine St.kp [(1, _), (5, _), (6, _), (7, _), (8, _), (19, _), (206, _), (207, _), (208, _), (211, _), (212, _), (213, _), (214, _), (215, _), (216, _)] ?_
    refine St.then_n ?_
    refine do_cond_f rfl ?_
    refine do_skip ?_
    refine St.then_n ?_
    refine sr ?_
    refine rr (rd_assign rfl) ?_
    refine nx ?_
    refine do_block ?_
    refine do_lp (fun y : Nat × List GRow => y.1 ≤ M.length) (fun y => [(1, .slice (some ⟨g0, of0, none⟩) l.length c0), (5, .pointer (some ⟨r, 0, none⟩)), (6, .pointer (some ⟨ra2, 0, none⟩)), (7, v72), (8, .int .i64 i), (19, .slice A19 M.length c19), (23, .int .i64 y.1)]) (fun y => [rq (.slice A19 M.length c19) M.length y.2, auO r s2, raO ra2 t2, ownQ GAsk.L 30 18 v72 (List.length L2) L2, kept w]) (fun y => M.length - y.1) (0, M) (Nat.zero_le _) ?_ (hΓ := .cons (by repeat (first | exact Sel.head | apply Sel.tail)) (by repeat (first | exact Pick.nil | apply Pick.cons (by repeat (first | with_reducible exact Sel.head | apply Sel.tail)))))
    rintro ⟨j, M4⟩ hj
    dsimp only at hj ⊢
    refine do_seq ?_
    refine sr ?_
    refine rr (rd_move rfl) ?_
    refine rr (rd_move rfl) ?_
    refine rr (rd_len Try.underlying31 rfl) ?_
    refine rr (rd_lt rfl rfl) ?_
    refine nx ?_
    first | refine do_condp rfl (fun h220 => ?_) (fun h220 => ?_) | refine do_cond rfl (fun h220 => ?_) (fun h220 => ?_)
    · refine St.sl (P := rq (.slice A19 M.length c19) M.length M4) (St.Q_sl fun A13' c13' hq13 _ _ hMl => ?_)
      clear hq13
      refine St.sl (P := rq (.slice A19 M.length c19) M.length M4) (St.Q_some (by omega) fun g13 c15 hg13 _ _ => ?_)
      cases hg13
      have hy := List.getElem?_eq_getElem (l := M4) (i := j) (by omega)
      generalize M4[j]'_ = y at hy
      refine do_skip ?_
      refine St.then_n ?_
      refine do_seq ?_
      refine do_block ?_
      refine do_region ?_
      refine rr (rd_move rfl) ?_
      refine rr (rd_move rfl) ?_
      refine rr (rd_indexAddr Try.underlying31 ei108 rfl rfl (by omega) (by omega)) ?_
      refine rr (rd_fa (off' := 0 + j * 2 + 1) rfl fld108_1 rfl) ?_
      refine r_stQ1 (n := M.length) rowC_len (z := y) (z' := setAm 98 y) j 1 hy (by decide) rfl row2 rfl ?_
      refine run_nil ?_
      refine St.kp [(1, _), (5, _), (6, _), (7, _), (8, _), (19, _), (23, _)] ?_
      refine St.blk_n ?_
      refine St.then_n ?_
      refine do_region ?_
      refine rr (rd_move rfl) ?_
      refine rr (rd_addi rfl rfl) ?_
      refine rr (rd_assign rfl) ?_
      refine nx ?_
      exact loop_bk (j + 1, M4.set j (setAm 98 y)) (by dsimp only; omega) (hμ := by dsimp only; omega)
    · refine do_exit ?_
      refine St.then_x ?_
      refine St.then_x ?_
      refine St.blk_s ?_
      refine St.blk_n ?_
      refine St.then_n ?_
      refine do_region ?_
      refine rr (rd_move rfl) ?_
      refine rr (rd_addi rfl rfl) ?_
      refine rr (rd_assign rfl) ?_
      refine run_nil ?_
      refine St.kp [(1, _), (5, _), (6, _), (7, _), (8, _)] ?_
      refine St.then_n ?_
      exact loop_bk (i + 1, s2, t2, v72, L2) ⟨by dsimp only; omega, by dsimp only; omega, hs23, hev2, hP2, hsum2⟩ (hμ := by dsimp only; omega)
  · refine do_exit ?_
    refine St.then_x ?_
    refine St.then_x ?_
    refine St.blk_s ?_
    refine St.then_n ?_
    refine sr ?_
    refine rc (hs := known17_spec _) (k := ?_)
    rintro ⟨⟩ -
    try simp only [List.cons_append, List.nil_append]
    refine rr (rd_assign rfl) ?_
    refine run_nil ?_
    refine St.kp [(4, _)] ?_
    refine St.then_n ?_
    refine do_ret ?_
    refine do_ret1 Try.results9 (res_tmp rfl) ?_
    intro w hw
    exact ⟨rfl, hw.to_fr (by repeat (first | with_reducible exact Sel.head | apply Sel.tail))⟩
end Go.Proofs.Ytglcmlicfmmlpaa
