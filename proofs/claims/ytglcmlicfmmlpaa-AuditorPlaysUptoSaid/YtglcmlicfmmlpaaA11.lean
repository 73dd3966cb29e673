/-
  What an auditor asks: the iterator; the law's list of it.
  What an auditor asks, as a list.
  What must come of fixed calls of an auditor.
  The law AuditorNil: an auditor that is not there answers so.
-/
import Derived.Test.YtglcmlicfmmlpaaA10
import Derived.Test.YtglcmlicfmmlpaaD1
namespace Go.Proofs.Ytglcmlicfmmlpaa
open Go.RowKit
set_option linter.unusedSimpArgs false
set_option linter.unusedVariables false

/-- An ask of the auditor. -/
def askC (g k n : Int) : GAsk := ⟨g, { noCmd with kind := k, epoch := n }⟩
def askL (k n : Int) : Nat → List One → List GAsk
  | _, [] => []
  | i, x :: l => if 0 < k ∧ x.is_ = false then askC (i + 1) k n :: askL k n (i + 1) l else askL k n (i + 1) l
theorem askL_no (k n : Int) (hk : ¬ 0 < k) : ∀ (l : List One) (i : Nat), askL k n i l = []
  | [], _ => rfl
  | x :: l, i => by rw [askL, if_neg (fun h => hk h.1), askL_no k n hk l]
theorem askL_app (k n : Int) : ∀ (l m : List One) (i : Nat), askL k n i (l ++ m) = askL k n i l ++ askL k n (i + l.length) m
  | [], m, i => by simp [askL]
  | x :: l, m, i => by
    rw [List.cons_append, askL, askL]
    have := askL_app k n l m (i + 1)
    rw [List.length_cons, show i + (l.length + 1) = i + 1 + l.length by omega]
    split
    · rw [this]; rfl
    · exact this
theorem askL_len (k n : Int) : ∀ (l : List One) (i : Nat), (askL k n i l).length ≤ l.length
  | [], _ => Nat.le_refl _
  | x :: l, i => by
    have := askL_len k n l (i + 1)
    rw [askL]
    split <;> simp <;> omega
def askAll (s : AuS) (n ph : Int) : List GAsk := askL (kindP ph) n 0 (knowS s n ph).L
/-- The cells of the captured arguments. -/
def capO (c1 c2 c3 r : Nat) (n ph : Int) : List HP := [pts c1 111 [.pointer (some ⟨r, 0, none⟩)], pts c2 2 [.int .i64 n], pts c3 3 [.int .i64 ph]]
set_option maxHeartbeats 2000000 in
theorem asks_iter (c1 c2 c3 r g N : Nat) (s : AuS) (n ph : Int) (hs : s.L.length ≤ 3) (hN : N = s.L.length) (F0 : HP) :
    IterX Try.prog 130 [.pointer (some ⟨c1, 0, none⟩), .pointer (some ⟨c2, 0, none⟩), .pointer (some ⟨c3, 0, none⟩)]
      (Sep (auG r g N s ++ capO c1 c2 c3 r n ph)) (Sep (auG r g N (knowS s n ph) ++ capO c1 c2 c3 r n ph)) (fun i vs => ∃ x, (askAll s n ph)[i]? = some x ∧ vs = [.agg x.L.toArray]) (fun _ _ => Sep []) (fun i => i = (askAll s n ph).length) F0 := by
  intro ω l J Jx w hy hh
  have hh2 : Holds ω [pts r 162 [.int .i64 s.n, .int .i64 s.phase, .bool s.all, .slice (some ⟨g, 0, none⟩) N N], ownQ oneC 170 2 (.slice (some ⟨g, 0, none⟩) N N) N s.L, rowsAll s.L, pts c1 111 [.pointer (some ⟨r, 0, none⟩)], pts c2 2 [.int .i64 n], pts c3 3 [.int .i64 ph], J 0, F0] w := by
    have h1 := (hh.perm (List.Perm.swap ..))
    have h2 : Holds ω ((auG r g N s ++ capO c1 c2 c3 r n ph) ++ [J 0, F0]) w := Holds.flat.1 h1
    exact h2
  refine enter Try.func130 rfl Try.ntmps130 rfl hh2 ?_
  simp only [argsB]
  obtain ⟨k, hk⟩ : ∃ k, kindP ph = k := ⟨_, rfl⟩
  unfold askAll at hy ⊢
  rw [hk] at hy ⊢
  have hkl := knowS_len s n ph
  obtain ⟨s1, hs1⟩ : ∃ s1, knowS s n ph = s1 := ⟨_, rfl⟩
  rw [hs1] at hy hkl ⊢
  obtain ⟨sn, sp, sa, L⟩ := s1
  dsimp only at hkl hy ⊢
  rw [← hkl] at hN
  refine do_seq ?_
  refine sr ?_
  refine rr (rd_ld rfl row111) ?_
  refine rr (rd_ptr_eq_nil Try.underlying111 rfl rfl) ?_
  refine nx ?_
  refine do_cond_f rfl ?_
  refine do_skip ?_
  refine St.then_n ?_
  refine sr ?_
  refine rr (rd_ld rfl row111) ?_
  refine rr (rd_ld rfl row2) ?_
  refine rr (rd_ld rfl row3) ?_
  refine rc (hs := know_specG _ r g N s n ph hs (hN.trans hkl)) (k := ?_)
  rintro ⟨⟩ -
  rw [hs1]
  simp only [auG]
  try simp only [List.cons_append, List.nil_append]
  refine run_nil ?_
  refine St.kp [(0, _), (1, _), (2, _), (3, _)] ?_
  refine St.then_n ?_
  refine sr ?_
  refine rr (rd_ld rfl row3) ?_
  refine rc (hs := kind_spec _ ph) (k := ?_)
  rintro ⟨⟩ -
  rw [hk]
  try simp only [List.cons_append, List.nil_append]
  refine rr (rd_assign rfl) ?_
  refine nx ?_
  refine sr ?_
  refine rr (rd_ld rfl row111) ?_
  refine rr (rd_nilCheck rfl) ?_
  refine rr (rd_fa rfl fld162_3) ?_
  refine rr (rd_ld rfl row160) ?_
  refine rr (rd_len Try.underlying160 rfl) ?_
  refine rr (rd_move rfl) ?_
  refine run_nil ?_
  refine St.kp [(0, _), (2, _), (5, _), (19, _), (20, _), (21, _)] ?_
  refine St.then_n ?_
  refine do_block ?_
  refine do_lp (fun i : Nat => i ≤ N) (fun i => [(0, .func (.yield l) #[] #[]), (2, .pointer (some ⟨c2, 0, none⟩)), (5, .int .i64 k), (19, .slice (some ⟨g, 0, none⟩) N N), (20, .int .i64 N), (21, .int .i64 i)]) (fun i => [J (askL k n 0 (L.take i)).length, pts r 162 [.int .i64 sn, .int .i64 sp, .bool sa, .slice (some ⟨g, 0, none⟩) N N], ownQ oneC 170 2 (.slice (some ⟨g, 0, none⟩) N N) N L, rowsAll L, pts c1 111 [.pointer (some ⟨r, 0, none⟩)], pts c2 2 [.int .i64 n], pts c3 3 [.int .i64 ph], F0]) (fun i => N - i) 0 (Nat.zero_le _) ?_ (hΓ := .cons (by repeat (first | exact Sel.head | apply Sel.tail)) (by repeat (first | exact Pick.nil | apply Pick.cons (by repeat (first | with_reducible exact Sel.head | apply Sel.tail)))))
  intro i hi
  refine sr ?_
  refine rr (rd_lt rfl rfl) ?_
  refine nx ?_
  refine do_seq ?_
  first | refine do_condp rfl (fun h22 => ?_) (fun h22 => ?_) | refine do_cond rfl (fun h22 => ?_) (fun h22 => ?_)
  · have hx := List.getElem?_eq_getElem (l := L) (i := i) (by omega)
    have hdr := List.drop_eq_getElem_cons (l := L) (i := i) (by omega)
    generalize L[i]'_ = x at hx hdr
    have htk := take_get hx
    have hil : (L.take i).length = i := by rw [List.length_take]; omega
    have hstep : askL k n 0 (L.take (i + 1)) = askL k n 0 (L.take i) ++ askL k n i [x] := by rw [htk, askL_app, hil, Nat.zero_add]
    have hall : askL k n 0 L = askL k n 0 (L.take i) ++ askL k n i (x :: L.drop (i + 1)) := by
      conv => lhs; rw [← List.take_append_drop i L, askL_app, hil, Nat.zero_add, hdr]
    obtain ⟨is_, xA, xc, xrows⟩ := x
    refine do_skip ?_
    refine St.then_n ?_
    refine do_seq ?_
    refine do_block ?_
    refine sr ?_
    refine rr (rd_move rfl) ?_
    refine rr (rd_indexAddr Try.underlying160 ei170 rfl rfl (by omega) (by omega)) ?_
    refine rr (rd_ldr _ rfl row170 (cells_Q oneC_len hx)) ?_
    refine r_al zero170 fun b7 => ?_
    refine rr (rd_assign rfl) ?_
    first | refine r_sa row170 ?_ | refine r_sm row170 ?_
    refine run_nil ?_
    refine St.kp [(0, _), (2, _), (5, _), (6, _), (7, _), (19, _), (20, _), (21, _)] ?_
    refine St.then_n ?_
    refine do_seq ?_
    refine do_cutQ (fun _ : Bool => True) (fun z => [(0, .func (.yield l) #[] #[]), (2, .pointer (some ⟨c2, 0, none⟩)), (5, .int .i64 k), (19, .slice (some ⟨g, 0, none⟩) N N), (20, .int .i64 N), (21, .int .i64 i), (43, .bool z)]) (fun z => match z with | true => [Jx, F0] | false => [J (askL k n 0 (L.take (i + 1))).length, pts r 162 [.int .i64 sn, .int .i64 sp, .bool sa, .slice (some ⟨g, 0, none⟩) N N], ownQ oneC 170 2 (.slice (some ⟨g, 0, none⟩) N N) N L, rowsAll L, pts c1 111 [.pointer (some ⟨r, 0, none⟩)], pts c2 2 [.int .i64 n], pts c3 3 [.int .i64 ph], F0]) (fun K hK => ?_) ?_
    · rcases (show (¬ 0 < k) ∨ (0 < k ∧ is_ = true) ∨ (0 < k ∧ is_ = false) by cases is_ <;> simp <;> omega) with hA | hA | hA
      · refine do_region ?_
        refine rr (rd_move rfl) ?_
        first | refine rr ((rd_gt rfl rfl).eq (congrArg Value.bool (decide_eq_false (by omega)))) ?_ | refine rr ((rd_gt rfl rfl).eq (congrArg Value.bool (decide_eq_true (by omega)))) ?_
        refine rr (rd_move rfl) ?_
        first | refine sk ?_ | (refine rr (rd_fa rfl fld170_0) ?_)
        first | refine sk ?_ | (refine rr (rd_ld rfl row4) ?_)
        first | refine sk ?_ | (first | refine rr ((rd_not rfl).eq (congrArg (fun b => Value.bool (!b)) (show is_ = true from hA.2))) ?_ | refine rr ((rd_not rfl).eq (congrArg (fun b => Value.bool (!b)) (show is_ = false from hA.2))) ?_)
        refine rr (rd_pick rfl rfl) ?_
        refine rr (rd_move rfl) ?_
        first | refine sk ?_ | (refine rr (rd_move rfl) ?_)
        first | refine sk ?_ | (refine rr (rd_move rfl) ?_)
        first | refine sk ?_ | (refine rr (rd_addi rfl rfl) ?_)
        first | refine sk ?_ | (refine rr (rd_move rfl) ?_)
        first | refine sk ?_ | (refine rr (rd_ld rfl row2) ?_)
        first | refine sk ?_ | (refine rr (rd_bd [_, _, _, _, _, _, _, _, _, _, _, _, _, _, _, _, _] zero47 plc47) ?_)
        first | refine sk ?_ | (refine rr (rd_bd [_, _, _, _, _, _, _, _, _, _, _, _, _, _, _, _, _, _] zero49 plc49) ?_)
        first
          | refine sk ?_
          | (refine St.unflat (Γ := []) ?_
             refine St.pack (Ps := auG r g N ⟨sn, sp, sa, L⟩ ++ capO c1 c2 c3 r n ph) (by unfold capO; simp only [List.cons_append, List.nil_append]; repeat (first | exact Pick.nil | apply Pick.cons (by repeat (first | with_reducible exact Sel.head | apply Sel.tail)))) ?_
             refine run_yieldB (vs := [.agg (GAsk.L (askC (i + 1) k n)).toArray]) rfl (by decide) rfl rfl hy (askL k n 0 (L.take i)).length ⟨askC (i + 1) k n, by rw [hall, List.getElem?_append_right (Nat.le_refl _), Nat.sub_self, askL, if_pos hA]; rfl, rfl⟩ (by repeat (first | exact Pick.nil | apply Pick.cons (by repeat (first | with_reducible exact Sel.head | apply Sel.tail)))) (fun b => ?_))
        first | refine sk ?_ | (refine rr (rd_not rfl) ?_)
        refine rr (rd_pick rfl rfl) ?_
        refine run_nil ?_
        refine St.kp [(0, _), (2, _), (5, _), (19, _), (20, _), (21, _), (29, _), (30, _), (31, _), (34, _), (35, _), (36, _), (37, _), (38, _), (39, _), (40, _), (41, _), (42, _), (43, _)] ?_
        refine St.then_n ?_
        first
          | exact St.sb (St.kq [(0, _), (2, _), (5, _), (19, _), (20, _), (21, _), (43, _)] (h := hK false trivial)) (p := by rw [show (askL k n 0 (L.take (i + 1))).length = (askL k n 0 (L.take i)).length by rw [hstep, askL, if_neg (fun h => by first | exact hA h.1 | exact absurd (hA.2.symm.trans h.2) (by decide))]; simp [askL]]; repeat (first | exact Pick.nil | apply Pick.cons (by repeat (first | with_reducible exact Sel.head | apply Sel.tail))))
          | (cases b
             · exact St.sb (St.kq [(0, _), (2, _), (5, _), (19, _), (20, _), (21, _), (43, _)] (h := hK true trivial)) (p := by simp only [yP]; repeat (first | exact Pick.nil | apply Pick.cons (by repeat (first | with_reducible exact Sel.head | apply Sel.tail))))
             · simp only [yP]
               refine St.flat ?_
               simp only [List.cons_append, List.nil_append]
               refine St.sel (P := Sep (auG r g N ⟨sn, sp, sa, L⟩ ++ capO c1 c2 c3 r n ph)) (.tail .head) (St.flat ?_)
               unfold capO
               simp only [List.cons_append, List.nil_append]
               exact St.sb (St.kq [(0, _), (2, _), (5, _), (19, _), (20, _), (21, _), (43, _)] (h := hK false trivial)) (p := by rw [show (askL k n 0 (L.take (i + 1))).length = (askL k n 0 (L.take i)).length + 1 by rw [hstep, askL, if_pos hA]; simp [askL]]; repeat (first | exact Pick.nil | apply Pick.cons (by repeat (first | with_reducible exact Sel.head | apply Sel.tail)))))
      · refine do_region ?_
        refine rr (rd_move rfl) ?_
        first | refine rr ((rd_gt rfl rfl).eq (congrArg Value.bool (decide_eq_false (by omega)))) ?_ | refine rr ((rd_gt rfl rfl).eq (congrArg Value.bool (decide_eq_true (by omega)))) ?_
        refine rr (rd_move rfl) ?_
        first | refine sk ?_ | (refine rr (rd_fa rfl fld170_0) ?_)
        first | refine sk ?_ | (refine rr (rd_ld rfl row4) ?_)
        first | refine sk ?_ | (first | refine rr ((rd_not rfl).eq (congrArg (fun b => Value.bool (!b)) (show is_ = true from hA.2))) ?_ | refine rr ((rd_not rfl).eq (congrArg (fun b => Value.bool (!b)) (show is_ = false from hA.2))) ?_)
        refine rr (rd_pick rfl rfl) ?_
        refine rr (rd_move rfl) ?_
        first | refine sk ?_ | (refine rr (rd_move rfl) ?_)
        first | refine sk ?_ | (refine rr (rd_move rfl) ?_)
        first | refine sk ?_ | (refine rr (rd_addi rfl rfl) ?_)
        first | refine sk ?_ | (refine rr (rd_move rfl) ?_)
        first | refine sk ?_ | (refine rr (rd_ld rfl row2) ?_)
        first | refine sk ?_ | (refine rr (rd_bd [_, _, _, _, _, _, _, _, _, _, _, _, _, _, _, _, _] zero47 plc47) ?_)
        first | refine sk ?_ | (refine rr (rd_bd [_, _, _, _, _, _, _, _, _, _, _, _, _, _, _, _, _, _] zero49 plc49) ?_)
        first
          | refine sk ?_
          | (refine St.unflat (Γ := []) ?_
             refine St.pack (Ps := auG r g N ⟨sn, sp, sa, L⟩ ++ capO c1 c2 c3 r n ph) (by unfold capO; simp only [List.cons_append, List.nil_append]; repeat (first | exact Pick.nil | apply Pick.cons (by repeat (first | with_reducible exact Sel.head | apply Sel.tail)))) ?_
             refine run_yieldB (vs := [.agg (GAsk.L (askC (i + 1) k n)).toArray]) rfl (by decide) rfl rfl hy (askL k n 0 (L.take i)).length ⟨askC (i + 1) k n, by rw [hall, List.getElem?_append_right (Nat.le_refl _), Nat.sub_self, askL, if_pos hA]; rfl, rfl⟩ (by repeat (first | exact Pick.nil | apply Pick.cons (by repeat (first | with_reducible exact Sel.head | apply Sel.tail)))) (fun b => ?_))
        first | refine sk ?_ | (refine rr (rd_not rfl) ?_)
        refine rr (rd_pick rfl rfl) ?_
        refine run_nil ?_
        refine St.kp [(0, _), (2, _), (5, _), (19, _), (20, _), (21, _), (29, _), (30, _), (31, _), (34, _), (35, _), (36, _), (37, _), (38, _), (39, _), (40, _), (41, _), (42, _), (43, _)] ?_
        refine St.then_n ?_
        first
          | exact St.sb (St.kq [(0, _), (2, _), (5, _), (19, _), (20, _), (21, _), (43, _)] (h := hK false trivial)) (p := by rw [show (askL k n 0 (L.take (i + 1))).length = (askL k n 0 (L.take i)).length by rw [hstep, askL, if_neg (fun h => by first | exact hA h.1 | exact absurd (hA.2.symm.trans h.2) (by decide))]; simp [askL]]; repeat (first | exact Pick.nil | apply Pick.cons (by repeat (first | with_reducible exact Sel.head | apply Sel.tail))))
          | (cases b
             · exact St.sb (St.kq [(0, _), (2, _), (5, _), (19, _), (20, _), (21, _), (43, _)] (h := hK true trivial)) (p := by simp only [yP]; repeat (first | exact Pick.nil | apply Pick.cons (by repeat (first | with_reducible exact Sel.head | apply Sel.tail))))
             · simp only [yP]
               refine St.flat ?_
               simp only [List.cons_append, List.nil_append]
               refine St.sel (P := Sep (auG r g N ⟨sn, sp, sa, L⟩ ++ capO c1 c2 c3 r n ph)) (.tail .head) (St.flat ?_)
               unfold capO
               simp only [List.cons_append, List.nil_append]
               exact St.sb (St.kq [(0, _), (2, _), (5, _), (19, _), (20, _), (21, _), (43, _)] (h := hK false trivial)) (p := by rw [show (askL k n 0 (L.take (i + 1))).length = (askL k n 0 (L.take i)).length + 1 by rw [hstep, askL, if_pos hA]; simp [askL]]; repeat (first | exact Pick.nil | apply Pick.cons (by repeat (first | with_reducible exact Sel.head | apply Sel.tail)))))
      · refine do_region ?_
        refine rr (rd_move rfl) ?_
        first | refine rr ((rd_gt rfl rfl).eq (congrArg Value.bool (decide_eq_false (by omega)))) ?_ | refine rr ((rd_gt rfl rfl).eq (congrArg Value.bool (decide_eq_true (by omega)))) ?_
        refine rr (rd_move rfl) ?_
        first | refine sk ?_ | (refine rr (rd_fa rfl fld170_0) ?_)
        first | refine sk ?_ | (refine rr (rd_ld rfl row4) ?_)
        first | refine sk ?_ | (first | refine rr ((rd_not rfl).eq (congrArg (fun b => Value.bool (!b)) (show is_ = true from hA.2))) ?_ | refine rr ((rd_not rfl).eq (congrArg (fun b => Value.bool (!b)) (show is_ = false from hA.2))) ?_)
        refine rr (rd_pick rfl rfl) ?_
        refine rr (rd_move rfl) ?_
        first | refine sk ?_ | (refine rr (rd_move rfl) ?_)
        first | refine sk ?_ | (refine rr (rd_move rfl) ?_)
        first | refine sk ?_ | (refine rr (rd_addi rfl rfl) ?_)
        first | refine sk ?_ | (refine rr (rd_move rfl) ?_)
        first | refine sk ?_ | (refine rr (rd_ld rfl row2) ?_)
        first | refine sk ?_ | (refine rr (rd_bd [_, _, _, _, _, _, _, _, _, _, _, _, _, _, _, _, _] zero47 plc47) ?_)
        first | refine sk ?_ | (refine rr (rd_bd [_, _, _, _, _, _, _, _, _, _, _, _, _, _, _, _, _, _] zero49 plc49) ?_)
        first
          | refine sk ?_
          | (refine St.unflat (Γ := []) ?_
             refine St.pack (Ps := auG r g N ⟨sn, sp, sa, L⟩ ++ capO c1 c2 c3 r n ph) (by unfold capO; simp only [List.cons_append, List.nil_append]; repeat (first | exact Pick.nil | apply Pick.cons (by repeat (first | with_reducible exact Sel.head | apply Sel.tail)))) ?_
             refine run_yieldB (vs := [.agg (GAsk.L (askC (i + 1) k n)).toArray]) rfl (by decide) rfl rfl hy (askL k n 0 (L.take i)).length ⟨askC (i + 1) k n, by rw [hall, List.getElem?_append_right (Nat.le_refl _), Nat.sub_self, askL, if_pos hA]; rfl, rfl⟩ (by repeat (first | exact Pick.nil | apply Pick.cons (by repeat (first | with_reducible exact Sel.head | apply Sel.tail)))) (fun b => ?_))
        first | refine sk ?_ | (refine rr (rd_not rfl) ?_)
        refine rr (rd_pick rfl rfl) ?_
        refine run_nil ?_
        refine St.kp [(0, _), (2, _), (5, _), (19, _), (20, _), (21, _), (29, _), (30, _), (31, _), (34, _), (35, _), (36, _), (37, _), (38, _), (39, _), (40, _), (41, _), (42, _), (43, _)] ?_
        refine St.then_n ?_
        first
          | exact St.sb (St.kq [(0, _), (2, _), (5, _), (19, _), (20, _), (21, _), (43, _)] (h := hK false trivial)) (p := by rw [show (askL k n 0 (L.take (i + 1))).length = (askL k n 0 (L.take i)).length by rw [hstep, askL, if_neg (fun h => by first | exact hA h.1 | exact absurd (hA.2.symm.trans h.2) (by decide))]; simp [askL]]; repeat (first | exact Pick.nil | apply Pick.cons (by repeat (first | with_reducible exact Sel.head | apply Sel.tail))))
          | (cases b
             · exact St.sb (St.kq [(0, _), (2, _), (5, _), (19, _), (20, _), (21, _), (43, _)] (h := hK true trivial)) (p := by simp only [yP]; repeat (first | exact Pick.nil | apply Pick.cons (by repeat (first | with_reducible exact Sel.head | apply Sel.tail))))
             · simp only [yP]
               refine St.flat ?_
               simp only [List.cons_append, List.nil_append]
               refine St.sel (P := Sep (auG r g N ⟨sn, sp, sa, L⟩ ++ capO c1 c2 c3 r n ph)) (.tail .head) (St.flat ?_)
               unfold capO
               simp only [List.cons_append, List.nil_append]
               exact St.sb (St.kq [(0, _), (2, _), (5, _), (19, _), (20, _), (21, _), (43, _)] (h := hK false trivial)) (p := by rw [show (askL k n 0 (L.take (i + 1))).length = (askL k n 0 (L.take i)).length + 1 by rw [hstep, askL, if_pos hA]; simp [askL]]; repeat (first | exact Pick.nil | apply Pick.cons (by repeat (first | with_reducible exact Sel.head | apply Sel.tail)))))
    rintro z -
    first | refine do_condp rfl (fun h43 => ?_) (fun h43 => ?_) | refine do_cond rfl (fun h43 => ?_) (fun h43 => ?_)
    · subst h43
      refine do_ret ?_
      refine St.blk_r ?_
      refine St.then_r ?_
      refine St.then_r ?_
      refine St.blk_r ?_
      refine do_ret0 Try.results130 ?_
      intro w hw
      exact ⟨⟨_, rfl⟩, .inr hw⟩
    · subst h43
      refine do_skip ?_
      refine St.blk_n ?_
      refine St.then_n ?_
      refine do_region ?_
      refine rr (rd_addi rfl rfl) ?_
      refine rr (rd_move rfl) ?_
      refine nx ?_
      exact loop_bk (i + 1) (by omega) (hμ := by omega)
  · refine do_exit ?_
    refine St.then_x ?_
    refine St.then_x ?_
    refine St.blk_s ?_
    refine do_end0 Try.results130 ?_
    intro w hw
    rw [show L.take i = L from List.take_of_length_le (by omega)] at hw
    have h2 : Holds ω ((auG r g N ⟨sn, sp, sa, L⟩ ++ capO c1 c2 c3 r n ph) ++ [J (askL k n 0 L).length, F0]) w := hw.sub (by unfold capO; simp only [List.cons_append, List.nil_append]; repeat (first | exact Pick.nil | apply Pick.cons (by repeat (first | with_reducible exact Sel.head | apply Sel.tail))))
    exact ⟨⟨_, rfl⟩, .inl ⟨_, rfl, Holds.perm (List.Perm.swap ..) (Holds.flat.2 h2)⟩⟩
/-- The captured arguments of an auditor that may be none. -/
abbrev capP (c1 c2 c3 : Nat) (q : Option Addr) (n ph : Int) : List HP := [pts c1 111 [.pointer q], pts c2 2 [.int .i64 n], pts c3 3 [.int .i64 ph]]
theorem auAsks_spec (F : HP) (q : Option Addr) (n ph : Int) : Spec Try.prog 97 [.pointer q, .int .i64 n, .int .i64 ph] [] F (fun _ : Nat × Nat × Nat => True)
    (fun x => .func (.func 130) #[] #[.pointer (some ⟨x.1, 0, none⟩), .pointer (some ⟨x.2.1, 0, none⟩), .pointer (some ⟨x.2.2, 0, none⟩)]) (fun x => capP x.1 x.2.1 x.2.2 q n ph) := by
  intro ω w hh
  refine enter Try.func97 rfl Try.ntmps97 rfl hh ?_
  simp only [List.nil_append, argsB]
  refine sr ?_
  refine r_b1 fun b3 => ?_
  refine r_b1 fun b4 => ?_
  refine r_b1 fun b5 => ?_
  refine rr (rd_assign rfl) ?_
  refine run_nil ?_
  refine St.kp [(3, _), (4, _), (5, _)] ?_
  refine St.then_n ?_
  refine sr ?_
  refine rr (rd_makeFunc rfl) ?_
  refine rr (rd_assign rfl) ?_
  refine run_nil ?_
  refine St.kp [(6, _)] ?_
  refine St.then_n ?_
  refine do_ret ?_
  refine do_ret1 Try.results97 (res_tmp rfl) ?_
  intro w hw
  exact ⟨(b3, b4, b5), trivial, rfl, hw.sb⟩
theorem asks_nil (c1 c2 c3 : Nat) (n ph : Int) (F0 : HP) :
    IterX Try.prog 130 [.pointer (some ⟨c1, 0, none⟩), .pointer (some ⟨c2, 0, none⟩), .pointer (some ⟨c3, 0, none⟩)]
      (Sep (capP c1 c2 c3 none n ph)) (Sep (capP c1 c2 c3 none n ph)) (fun i vs => ∃ x, ([] : List GAsk)[i]? = some x ∧ vs = [.agg x.L.toArray]) (fun _ _ => Sep []) (fun i => i = 0) F0 := by
  intro ω l J Jx w hy hh
  have hh2 : Holds ω [pts c1 111 [.pointer none], pts c2 2 [.int .i64 n], pts c3 3 [.int .i64 ph], J 0, F0] w := by
    have h1 := (hh.perm (List.Perm.swap ..))
    have h2 : Holds ω (capP c1 c2 c3 none n ph ++ [J 0, F0]) w := Holds.flat.1 h1
    exact h2
  refine enter Try.func130 rfl Try.ntmps130 rfl hh2 ?_
  simp only [argsB]
  refine do_seq ?_
  refine sr ?_
  refine rr (rd_ld rfl row111) ?_
  refine rr (rd_ptr_eq_nil Try.underlying111 rfl rfl) ?_
  refine nx ?_
  refine do_cond_t rfl ?_
  refine do_ret ?_
  refine St.then_r ?_
  refine do_ret0 Try.results130 ?_
  intro w hw
  have h2 : Holds ω (capP c1 c2 c3 none n ph ++ [J 0, F0]) w := hw
  exact ⟨⟨_, rfl⟩, .inl ⟨0, rfl, Holds.perm (List.Perm.swap ..) (Holds.flat.2 h2)⟩⟩
theorem gask_len (x : GAsk) : (GAsk.L x).length = 18 := rfl
theorem gask_one (x : GAsk) : (GAsk.L x).all (·.oneCell') = true := rfl
/-- A list of asks, and the variable that has it. -/
def outA (b n : Nat) (L : List GAsk) : HP := fun h => ∃ v, Sep [pts b 41 [v], ownQ GAsk.L 49 18 v n L] h
section
variable {ω : Amb} {m : Nat} {ds : List Deferred} {Γ Γ1 : List HP} {β : List (Nat × Value)} {K : Act → World → Prop} {b n : Nat} {L : List GAsk}
theorem St.outA_open (h : ∀ v, St ω m ds (pts b 41 [v] :: ownQ GAsk.L 49 18 v n L :: Γ) β K) : St ω m ds (outA b n L :: Γ) β K := by
  unfold outA
  exact St.ex fun v => St.flat (h v)
theorem Holds.outA_shut {w : World} (v : Value) (n : Nat) (L : List GAsk) (h : Holds ω Γ w) (p : Pick [pts b 41 [v], ownQ GAsk.L 49 18 v n L] Γ Γ1 := by repeat (first | exact Pick.nil | apply Pick.cons (by repeat (first | with_reducible exact Sel.head | apply Sel.tail)))) : Holds ω (outA b n L :: Γ1) w :=
  Holds.ent (fun _ h => ⟨v, h⟩) (Holds.flat.2 (Holds.unpick (h.pick p)))
theorem St.outA_shut (v : Value) (n : Nat) (L : List GAsk) (h : St ω m ds (outA b n L :: Γ1) β K) (p : Pick [pts b 41 [v], ownQ GAsk.L 49 18 v n L] Γ Γ1 := by repeat (first | exact Pick.nil | apply Pick.cons (by repeat (first | with_reducible exact Sel.head | apply Sel.tail)))) : St ω m ds Γ β K := fun a w c d =>
  h a w (Holds.outA_shut v n L c p) d
end
/-- The loop's walk, whatever the auditor is. -/
theorem asks17_any (F : HP) (q : Option Addr) (n ph : Int) (A0 : List HP) (A1 : List HP) (L : List GAsk) (hL : L.length ≤ 3)
    (it : ∀ c1 c2 c3 F0, IterX Try.prog 130 [.pointer (some ⟨c1, 0, none⟩), .pointer (some ⟨c2, 0, none⟩), .pointer (some ⟨c3, 0, none⟩)] (Sep (A0 ++ capP c1 c2 c3 q n ph)) (Sep (A1 ++ capP c1 c2 c3 q n ph)) (fun i vs => ∃ x, L[i]? = some x ∧ vs = [.agg x.L.toArray]) (fun _ _ => Sep []) (fun i => i = L.length) F0) :
    Spec Try.prog 52 [.pointer q, .int .i64 n, .int .i64 ph] [Sep A0] F (fun _ : Value => True) (fun v => v) (fun v => [ownQ GAsk.L 49 18 v L.length L, Sep A1]) := by
  intro ω w hh
  refine enterM Try.func52 rfl Try.ntmps52 rfl hh ?_
  simp only [List.cons_append, List.nil_append, argsB]
  refine sr ?_
  refine rr (rd_assign rfl) ?_
  refine nx ?_
  refine sr ?_
  refine r_al zero41 fun b7 => ?_
  refine nx ?_
  refine sr ?_
  refine rr (rd_move rfl) ?_
  refine rr (rd_move rfl) ?_
  refine rr (rd_move rfl) ?_
  refine rc (hs := auAsks_spec _ q n ph) (k := ?_)
  rintro ⟨c1, c2, c3⟩ -
  simp only [capP, List.cons_append, List.nil_append]
  try simp only [List.cons_append, List.nil_append]
  refine rr (rd_assign rfl) ?_
  refine run_nil ?_
  refine St.kp [(6, _), (7, _), (8, _)] ?_
  refine St.then_n ?_
  refine do_seq ?_
  refine sr ?_
  refine rr (rd_move rfl) ?_
  refine rr ((rd_fn_eq_nil Try.underlying131 rfl rfl)) ?_
  refine nx ?_
  refine do_cond_f rfl ?_
  refine do_skip ?_
  refine St.then_n ?_
  refine do_seq ?_
  refine sr ?_
  refine rr (rd_move rfl) ?_
  refine nx ?_
  refine do_block ?_
  refine St.pack (Ps := Sep A0 :: capP c1 c2 c3 q n ph) (by simp only [capP]; repeat (first | exact Pick.nil | apply Pick.cons (by repeat (first | with_reducible exact Sel.head | apply Sel.tail)))) ?_
  refine St.ent (Q := Sep (A0 ++ capP c1 c2 c3 q n ph)) (fun _ h => Sep.flat.1 h) ?_
  refine St.nilQ (f := GAsk.L) (T := 49) (k := 18) ?_
  refine St.outA_shut (b := b7) (.slice none 0 0) 0 [] ?_
  refine do_rangeX rfl (by kernel_rfl) (fun i => [outA b7 i (L.take i)]) (fun _ => [fun _ => False])
    (it c1 c2 c3) (.cons (.tail .head) (.cons .head .nil))
    (fun i vs (y : Nat × GAsk) => L[i]? = some y.2 ∧ vs = [.agg y.2.L.toArray])
    (fun i vs y => [(7, .pointer (some ⟨b7, 0, none⟩)), (9, .pointer (some ⟨y.1, 0, none⟩))])
    (fun i vs y => [pts y.1 49 y.2.L, outA b7 i (L.take i), Sep (A1 ++ capP c1 c2 c3 q n ph)])
    (fun _ _ ⟨_, _, h⟩ => by rw [h]; rfl) (by decide) ?_ ?_ (fun Dm1 i hi => ?_) (fun _ _ => St.false (.tail .head))
  · rintro l FR i vs ⟨x1, hx1, rfl⟩ hL1
    simp only [List.cons_append, List.nil_append]
    refine do_region ?_
    refine r_al zero49 fun b9 => ?_
    first | refine r_sa row49 ?_ | refine r_sm row49 ?_
    refine run_nil ?_
    refine St.kp [(7, _), (9, _)] ?_
    refine St.then_n ?_
    exact fun a w hw hb => ⟨(b9, x1), ⟨hx1, rfl⟩, hw.sub (by repeat (first | exact Pick.nil | apply Pick.cons (by repeat (first | with_reducible exact Sel.head | apply Sel.tail)))), hb.sub ⟨rfl, rfl, trivial⟩⟩
  · rintro l FR i vs ⟨b9, x1⟩ - ⟨hx1, -⟩ hL1
    dsimp only at hx1 ⊢
    simp only [List.cons_append, List.nil_append]
    have htk := take_get hx1
    have hil := (List.getElem?_eq_some_iff.1 hx1).1
    obtain ⟨xg, ⟨kind, ⟨okind, osrc, odst, oamt, okey, oslot, oshard⟩, id, name, nn, why, slot, epoch, at_, last, xA, c, data⟩⟩ := x1
    simp only [GAsk.L, GCmd.L, GCmd.v]
    refine St.sel (P := outA b7 i (L.take i)) (by repeat (first | with_reducible exact Sel.head | apply Sel.tail)) (St.outA_open fun v7 => ?_)
    refine do_block ?_
    refine do_region ?_
    refine rr (rd_ld rfl row41) ?_
    refine rr (rd_ldr [_, _, _, _, _, _, _, _, _, _, _, _, _, _, _, _, _, _] rfl row49) ?_
    refine run_buildSlice (l := [(Operand.tmp 19)]) rfl (by decide) Try.underlying41 ei49 rfl rfl (by decide) (by decide) (fun b20 => ?_)
    simp only [joinL, cells_agg, cells_int, cells_bcell, cells_bool, cells_string, cells_pointer, cells_slice, cells_map, cells_func, List.cons_append, List.nil_append, List.append_nil]
    refine r_apQ (f := GAsk.L) (n := i) (M := [⟨xg, ⟨kind, ⟨okind, osrc, odst, oamt, okey, oslot, oshard⟩, id, name, nn, why, slot, epoch, at_, last, xA, c, data⟩⟩]) gask_len gask_one Try.underlying41 ei49 (X := pts b20 49 [.int .i64 xg, .int .i64 kind, .int .i64 okind, .string (strOf osrc), .string (strOf odst), .int .i64 oamt, .string (strOf okey), .int .i64 oslot, .int .i64 oshard, .string (strOf id), .string (strOf name), .int .i64 nn, .int .i64 why, .int .i64 slot, .int .i64 epoch, .int .i64 at_, .bool last, .slice xA data.length c]) (vw_pts (off := 0) (Nat.le_refl _) (by decide) rfl rfl) rfl (by omega) (by decide) (by omega) (fun v8 _ => ?_)
    rw [← htk]
    refine St.Q_sl fun A8 k8 hv8 _ _ _ => ?_
    subst hv8
    refine r_st row41 ?_
    refine run_nil ?_
    refine St.kp [] ?_
    refine St.blk_n ?_
    exact fun a w hw _ => (show Holds ω [outA b7 (i + 1) (L.take (i + 1)), Sep (A1 ++ capP c1 c2 c3 q n ph), FR] w from (Holds.outA_shut (.slice A8 (i + 1) k8) (i + 1) (L.take (i + 1)) hw).sb)
  simp only [List.cons_append, List.nil_append]
  subst hi
  rw [List.take_of_length_le (Nat.le_refl _)]
  refine St.sl (P := outA b7 L.length L) (St.outA_open fun v7 => ?_)
  refine St.sl (P := Sep (A1 ++ capP c1 c2 c3 q n ph)) ?_
  refine St.ent (Q := Sep (Sep A1 :: capP c1 c2 c3 q n ph)) (fun _ h => Sep.flat.2 h) ?_
  refine St.flat ?_
  simp only [capP, List.cons_append, List.nil_append]
  refine St.blk_n ?_
  refine St.then_n ?_
  refine sr ?_
  refine rr (rd_ld rfl row41) ?_
  refine rr (rd_assign rfl) ?_
  refine run_nil ?_
  refine St.kp [(6, _)] ?_
  refine St.then_n ?_
  refine do_ret ?_
  refine do_retM1 [Dm1] rfl (by repeat (first | exact Pick.nil | apply Pick.cons (by repeat (first | with_reducible exact Sel.head | apply Sel.tail)))) Try.results52 (res_tmp rfl) ?_
  intro w hw
  exact ⟨v7, trivial, rfl, hw.sb⟩
theorem askAll_len (s : AuS) (n ph : Int) (hs : s.L.length ≤ 3) : (askAll s n ph).length ≤ 3 := Nat.le_trans (askL_len _ _ _ _) (by rw [knowS_len]; exact hs)
theorem asks17_spec (F : HP) (r : Nat) (s : AuS) (n ph : Int) (hs : s.L.length ≤ 3) :
    Spec Try.prog 52 [.pointer (some ⟨r, 0, none⟩), .int .i64 n, .int .i64 ph] [auO r s] F (fun _ : Value => True) (fun v => v) (fun v => [ownQ GAsk.L 49 18 v (askAll s n ph).length (askAll s n ph), auO r (knowS s n ph)]) := fun ω w hh => by
  obtain ⟨g, N, hN, h1⟩ := Holds.au_open (Γ := [F]) hh
  refine (asks17_any F (some ⟨r, 0, none⟩) n ph (auG r g N s) (auG r g N (knowS s n ph)) (askAll s n ph) (askAll_len s n ph hs) (fun c1 c2 c3 F0 => asks_iter c1 c2 c3 r g N s n ph hs hN F0) ω w (Holds.flat.2 h1)).mono ?_
  rintro e w' ⟨v, hv, he, h2⟩
  refine ⟨v, hv, he, ?_⟩
  have h3 : Holds ω (auG r g N (knowS s n ph) ++ [ownQ GAsk.L 49 18 v (askAll s n ph).length (askAll s n ph), F]) w' := Holds.flat.1 (Holds.perm (List.Perm.swap ..) h2)
  exact Holds.sb (Holds.au_shut (Γ1 := [ownQ GAsk.L 49 18 v (askAll s n ph).length (askAll s n ph), F]) (r := r) (knowS s n ph) g N h3 (.cons .head (.cons .head (.cons .head .nil))))
theorem asks17_nil (F : HP) (n ph : Int) :
    Spec Try.prog 52 [.pointer none, .int .i64 n, .int .i64 ph] [] F (fun _ : Value => True) (fun v => v) (fun v => [ownQ GAsk.L 49 18 v 0 []]) := fun ω w hh => by
  refine (asks17_any F none n ph [] [] [] (Nat.zero_le _) (fun c1 c2 c3 F0 => asks_nil c1 c2 c3 n ph F0) ω w (Holds.flat.2 hh)).mono ?_
  rintro e w' ⟨v, hv, he, h2⟩
  refine ⟨v, hv, he, ?_⟩
  have h3 : Holds ω ([] ++ [ownQ GAsk.L 49 18 v 0 [], F]) w' := Holds.flat.1 (Holds.perm (List.Perm.swap ..) h2)
  exact h3
set_option maxRecDepth 4000 in
theorem taken17_spec (F : HP) (x : GCmd) : Spec Try.prog 54 [.agg x.L.toArray] [] F (fun _ : Unit => True) (fun _ => .agg x.L.toArray) (fun _ => []) := by
  intro ω w hh
  refine enter Try.func54 rfl Try.ntmps54 rfl hh ?_
  simp only [List.nil_append, argsB]
  obtain ⟨kind, ⟨okind, osrc, odst, oamt, okey, oslot, oshard⟩, id, name, n, why, slot, epoch, at_, last, A, c, data⟩ := x
  simp only [GCmd.L, GCmd.v]
  refine sr ?_
  refine r_bx fun b1 => ?_
  refine r_al zero28 fun b2 => ?_
  refine nx ?_
  refine sr ?_
  refine rr (rd_fa rfl fld47_0) ?_
  refine rr (rd_ld rfl row3) ?_
  refine rr (rd_fa rfl fld47_1) ?_
  refine rr (rd_ldr [_, _, _, _, _, _, _] rfl row24) ?_
  refine rr (rd_fa rfl fld47_2) ?_
  refine rr (rd_ld rfl row9) ?_
  refine rr (rd_fa rfl fld47_3) ?_
  refine rr (rd_ld rfl row9) ?_
  refine rr (rd_fa rfl fld47_4) ?_
  refine rr (rd_ld rfl row2) ?_
  refine rr (rd_fa rfl fld47_5) ?_
  refine rr (rd_ld rfl row25) ?_
  refine rr (rd_fa rfl fld47_6) ?_
  refine rr (rd_ld rfl row3) ?_
  refine rr (rd_fa rfl fld47_7) ?_
  refine rr (rd_ld rfl row2) ?_
  refine rr (rd_fa rfl fld47_8) ?_
  refine rr (rd_ld rfl row3) ?_
  refine rr (rd_fa rfl fld47_9) ?_
  refine rr (rd_ld rfl row4) ?_
  refine rr (rd_fa rfl fld47_10) ?_
  refine rr (rd_ld rfl row26) ?_
  refine rr (rd_bd [_, _, _, _, _, _, _, _, _, _, _, _, _, _, _, _, _] zero28 plc28) ?_
  first | refine r_sa row28 ?_ | refine r_sm row28 ?_
  refine run_nil ?_
  refine St.kp [(2, _)] ?_
  refine St.then_n ?_
  refine do_ret ?_
  refine do_ret1 Try.results54 (res_cell_row (vs := [_, _, _, _, _, _, _, _, _, _, _, _, _, _, _, _, _]) rfl row28 rfl (cells_pts (by repeat (first | with_reducible exact Sel.head | apply Sel.tail)) rfl)) ?_
  intro w hw
  exact ⟨(), trivial, rfl, hw.sb⟩
set_option maxRecDepth 4000 in
theorem given17_spec (F : HP) (x : GCmd) (hF : VwB F x.v x.data) (hl : x.data.length ≤ 140737488355328) :
    Spec Try.prog 56 [.agg x.L.toArray] [] F (fun _ : Option Addr × Nat => True) (fun q => .agg (GCmd.L { x with A := q.1, c := q.2 }).toArray) (fun q => [bytesO (.slice q.1 x.data.length q.2) x.data]) := by
  intro ω w hh
  refine enter Try.func56 rfl Try.ntmps56 rfl hh ?_
  simp only [List.nil_append, argsB]
  obtain ⟨kind, ⟨okind, osrc, odst, oamt, okey, oslot, oshard⟩, id, name, n, why, slot, epoch, at_, last, A, c, data⟩ := x
  dsimp only at hl
  simp only [GCmd.L, GCmd.v] at hF ⊢
  refine sr ?_
  refine r_bx fun b1 => ?_
  refine r_al zero47 fun b2 => ?_
  refine nx ?_
  refine sr ?_
  refine rr (rd_fa rfl fld28_0) ?_
  refine rr (rd_ld rfl row3) ?_
  refine rr (rd_fa rfl fld28_1) ?_
  refine rr (rd_ldr [_, _, _, _, _, _, _] rfl row24) ?_
  refine rr (rd_fa rfl fld28_2) ?_
  refine rr (rd_ld rfl row9) ?_
  refine rr (rd_fa rfl fld28_3) ?_
  refine rr (rd_ld rfl row9) ?_
  refine rr (rd_fa rfl fld28_4) ?_
  refine rr (rd_ld rfl row2) ?_
  refine rr (rd_fa rfl fld28_5) ?_
  refine rr (rd_ld rfl row25) ?_
  refine rr (rd_fa rfl fld28_6) ?_
  refine rr (rd_ld rfl row3) ?_
  refine rr (rd_fa rfl fld28_7) ?_
  refine rr (rd_ld rfl row2) ?_
  refine rr (rd_fa rfl fld28_8) ?_
  refine rr (rd_ld rfl row3) ?_
  refine rr (rd_fa rfl fld28_9) ?_
  refine rr (rd_ld rfl row4) ?_
  refine rr (rd_bd [_, _, _, _, _, _, _, _, _, _, _, _, _, _, _, _, _] zero47 plc47) ?_
  refine r_al zero47 fun b3 => ?_
  first | refine r_sa row47 ?_ | refine r_sm row47 ?_
  refine run_nil ?_
  refine St.kp [(1, _), (2, _), (3, _)] ?_
  refine St.then_n ?_
  refine sr ?_
  refine rr (rd_fa rfl fld47_10) ?_
  refine rr (rd_ld rfl row26) ?_
  refine rr (rd_fa rfl fld28_10) ?_
  refine rr (rd_ld rfl row26) ?_
  refine St.own_nil (T := 5) (k := 1) ?_
  refine run_append rfl (by decide) Try.underlying26 ei5 rfl rfl .head (X := F) hF (by repeat (first | with_reducible exact Sel.head | apply Sel.tail)) (by simp only [List.mem_map]; rintro c ⟨b, _, rfl⟩; rfl) (by simp [maxLen]; omega) (by simp; omega) (fun v1 _ => ?_)
  rw [own_bytes (v := v1) (bs := data) (by simp) (by simp)]
  refine St.vw vw_bytes .head (fun A1 c1 hv1 _ _ _ => ?_)
  subst hv1
  refine rr (rd_fa rfl fld47_10) ?_
  refine r_st row26 ?_
  refine run_nil ?_
  refine St.kp [(2, _), (3, _)] ?_
  refine St.then_n ?_
  refine sr ?_
  refine rr (rd_ldr [_, _, _, _, _, _, _, _, _, _, _, _, _, _, _, _, _] rfl row47) ?_
  first | refine r_sa row47 ?_ | refine r_sm row47 ?_
  refine nx ?_
  refine do_ret ?_
  refine do_ret1 Try.results56 (res_cell_row (vs := [_, _, _, _, _, _, _, _, _, _, _, _, _, _, _, _, _]) rfl row47 rfl (cells_pts (by repeat (first | with_reducible exact Sel.head | apply Sel.tail)) rfl)) ?_
  intro w hw
  exact ⟨(A1, c1), trivial, rfl, hw.sb⟩
abbrev rBob : GRow := ⟨[98, 111, 98], 1⟩
abbrev rAnn : GRow := ⟨[97, 110, 110], 2⟩
abbrev kS1 : AuS := ⟨1, 1, false, [one0, one0]⟩
abbrev kS2 (q : Option Addr × Nat) : AuS := ⟨1, 1, false, [⟨true, q.1, q.2, [rBob]⟩, one0]⟩
abbrev kS3 (q p : Option Addr × Nat) : AuS := ⟨1, 1, true, [⟨true, q.1, q.2, [rBob]⟩, ⟨true, p.1, p.2, [rAnn]⟩]⟩
theorem known_asks : askAll ⟨0, 0, false, [one0, one0]⟩ 1 1 = [askC 1 6 1, askC 2 6 1] := rfl
theorem known_know : knowS ⟨0, 0, false, [one0, one0]⟩ 1 1 = kS1 := rfl
theorem known_t1 (q : Option Addr × Nat) : toldS kS1 1 1 (askC 1 6 1) 0 [rBob] q = (kS2 q, 0, 0, false) := rfl
theorem known_t2 (q p : Option Addr × Nat) : toldS (kS2 q) 1 1 (askC 2 6 1) 0 [rAnn] p = (kS3 q p, 4, 1, true) := rfl
theorem known_rows (q p : Option Addr × Nat) : isort (allRows (kS3 q p).L) = [rAnn, rBob] := rfl
theorem known_ask2 (q p : Option Addr × Nat) : askAll (kS3 q p) 1 2 = [askC 1 7 1, askC 2 7 1] := rfl
theorem cell_Q {ω : Amb} {Γ Γ' : List HP} {α : Type} {f : α → List Value} {T k n c g off : Nat} (L : List α) (i j : Nat) (x : α) {u : Value} (hk : ∀ x, (f x).length = k) (h : L[i]? = some x) (hj : j < k) (hu : (f x)[j]? = some u) (ho : off = i * k + j)
    (p : Sel (ownQ f T k (.slice (some ⟨g, 0, none⟩) n c) n L) Γ Γ' := by repeat (first | with_reducible exact Sel.head | apply Sel.tail)) : CellsIn ω Γ g off [u] := fun w hh => by
  subst ho
  obtain ⟨_, _, hl, _⟩ := hh.get p
  have hi := (List.getElem?_eq_some_iff.1 h).1
  have := Vw.cells1 (ω := ω) (vw_Q (f := f) (T := T) (k := k) (v := .slice (some ⟨g, 0, none⟩) n c) (n := n) (L := L)) p (by omega) (flat_cell hk h hj hu)
  rw [Nat.zero_add] at this
  exact this w hh
theorem vwRows_one (g : Nat) (x : GRow) : VwRows (pts g 108 (rowC x)) ⟨0, 0, some ⟨g, 0, none⟩, 1, [x]⟩ := vw_pts (off := 0) (k := 2) (n := 1) (c := 1) (Nat.le_refl _) (by decide) rfl rfl
set_option maxRecDepth 4000 in
set_option maxHeartbeats 2000000 in
theorem known17_spec (F : HP) : Spec Try.prog 63 [] [] F (fun _ : Unit => True) (fun _ => .bool true) (fun _ => []) := by
  intro ω w hh
  refine enter Try.func63 rfl Try.ntmps63 rfl hh ?_
  simp only [List.nil_append, argsB]
  refine sr ?_
  refine rr (rd_assign rfl) ?_
  refine nx ?_
  refine sr ?_
  refine rc (hs := auNew_spec _ 2) (k := ?_)
  rintro r -
  rw [show List.replicate (if (2 : Int) < 1 ∨ (3 : Int) < 2 then 1 else (2 : Int).toNat) one0 = [one0, one0] from rfl]
  try simp only [List.cons_append, List.nil_append]
  refine rr (rd_assign rfl) ?_
  refine nx ?_
  refine do_seq ?_
  refine sr ?_
  refine rr (rd_move rfl) ?_
  refine rr ((rd_ptr_eq_nil Try.underlying111 rfl rfl)) ?_
  refine nx ?_
  refine do_cond_f rfl ?_
  refine do_skip ?_
  refine St.then_n ?_
  refine sr ?_
  refine rr (rd_move rfl) ?_
  refine rc (hs := asks17_spec _ r ⟨0, 0, false, [one0, one0]⟩ 1 1 (by decide)) (k := ?_)
  rintro v -
  rw [known_asks, known_know]
  simp only [List.length_cons, List.length_nil, Nat.zero_add, Nat.reduceAdd, List.cons_append, List.nil_append]
  refine St.sl (P := ownQ GAsk.L 49 18 v 2 [askC 1 6 1, askC 2 6 1]) (St.Q_some (by decide) fun g c hv _ _ => ?_)
  subst hv
  try simp only [List.cons_append, List.nil_append]
  refine rr (rd_assign rfl) ?_
  refine run_nil ?_
  refine St.kp [(1, _), (2, _)] ?_
  refine St.then_n ?_
  refine do_seq ?_
  refine sr ?_
  refine rr (rd_move rfl) ?_
  refine rr (rd_len Try.underlying41 rfl) ?_
  refine rr ((rd_ne rfl rfl).eq (show _ = Value.bool false from rfl)) ?_
  refine rr (rd_move rfl) ?_
  first | refine sk ?_ | (refine rr (rd_move rfl) ?_)
  first | refine sk ?_ | (refine rr (rd_indexAddr Try.underlying41 ei49 rfl rfl (by omega) (by omega)) ?_)
  first | refine sk ?_ | (refine rr (rd_fa rfl fld49_0) ?_)
  first | refine sk ?_ | (refine rr (rd_ld rfl row3 (cell_Q [askC 1 6 1, askC 2 6 1] 1 0 (askC 2 6 1) gask_len rfl (by decide) rfl rfl)) ?_)
  first | refine sk ?_ | (refine rr ((rd_ne rfl rfl).eq (show _ = Value.bool false from rfl)) ?_)
  refine rr (rd_pick rfl rfl) ?_
  refine rr (rd_move rfl) ?_
  first | refine sk ?_ | (refine rr (rd_move rfl) ?_)
  first | refine sk ?_ | (refine rr (rd_indexAddr Try.underlying41 ei49 rfl rfl (by omega) (by omega)) ?_)
  first | refine sk ?_ | (refine rr (rd_fa rfl fld49_1) ?_)
  first | refine sk ?_ | (refine rr (rd_fa rfl fld47_0) ?_)
  first | refine sk ?_ | (refine rr (rd_ld rfl row3 (cell_Q [askC 1 6 1, askC 2 6 1] 1 1 (askC 2 6 1) gask_len rfl (by decide) rfl rfl)) ?_)
  first | refine sk ?_ | (refine rr ((rd_ne rfl rfl).eq (show _ = Value.bool false from rfl)) ?_)
  refine rr (rd_pick rfl rfl) ?_
  refine rr (rd_move rfl) ?_
  first | refine sk ?_ | (refine rr (rd_move rfl) ?_)
  first | refine sk ?_ | (refine rr (rd_indexAddr Try.underlying41 ei49 rfl rfl (by omega) (by omega)) ?_)
  first | refine sk ?_ | (refine rr (rd_fa rfl fld49_1) ?_)
  first | refine sk ?_ | (refine rr (rd_fa rfl fld47_7) ?_)
  first | refine sk ?_ | (refine rr (rd_ld rfl row2 (cell_Q [askC 1 6 1, askC 2 6 1] 1 14 (askC 2 6 1) gask_len rfl (by decide) rfl rfl)) ?_)
  first | refine sk ?_ | (refine rr ((rd_ne rfl rfl).eq (show _ = Value.bool false from rfl)) ?_)
  refine rr (rd_pick rfl rfl) ?_
  refine run_nil ?_
  refine St.kp [(1, _), (2, _), (39, _)] ?_
  refine St.then_n ?_
  refine do_cond_f rfl ?_
  refine do_skip ?_
  refine St.then_n ?_
  refine sr ?_
  refine rr (rd_move rfl) ?_
  refine rr (rd_move rfl) ?_
  refine rr (rd_indexAddr Try.underlying41 ei49 rfl rfl (by omega) (by omega)) ?_
  refine rr (rd_ldr _ rfl row49 (cells_Q (i := 0) (x := askC 1 6 1) gask_len rfl)) ?_
  refine rr (rd_bd [_, _] zero108 plc108) ?_
  refine run_buildSlice (l := [(Operand.tmp 45)]) rfl (by decide) Try.underlying31 ei108 rfl rfl (by decide) (by decide) (fun b46 => ?_)
  simp only [joinL, cells_agg, cells_int, cells_bcell, cells_bool, cells_string, cells_pointer, cells_slice, cells_map, cells_func, List.cons_append, List.nil_append, List.append_nil]
  refine rr (rd_bd [_, _, _] zero33 plc33) ?_
  refine rr (rd_bd [_, _, _, _, _, _] zero53 plc53) ?_
  refine rc (hs := told_spec _ r kS1 1 1 (askC 1 6 1) ⟨0, false, ⟨0, 0, some ⟨b46, 0, none⟩, 1, [rBob]⟩, none, 0, []⟩ (Nat.le_of_ble_eq_true rfl) (Vw.sep (vwRows_one _ _) (by repeat (first | with_reducible exact Sel.head | apply Sel.tail))) (Nat.le_of_ble_eq_true rfl)) (k := ?_)
  rintro q -
  rw [known_t1]
  dsimp only
  try simp only [List.cons_append, List.nil_append]
  refine rr (rd_move rfl) ?_
  refine rr (rd_extract rfl rfl) ?_
  refine rr (rd_extract rfl rfl) ?_
  refine r_al zero79 fun b3 => ?_
  first | refine r_sa row79 ?_ | refine r_sm row79 ?_
  refine rr (rd_assign rfl) ?_
  refine run_nil ?_
  refine St.kp [(1, _), (2, _), (4, _)] ?_
  refine St.then_n ?_
  refine sr ?_
  refine rr (rd_move rfl) ?_
  refine rr (rd_move rfl) ?_
  refine rr (rd_indexAddr Try.underlying41 ei49 rfl rfl (by omega) (by omega)) ?_
  refine rr (rd_ldr _ rfl row49 (cells_Q (i := 1) (x := askC 2 6 1) gask_len rfl)) ?_
  refine rr (rd_bd [_, _] zero108 plc108) ?_
  refine run_buildSlice (l := [(Operand.tmp 57)]) rfl (by decide) Try.underlying31 ei108 rfl rfl (by decide) (by decide) (fun b58 => ?_)
  simp only [joinL, cells_agg, cells_int, cells_bcell, cells_bool, cells_string, cells_pointer, cells_slice, cells_map, cells_func, List.cons_append, List.nil_append, List.append_nil]
  refine rr (rd_bd [_, _, _] zero33 plc33) ?_
  refine rr (rd_bd [_, _, _, _, _, _] zero53 plc53) ?_
  refine rc (hs := told_spec _ r (kS2 q) 1 1 (askC 2 6 1) ⟨0, false, ⟨0, 0, some ⟨b58, 0, none⟩, 1, [rAnn]⟩, none, 0, []⟩ (Nat.le_of_ble_eq_true rfl) (Vw.sep (vwRows_one _ _) (by repeat (first | with_reducible exact Sel.head | apply Sel.tail))) (Nat.le_of_ble_eq_true rfl)) (k := ?_)
  rintro p -
  rw [known_t2]
  dsimp only
  try simp only [List.cons_append, List.nil_append]
  refine rr (rd_move rfl) ?_
  refine rr (rd_extract rfl rfl) ?_
  refine rr (rd_extract rfl rfl) ?_
  refine r_al zero79 fun b5 => ?_
  first | refine r_sa row79 ?_ | refine r_sm row79 ?_
  refine rr (rd_assign rfl) ?_
  refine run_nil ?_
  refine St.kp [(1, _), (4, _), (5, _), (6, _)] ?_
  refine St.then_n ?_
  refine sr ?_
  refine rr (rd_move rfl) ?_
  refine rc (hs := auRows_spec _ r (kS3 q p) (Nat.le_of_ble_eq_true rfl) (Nat.le_of_ble_eq_true rfl)) (k := ?_)
  rintro u -
  rw [known_rows, show (allRows (kS3 q p).L).length = 2 from rfl]
  simp only [if_true, List.cons_append, List.nil_append]
  refine St.sl (P := rq u 2 [rAnn, rBob]) (St.Q_some (by decide) fun g2 c2 hu _ _ => ?_)
  subst hu
  try simp only [List.cons_append, List.nil_append]
  refine rr (rd_move rfl) ?_
  refine rr (rd_extract rfl rfl) ?_
  refine rr (rd_extract rfl rfl) ?_
  refine rr (rd_assign rfl) ?_
  refine rr (rd_assign rfl) ?_
  refine run_nil ?_
  refine St.kp [(1, _), (4, _), (5, _), (6, _), (7, _), (8, _)] ?_
  refine St.then_n ?_
  refine sr ?_
  refine rr (rd_move rfl) ?_
  refine rr (rd_not rfl) ?_
  refine rr (rd_move rfl) ?_
  first | refine sk ?_ | (refine rr (rd_move rfl) ?_)
  refine rr (rd_pick rfl rfl) ?_
  refine rr (rd_move rfl) ?_
  first | refine sk ?_ | (refine rr (rd_fa rfl fld79_0) ?_)
  first | refine sk ?_ | (refine rr (rd_ld rfl row3) ?_)
  first | refine sk ?_ | (refine rr (rd_eq rfl rfl) ?_)
  refine rr (rd_pick rfl rfl) ?_
  refine rr (rd_move rfl) ?_
  first | refine sk ?_ | (refine rr (rd_fa rfl fld79_3) ?_)
  first | refine sk ?_ | (refine rr (rd_ld rfl row2) ?_)
  first | refine sk ?_ | (refine rr (rd_eq rfl rfl) ?_)
  refine rr (rd_pick rfl rfl) ?_
  refine rr (rd_move rfl) ?_
  first | refine sk ?_ | (refine rr (rd_move rfl) ?_)
  refine rr (rd_pick rfl rfl) ?_
  refine rr (rd_move rfl) ?_
  first | refine sk ?_ | (refine rr (rd_move rfl) ?_)
  first | refine sk ?_ | (refine rr (rd_len Try.underlying31 rfl) ?_)
  first | refine sk ?_ | (refine rr (rd_eq rfl rfl) ?_)
  refine rr (rd_pick rfl rfl) ?_
  refine rr (rd_move rfl) ?_
  first | refine sk ?_ | (refine rr (rd_move rfl) ?_)
  first | refine sk ?_ | (refine rr (rd_indexAddr Try.underlying31 ei108 rfl rfl (by omega) (by omega)) ?_)
  first | refine sk ?_ | (refine rr (rd_fa rfl fld108_0) ?_)
  first | refine sk ?_ | (refine rr (rd_ld rfl row9 (cell_Q [rAnn, rBob] 0 0 rAnn rowC_len rfl (by decide) rfl rfl)) ?_)
  first | refine sk ?_ | (refine rr (rd_str_eql rfl rfl) ?_)
  refine rr (rd_pick rfl rfl) ?_
  refine rr (rd_move rfl) ?_
  first | refine sk ?_ | (refine rr (rd_move rfl) ?_)
  first
    | refine sk ?_
    | (refine rc (hs := asks17_spec _ r (kS3 q p) 1 2 (Nat.le_of_ble_eq_true rfl)) (k := ?_)
       rintro v2 -
       rw [known_ask2]
       simp only [List.length_cons, List.length_nil, Nat.zero_add, Nat.reduceAdd, List.cons_append, List.nil_append]
       refine St.sl (P := ownQ GAsk.L 49 18 v2 2 [askC 1 7 1, askC 2 7 1]) (St.Q_some (by decide) fun g3 c3 hv2 _ _ => ?_)
       subst hv2
       try simp only [List.cons_append, List.nil_append])
  first | refine sk ?_ | (refine rr (rd_len Try.underlying41 rfl) ?_)
  first | refine sk ?_ | (refine rr (rd_eq rfl rfl) ?_)
  refine rr (rd_pick rfl rfl) ?_
  refine rr (rd_assign rfl) ?_
  refine run_nil ?_
  refine St.kp [(0, _)] ?_
  refine St.then_n ?_
  refine do_ret ?_
  refine do_ret1 Try.results63 (res_tmp rfl) ?_
  intro w hw
  exact ⟨(), trivial, rfl, hw.sb⟩
structure AOp where
  kind : Int
  n : Int
  ph : Int
  a : GAsk
  r : GRes
  at_ : Int
abbrev AOp.L (x : AOp) : List Value := [.int .i64 x.kind, .int .i64 x.n, .int .i64 x.ph, .int .i64 x.a.group, .int .i64 x.a.cmd.kind, .int .i64 x.a.cmd.op.kind, .string (strOf x.a.cmd.op.src), .string (strOf x.a.cmd.op.dst), .int .i64 x.a.cmd.op.amt, .string (strOf x.a.cmd.op.key), .int .i64 x.a.cmd.op.slot, .int .i64 x.a.cmd.op.shard,
  .string (strOf x.a.cmd.id), .string (strOf x.a.cmd.name), .int .i64 x.a.cmd.n, .int .i64 x.a.cmd.why, .int .i64 x.a.cmd.slot, .int .i64 x.a.cmd.epoch, .int .i64 x.a.cmd.at_, .bool x.a.cmd.last, x.a.cmd.v, .int .i64 x.r.why, .bool x.r.wait, .int .i64 x.r.reply.why, .int .i64 x.r.reply.amount, x.r.reply.v, x.r.v, .int .i64 x.at_]
theorem seq_ccmd (a b c d e a' b' c' d' e' : Int) : structEq Try.prog 79 [.int .i64 a, .int .i64 b, .int .i64 c, .int .i64 d, .int .i64 e] [.int .i64 a', .int .i64 b', .int .i64 c', .int .i64 d', .int .i64 e'] = some (a == a' && (b == b' && (c == c' && (d == d' && (e == e' && true))))) := by kernel_rfl
set_option maxRecDepth 8000 in
set_option maxHeartbeats 4000000 in
theorem auditorNil_law (x : AOp) (w : World) (G : Nat → Prop) (hA : Bs w G x.a.cmd.v x.a.cmd.data) (hl : x.a.cmd.data.length ≤ 140737488355328) :
    Calls Try.prog 11 #[.agg x.L.toArray] w fun e w' => e = .returned (.bool true) ∧ Fr nowhere w w' := by
  refine enter (vs := [.agg x.L.toArray]) Try.func11 rfl Try.ntmps11 rfl (Holds.init w) ?_
  simp only [argsB]
  have vA : VwB (kept w) x.a.cmd.v x.a.cmd.data := vw_kept (by decide) hA
  clear hA
  obtain ⟨okind_, on, oph, ⟨xg, ⟨kind, ⟨okind, osrc, odst, oamt, okey, oslot, oshard⟩, id, name, nn, why, slot, epoch, at_, last, A, c, data⟩⟩, ⟨ywhy, ywait, ⟨pwhy, pamt, pA, pc, prows⟩, rA, rK, rdata⟩, oat⟩ := x
  dsimp only at hl vA
  simp only [AOp.L, GAsk.L, GCmd.L, GCmd.v, GRes.L, GRes.v, GReply.v] at vA ⊢
  refine sr ?_
  refine r_bx fun b1 => ?_
  refine rr (rd_assign rfl) ?_
  refine nx ?_
  refine sr ?_
  refine rr (rd_assign rfl) ?_
  refine nx ?_
  refine do_seq ?_
  refine do_cut (fun _ : Nat => True) (fun b4 => [(1, .pointer (some ⟨b1, 0, none⟩)), (2, .bool false), (3, .pointer none), (4, .pointer (some ⟨b4, 0, none⟩)), (5, .bool false)]) (fun b4 => [pts b4 79 [.int .i64 0, .int .i64 0, .int .i64 0, .int .i64 0, .int .i64 0], pts b1 116 [.int .i64 okind_, .int .i64 on, .int .i64 oph, .int .i64 xg, .int .i64 kind, .int .i64 okind, .string (strOf osrc), .string (strOf odst), .int .i64 oamt, .string (strOf okey), .int .i64 oslot, .int .i64 oshard, .string (strOf id), .string (strOf name), .int .i64 nn, .int .i64 why, .int .i64 slot, .int .i64 epoch, .int .i64 at_, .bool last, .slice A data.length c, .int .i64 ywhy, .bool ywait, .int .i64 pwhy, .int .i64 pamt, .slice pA prows.length pc, .slice rA rdata.length rK, .int .i64 oat], kept w]) (fun K hK => ?_) ?_
  · skip
    · refine do_draw [[14, 15, 16, 17, 19, 20], [2, 14, 15, 16, 17, 19, 20], [14, 15, 16, 17, 19, 20], [4, 14, 15, 16, 17, 19, 20], [14, 15, 16, 17, 19, 20], [6, 7, 12, 14, 15, 16, 17, 19, 20], [7, 12, 14, 15, 16, 17, 19, 20], [12, 14, 15, 16, 17, 19, 20], [9, 10, 11, 12, 14, 15, 16, 17, 19, 20], [10, 11, 12, 14, 15, 16, 17, 19, 20], [11, 12, 14, 15, 16, 17, 19, 20], [12, 14, 15, 16, 17, 19, 20], [14, 15, 16, 17, 19, 20], [14, 15, 16, 17, 19, 20], [15, 16, 17, 19, 20], [16, 17, 19, 20], [19, 20], [20], [19, 20], [20], []] (by kernel_rfl) rfl ?_
      refine ta 0 rfl (rd_move rfl) ?_
      refine ta 1 rfl (rd_fa rfl fld116_1) ?_
      refine ta 2 rfl (rd_ld rfl row2) ?_
      refine ta 3 rfl (rd_fa rfl fld116_2) ?_
      refine ta 4 rfl (rd_ld rfl row3) ?_
      refine ta 5 rfl (rd_fa rfl fld116_3) ?_
      refine ta 6 rfl (rd_fa rfl fld30_0) ?_
      refine ta 7 rfl (rd_ld rfl row3) ?_
      refine ta 8 rfl (rd_fa rfl fld116_3) ?_
      refine ta 9 rfl (rd_fa rfl fld30_1) ?_
      refine ta 10 rfl (rd_ldr [_, _, _, _, _, _, _, _, _, _, _, _, _, _, _, _, _] rfl row28) ?_
      refine ta 13 rfl (rd_bd [_, _, _, _, _, _] zero53 plc53) ?_
      refine any_run2 (i := 11) (j := 18) (by kernel_rfl) rfl rfl ?_ ?_
      · refine rc (hs := given17_spec _ ⟨kind, ⟨okind, osrc, odst, oamt, okey, oslot, oshard⟩, id, name, nn, why, slot, epoch, at_, last, A, c, data⟩ (Vw.sep vA (by repeat (first | with_reducible exact Sel.head | apply Sel.tail))) hl) (k := ?_)
        rintro ⟨A1, c1⟩ -
        simp only [GCmd.L, GCmd.v]
        try simp only [List.cons_append, List.nil_append]
        refine nx ?_
        refine any_next (by apply bk 13 rfl (rd_bd [_, _, _, _, _, _] zero53 plc53); apply bd 10; apply bd 9; apply bd 8; apply bk 7 rfl (rd_ld rfl row3); apply bk 6 rfl (rd_fa rfl fld30_0); apply bk 5 rfl (rd_fa rfl fld116_3); apply bk 4 rfl (rd_ld rfl row3); apply bk 3 rfl (rd_fa rfl fld116_2); apply bk 2 rfl (rd_ld rfl row2); apply bk 1 rfl (rd_fa rfl fld116_1); apply bk 0 rfl (rd_move rfl); exact .nil) ?_
        refine ta 12 rfl (rd_bd [_, _, _, _, _, _, _, _, _, _, _, _, _, _, _, _, _, _] zero49 plc49) ?_
        refine any_run2 (i := 14) (j := 18) (by kernel_rfl) rfl rfl ?_ ?_
        · refine rc (hs := toldNil_spec _ on oph ⟨xg, ⟨kind, ⟨okind, osrc, odst, oamt, okey, oslot, oshard⟩, id, name, nn, why, slot, epoch, at_, last, A1, c1, data⟩⟩ ⟨0, false, ⟨0, 0, none, 0, []⟩, none, 0, []⟩) (k := ?_)
          rintro ⟨⟩ -
          try simp only [List.cons_append, List.nil_append]
          refine nx ?_
          refine any_next (by apply bd 12; apply bd 13; apply bd 7; apply bd 6; apply bd 5; apply bd 4; apply bd 3; apply bd 2; apply bd 1; apply bd 0; exact .nil) ?_
          refine ta 15 rfl (rd_move rfl) ?_
          refine ta 16 rfl (rd_extract rfl rfl) ?_
          refine ta 17 rfl (rd_extract rfl rfl) ?_
          refine tr 18 ?_
          refine r_al zero79 fun b4 => ?_
          refine nx ?_
          refine any_next (by apply bk 17 rfl (rd_extract rfl rfl); apply bk 16 rfl (rd_extract rfl rfl); apply bk 15 rfl (rd_move rfl); exact .nil) ?_
          refine tr 19 ?_
          first | refine r_sa row79 ?_ | refine r_sm row79 ?_
          refine nx ?_
          refine any_next (by apply bk 17 rfl (rd_extract rfl rfl); apply bd 16; apply bd 15; exact .nil) ?_
          refine ta 20 rfl (rd_assign rfl) ?_
          refine any_nil (by kernel_rfl) ?_
          refine St.then_n ?_
          exact St.sb (St.kq [(1, _), (2, _), (3, _), (4, _), (5, _)] (h := hK b4 trivial))
        rotate_left
        refine r_al zero79 fun b4 => ?_
        refine nx ?_
        refine any_next (by apply bk 12 rfl (rd_bd [_, _, _, _, _, _, _, _, _, _, _, _, _, _, _, _, _, _] zero49 plc49); apply bk 13 rfl (rd_bd [_, _, _, _, _, _] zero53 plc53); apply bk 7 rfl (rd_ld rfl row3); apply bk 6 rfl (rd_fa rfl fld30_0); apply bk 5 rfl (rd_fa rfl fld116_3); apply bk 4 rfl (rd_ld rfl row3); apply bk 3 rfl (rd_fa rfl fld116_2); apply bk 2 rfl (rd_ld rfl row2); apply bk 1 rfl (rd_fa rfl fld116_1); apply bk 0 rfl (rd_move rfl); exact .nil) ?_
        refine tr 14 ?_
        refine rc (hs := toldNil_spec _ on oph ⟨xg, ⟨kind, ⟨okind, osrc, odst, oamt, okey, oslot, oshard⟩, id, name, nn, why, slot, epoch, at_, last, A1, c1, data⟩⟩ ⟨0, false, ⟨0, 0, none, 0, []⟩, none, 0, []⟩) (k := ?_)
        rintro ⟨⟩ -
        try simp only [List.cons_append, List.nil_append]
        refine nx ?_
        refine any_next (by apply bd 12; apply bd 13; apply bd 7; apply bd 6; apply bd 5; apply bd 4; apply bd 3; apply bd 2; apply bd 1; apply bd 0; exact .nil) ?_
        refine ta 15 rfl (rd_move rfl) ?_
        refine ta 16 rfl (rd_extract rfl rfl) ?_
        refine ta 17 rfl (rd_extract rfl rfl) ?_
        refine tr 19 ?_
        first | refine r_sa row79 ?_ | refine r_sm row79 ?_
        refine nx ?_
        refine any_next (by apply bk 17 rfl (rd_extract rfl rfl); apply bd 16; apply bd 15; exact .nil) ?_
        refine ta 20 rfl (rd_assign rfl) ?_
        refine any_nil (by kernel_rfl) ?_
        refine St.then_n ?_
        exact St.sb (St.kq [(1, _), (2, _), (3, _), (4, _), (5, _)] (h := hK b4 trivial))
      rotate_left
      refine r_al zero79 fun b4 => ?_
      refine nx ?_
      refine any_next (by apply bk 13 rfl (rd_bd [_, _, _, _, _, _] zero53 plc53); apply bk 10 rfl (rd_ldr [_, _, _, _, _, _, _, _, _, _, _, _, _, _, _, _, _] rfl row28); apply bk 9 rfl (rd_fa rfl fld30_1); apply bk 8 rfl (rd_fa rfl fld116_3); apply bk 7 rfl (rd_ld rfl row3); apply bk 6 rfl (rd_fa rfl fld30_0); apply bk 5 rfl (rd_fa rfl fld116_3); apply bk 4 rfl (rd_ld rfl row3); apply bk 3 rfl (rd_fa rfl fld116_2); apply bk 2 rfl (rd_ld rfl row2); apply bk 1 rfl (rd_fa rfl fld116_1); apply bk 0 rfl (rd_move rfl); exact .nil) ?_
      refine tr 11 ?_
      refine rc (hs := given17_spec _ ⟨kind, ⟨okind, osrc, odst, oamt, okey, oslot, oshard⟩, id, name, nn, why, slot, epoch, at_, last, A, c, data⟩ (Vw.sep vA (by repeat (first | with_reducible exact Sel.head | apply Sel.tail))) hl) (k := ?_)
      rintro ⟨A1, c1⟩ -
      simp only [GCmd.L, GCmd.v]
      try simp only [List.cons_append, List.nil_append]
      refine nx ?_
      refine any_next (by apply bk 13 rfl (rd_bd [_, _, _, _, _, _] zero53 plc53); apply bd 10; apply bd 9; apply bd 8; apply bk 7 rfl (rd_ld rfl row3); apply bk 6 rfl (rd_fa rfl fld30_0); apply bk 5 rfl (rd_fa rfl fld116_3); apply bk 4 rfl (rd_ld rfl row3); apply bk 3 rfl (rd_fa rfl fld116_2); apply bk 2 rfl (rd_ld rfl row2); apply bk 1 rfl (rd_fa rfl fld116_1); apply bk 0 rfl (rd_move rfl); exact .nil) ?_
      refine ta 12 rfl (rd_bd [_, _, _, _, _, _, _, _, _, _, _, _, _, _, _, _, _, _] zero49 plc49) ?_
      refine tr 14 ?_
      refine rc (hs := toldNil_spec _ on oph ⟨xg, ⟨kind, ⟨okind, osrc, odst, oamt, okey, oslot, oshard⟩, id, name, nn, why, slot, epoch, at_, last, A1, c1, data⟩⟩ ⟨0, false, ⟨0, 0, none, 0, []⟩, none, 0, []⟩) (k := ?_)
      rintro ⟨⟩ -
      try simp only [List.cons_append, List.nil_append]
      refine nx ?_
      refine any_next (by apply bd 12; apply bd 13; apply bd 7; apply bd 6; apply bd 5; apply bd 4; apply bd 3; apply bd 2; apply bd 1; apply bd 0; exact .nil) ?_
      refine ta 15 rfl (rd_move rfl) ?_
      refine ta 16 rfl (rd_extract rfl rfl) ?_
      refine ta 17 rfl (rd_extract rfl rfl) ?_
      refine tr 19 ?_
      first | refine r_sa row79 ?_ | refine r_sm row79 ?_
      refine nx ?_
      refine any_next (by apply bk 17 rfl (rd_extract rfl rfl); apply bd 16; apply bd 15; exact .nil) ?_
      refine ta 20 rfl (rd_assign rfl) ?_
      refine any_nil (by kernel_rfl) ?_
      refine St.then_n ?_
      exact St.sb (St.kq [(1, _), (2, _), (3, _), (4, _), (5, _)] (h := hK b4 trivial))
  rintro b4 -
  refine sr ?_
  refine rr (rd_move rfl) ?_
  refine rc (hs := auRowsNil_spec _) (k := ?_)
  rintro ⟨⟩ -
  try simp only [List.cons_append, List.nil_append]
  refine rr (rd_move rfl) ?_
  refine rr (rd_extract rfl rfl) ?_
  refine rr (rd_extract rfl rfl) ?_
  refine rr (rd_assign rfl) ?_
  refine rr (rd_assign rfl) ?_
  refine run_nil ?_
  refine St.kp [(1, _), (3, _), (4, _), (5, _), (6, _), (7, _)] ?_
  refine St.then_n ?_
  refine sr ?_
  refine rr (rd_bd [_, _, _, _, _] zero79 plc79) ?_
  refine r_al zero79 fun b8 => ?_
  first | refine r_sa row79 ?_ | refine r_sm row79 ?_
  refine nx ?_
  refine sr ?_
  refine rr (rd_move rfl) ?_
  refine rr (rd_fa rfl fld116_1) ?_
  refine rr (rd_ld rfl row2) ?_
  refine rr (rd_fa rfl fld116_2) ?_
  refine rr (rd_ld rfl row3) ?_
  refine rc (hs := asks17_nil _ on oph) (k := ?_)
  rintro v38 -
  simp only [List.cons_append, List.nil_append]
  refine St.sl (P := ownQ GAsk.L 49 18 v38 0 []) (St.Q_sl fun A3 c3 hv3 _ _ _ => ?_)
  subst hv3
  try simp only [List.cons_append, List.nil_append]
  refine rr (rd_len Try.underlying41 rfl) ?_
  refine rr ((rd_eq rfl rfl).eq (show _ = Value.bool true from rfl)) ?_
  refine rr (rd_move rfl) ?_
  first | refine sk ?_ | (refine rr (rd_ldr [_, _, _, _, _] rfl row79) ?_)
  first | refine sk ?_ | (refine rr (rd_ldr [_, _, _, _, _] rfl row79) ?_)
  first | refine sk ?_ | (refine rr (rd_struct_eq (q := true) rfl rfl (seq_ccmd ..) rfl) ?_)
  refine rr (rd_pick rfl rfl) ?_
  refine rr (rd_move rfl) ?_
  first | refine sk ?_ | (refine rr (rd_move rfl) ?_)
  first | refine sk ?_ | (refine rr (rd_not rfl) ?_)
  refine rr (rd_pick rfl rfl) ?_
  refine rr (rd_move rfl) ?_
  first | refine sk ?_ | (refine rr (rd_move rfl) ?_)
  first | refine sk ?_ | (refine rr (rd_len Try.underlying31 rfl) ?_)
  first | refine sk ?_ | (refine rr ((rd_eq rfl rfl).eq (show _ = Value.bool true from rfl)) ?_)
  refine rr (rd_pick rfl rfl) ?_
  refine rr (rd_move rfl) ?_
  first | refine sk ?_ | (refine rr (rd_move rfl) ?_)
  first | refine sk ?_ | (refine rr (rd_not rfl) ?_)
  refine rr (rd_pick rfl rfl) ?_
  refine rr (rd_move rfl) ?_
  first | refine sk ?_ | (refine rr (rd_move rfl) ?_)
  first
    | refine sk ?_
    | (refine rc (hs := auLeftNil_spec _) (k := ?_)
       rintro ⟨⟩ -
       try simp only [List.cons_append, List.nil_append])
  first | refine sk ?_ | (refine rr ((rd_eq rfl rfl).eq (show _ = Value.bool true from rfl)) ?_)
  refine rr (rd_pick rfl rfl) ?_
  refine rr (rd_move rfl) ?_
  first
    | refine sk ?_
    | (refine rc (hs := known17_spec _) (k := ?_)
       rintro ⟨⟩ -
       try simp only [List.cons_append, List.nil_append])
  refine rr (rd_pick rfl rfl) ?_
  refine rr (rd_assign rfl) ?_
  refine run_nil ?_
  refine St.kp [(2, _)] ?_
  refine St.then_n ?_
  refine do_ret ?_
  refine do_ret1 Try.results11 (res_tmp rfl) ?_
  intro w hw
  exact ⟨rfl, hw.to_fr (by repeat (first | with_reducible exact Sel.head | apply Sel.tail))⟩
end Go.Proofs.Ytglcmlicfmmlpaa
