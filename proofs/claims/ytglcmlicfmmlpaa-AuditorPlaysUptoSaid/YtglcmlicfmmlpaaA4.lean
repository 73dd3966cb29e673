/-
  Rows in the order of their names: the library's merging in place.
  Rows in the order of their names: the library's merging in place, walked.
-/
import Derived.Test.YtglcmlicfmmlpaaA1
namespace Go.Proofs.Ytglcmlicfmmlpaa
open Go.RowKit
set_option linter.unusedSimpArgs false
set_option linter.unusedVariables false

theorem getu {p u x s : List GRow} {q : Nat} {y : GRow} (h : u[q]? = some y) : (p ++ u ++ x ++ s)[p.length + q]? = some y := by
  have := (List.getElem?_eq_some_iff.1 h).1
  rw [List.append_assoc, List.append_assoc, List.getElem?_append_right (by omega), Nat.add_sub_cancel_left, List.getElem?_append_left this, h]
theorem getx {p u x s : List GRow} {q : Nat} {y : GRow} (h : x[q]? = some y) : (p ++ u ++ x ++ s)[p.length + u.length + q]? = some y := by
  have := (List.getElem?_eq_some_iff.1 h).1
  rw [List.append_assoc, List.getElem?_append_right (by simp), List.length_append, Nat.add_sub_cancel_left, List.getElem?_append_left this, h]
theorem setR (P Q : List GRow) (z y : GRow) : ((P ++ z :: y :: Q).set P.length y).set (P.length + 1) z = P ++ y :: z :: Q := by
  rw [List.set_append_right _ _ (Nat.le_refl _), Nat.sub_self, List.set_cons_zero, List.set_append_right _ _ (by omega), Nat.add_sub_cancel_left, List.set_cons_succ, List.set_cons_zero]
theorem setL' (P Q : List GRow) (z y : GRow) : ((P ++ y :: z :: Q).set (P.length + 1) y).set P.length z = P ++ z :: y :: Q := by
  rw [List.set_append_right _ _ (by omega), Nat.add_sub_cancel_left, List.set_cons_succ, List.set_cons_zero, List.set_append_right _ _ (Nat.le_refl _), Nat.sub_self, List.set_cons_zero]
theorem getP0 (P Q : List GRow) (z y : GRow) : (P ++ z :: y :: Q)[P.length]? = some z := by rw [List.getElem?_append_right (Nat.le_refl _), Nat.sub_self]; rfl
theorem getP1 (P Q : List GRow) (z y : GRow) : (P ++ z :: y :: Q)[P.length + 1]? = some y := by rw [List.getElem?_append_right (by omega), Nat.add_sub_cancel_left]; rfl
theorem srt_get {l : List GRow} (h : Srt l) {i j : Nat} {a b : GRow} (ha : l[i]? = some a) (hb : l[j]? = some b) (hij : i ≤ j) : ¬ lt b a := by
  obtain ⟨hi, rfl⟩ := List.getElem?_eq_some_iff.1 ha
  obtain ⟨hj, rfl⟩ := List.getElem?_eq_some_iff.1 hb
  rcases Nat.lt_or_eq_of_le hij with h1 | rfl
  · exact List.pairwise_iff_getElem.1 h i j hi hj h1
  · unfold lt; rw [cmpB_self]; omega
theorem mem_take' {l : List GRow} {i : Nat} {y : GRow} (h : y ∈ l.take i) : ∃ j, j < i ∧ l[j]? = some y := by
  obtain ⟨j, hj⟩ := List.mem_iff_getElem?.1 h
  have := (List.getElem?_eq_some_iff.1 hj).1
  rw [List.length_take] at this
  exact ⟨j, by omega, by rw [List.getElem?_take_of_lt (by omega)] at hj; exact hj⟩
theorem mem_drop' {l : List GRow} {i : Nat} {y : GRow} (h : y ∈ l.drop i) : ∃ j, i ≤ j ∧ l[j]? = some y := by
  obtain ⟨j, hj⟩ := List.mem_iff_getElem?.1 h
  rw [List.getElem?_drop] at hj
  exact ⟨i + j, by omega, hj⟩
theorem lt_le {a b c : GRow} (h1 : ¬ lt b a) (h2 : lt b c) : lt a c := by
  by_cases h : lt a c
  · exact h
  · exact absurd h2 (nlt_trans h h1)
theorem le_lt {a b c : GRow} (h1 : lt a b) (h2 : ¬ lt c b) : lt a c := by
  by_cases h : lt a c
  · exact h
  · exact absurd h1 (nlt_trans h2 h)
theorem mrg_one_left {z : GRow} {x : List GRow} {i : Nat} (hx : Srt x) (h1 : i = 0 ∨ ∃ y, x[i - 1]? = some y ∧ lt y z) (h2 : x.length ≤ i ∨ ∃ y, x[i]? = some y ∧ ¬ lt y z) : mrg [z] x = x.take i ++ z :: x.drop i := by
  have e := mrg_split [] [z] (x.take i) (x.drop i) (by simp) (fun y hy w hw => by
    obtain rfl := List.mem_singleton.1 hw
    obtain ⟨j, hj, hy⟩ := mem_take' hy
    rcases h1 with h1 | ⟨y0, h0, h1⟩
    · omega
    · exact lt_le (srt_get hx hy h0 (by omega)) h1)
  rw [List.take_append_drop, List.nil_append] at e
  rw [e]
  have e2 : mrg [z] (x.drop i) = z :: x.drop i := by
    cases hd : x.drop i with
    | nil => simp [mrg]
    | cons y l =>
      rw [mrg_cons, if_neg, mrg]
      rcases h2 with h2 | ⟨y0, h0, h2⟩
      · rw [List.drop_eq_nil_of_le h2] at hd; cases hd
      · have := congrArg (·[0]?) hd
        simp only [List.getElem?_drop, Nat.add_zero, List.getElem?_cons_zero] at this
        rw [h0] at this
        cases this
        exact h2
  rw [e2]
  simp [mrg]
theorem mrg_one_right {z : GRow} {u : List GRow} {i : Nat} (hu : Srt u) (h1 : i = 0 ∨ ∃ y, u[i - 1]? = some y ∧ ¬ lt z y) (h2 : u.length ≤ i ∨ ∃ y, u[i]? = some y ∧ lt z y) : mrg u [z] = u.take i ++ z :: u.drop i := by
  have e := mrg_split (u.take i) (u.drop i) [] [z] (fun y hy w hw => by
    obtain rfl := List.mem_singleton.1 hw
    obtain ⟨j, hj, hy⟩ := mem_take' hy
    rcases h1 with h1 | ⟨y0, h0, h1⟩
    · omega
    · exact nlt_trans (srt_get hu hy h0 (by omega)) h1) (by simp)
  rw [List.take_append_drop, List.nil_append] at e
  rw [e, mrg_nil_right]
  have e2 : mrg (u.drop i) [z] = z :: u.drop i := by
    cases hd : u.drop i with
    | nil => simp [mrg]
    | cons y l =>
      rw [mrg_cons, if_pos, mrg_nil_right]
      rcases h2 with h2 | ⟨y0, h0, h2⟩
      · rw [List.drop_eq_nil_of_le h2] at hd; cases hd
      · have := congrArg (·[0]?) hd
        simp only [List.getElem?_drop, Nat.add_zero, List.getElem?_cons_zero] at this
        rw [h0] at this
        cases this
        exact h2
  rw [e2]
/-- Where two parts are parted. -/
theorem mrg_parts {u x : List GRow} {i j : Nat} (hu : Srt u) (hx : Srt x) (h1 : i = 0 ∨ x.length ≤ j ∨ ∃ y w, u[i - 1]? = some y ∧ x[j]? = some w ∧ ¬ lt w y) (h2 : j = 0 ∨ u.length ≤ i ∨ ∃ y w, u[i]? = some y ∧ x[j - 1]? = some w ∧ lt w y) :
    mrg u x = mrg (u.take i) (x.take j) ++ mrg (u.drop i) (x.drop j) := by
  have e := mrg_split (u.take i) (u.drop i) (x.take j) (x.drop j) (fun y hy w hw => by
    obtain ⟨q, hq, hy⟩ := mem_take' hy
    obtain ⟨t, ht, hw⟩ := mem_drop' hw
    rcases h1 with h1 | h1 | ⟨y0, w0, k1, k2, k3⟩
    · omega
    · have := (List.getElem?_eq_some_iff.1 hw).1; omega
    · exact nlt_trans (srt_get hu hy k1 (by omega)) (nlt_trans k3 (srt_get hx k2 hw ht))) (fun w hw y hy => by
    obtain ⟨q, hq, hw⟩ := mem_take' hw
    obtain ⟨t, ht, hy⟩ := mem_drop' hy
    rcases h2 with h2 | h2 | ⟨y0, w0, k1, k2, k3⟩
    · omega
    · have := (List.getElem?_eq_some_iff.1 hy).1; omega
    · exact le_lt (lt_le (srt_get hx hw k2 (by omega)) k3) (srt_get hu k1 hy ht))
  rwa [List.take_append_drop, List.take_append_drop] at e
theorem mrg_empty {u x : List GRow} (h : u.length = 0 ∨ x.length = 0) : mrg u x = u ++ x := by
  rcases h with h | h
  · obtain rfl := List.eq_nil_of_length_eq_zero h; simp [mrg]
  · obtain rfl := List.eq_nil_of_length_eq_zero h; rw [mrg_nil_right, List.append_nil]
theorem app_empty {u x : List GRow} (h : u.length = 0 ∨ x.length = 0) : u ++ x = x ++ u := by
  rcases h with h | h
  · obtain rfl := List.eq_nil_of_length_eq_zero h; simp
  · obtain rfl := List.eq_nil_of_length_eq_zero h; simp
theorem Srt.take {l : List GRow} (h : Srt l) (i : Nat) : Srt (l.take i) := List.Pairwise.sublist (List.take_sublist i l) h
theorem Srt.drop {l : List GRow} (h : Srt l) (i : Nat) : Srt (l.drop i) := List.Pairwise.sublist (List.drop_sublist i l) h
theorem eu {i : Int} {k : Nat} (h : i = k) : Value.int .u64 i = .int .u64 (k : Int) := by rw [h]
set_option maxRecDepth 4000 in
set_option maxHeartbeats 4000000 in
theorem symMerge_spec : ∀ (kk : Nat) (F : HP) (v : Value) (n a m b : Nat) (p u x s : List GRow), p.length = a → a + u.length = m → m + x.length = b → b ≤ n → n ≤ 4611686018427387904 → 0 < u.length → 0 < x.length → u.length + x.length ≤ kk → Srt u → Srt x →
    Spec Try.prog 138 [v, .int .i64 a, .int .i64 m, .int .i64 b, cmpV] [rq v n (p ++ u ++ x ++ s)] F (fun _ : Unit => True) (fun _ => .tuple #[]) (fun _ => [rq v n (p ++ mrg u x ++ s)]) := by
  intro kk
  induction kk with
  | zero => intro F v n a m b p u x s _ _ _ _ _ h1 _ h2; omega
  | succ kk IH =>
  intro F v n a m b p u x s hp hu hx hb hn hu0 hx0 hk su sx ω w hh
  refine enter Try.func138 rfl Try.ntmps138 rfl hh ?_
  simp only [List.cons_append, List.nil_append, argsB]
  subst hp hu hx
  refine St.Q_some (by omega) fun g c hv hc hm => ?_
  subst hv
  refine do_seq ?_
  refine sr ?_
  refine rr (rd_move rfl) ?_
  refine rr (rd_move rfl) ?_
  refine rr (rd_subi rfl rfl) ?_
  refine rr (rd_eq rfl rfl) ?_
  refine nx ?_
  first | refine do_condp rfl (fun h28 => ?_) (fun h28 => ?_) | refine do_cond rfl (fun h28 => ?_) (fun h28 => ?_)
  · obtain ⟨z, rfl⟩ := List.length_eq_one_iff.1 (show u.length = 1 by omega)
    simp only [List.length_cons, List.length_nil, Nat.zero_add] at *
    refine sr ?_
    refine rr (rd_move rfl) ?_
    refine rr (rd_assign rfl) ?_
    refine run_nil ?_
    refine St.kp [(0, _), (1, _), (3, _), (4, _), (10, _)] ?_
    refine St.then_n ?_
    refine sr ?_
    refine rr (rd_move rfl) ?_
    refine rr (rd_assign rfl) ?_
    refine nx ?_
    refine do_seq ?_
    refine do_block ?_
    refine do_lp (fun y : Nat × Nat => y.1 ≤ y.2 ∧ y.2 ≤ x.length ∧ (y.1 = 0 ∨ ∃ q, x[y.1 - 1]? = some q ∧ lt q z) ∧ (x.length ≤ y.2 ∨ ∃ q, x[y.2]? = some q ∧ ¬ lt q z)) (fun y => [(0, .slice (some ⟨g, 0, none⟩) n c), (1, .int .i64 p.length), (4, cmpV), (10, .int .i64 ((p.length + 1 + y.1 : Nat) : Int)), (11, .int .i64 ((p.length + 1 + y.2 : Nat) : Int))]) (fun _ => [rq (.slice (some ⟨g, 0, none⟩) n c) n (p ++ [z] ++ x ++ s), F]) (fun y => y.2 - y.1) (0, x.length) ⟨Nat.zero_le _, Nat.le_refl _, .inl rfl, .inl (Nat.le_refl _)⟩ ?_
    rintro ⟨i, j⟩ ⟨hij, hj, h1, h2⟩
    dsimp only at hij hj h1 h2 ⊢
    refine do_seq ?_
    refine sr ?_
    refine rr (rd_move rfl) ?_
    refine rr (rd_move rfl) ?_
    refine rr (rd_lt rfl rfl) ?_
    refine nx ?_
    first | refine do_condp rfl (fun h33 => ?_) (fun h33 => ?_) | refine do_cond rfl (fun h33 => ?_) (fun h33 => ?_)
    · have hq := List.getElem?_eq_getElem (l := x) (i := (i + j) / 2) (by omega)
      generalize x[(i + j) / 2]'_ = y at hq
      refine do_skip ?_
      refine St.then_n ?_
      refine do_block ?_
      refine sr ?_
      refine rr (rd_move rfl) ?_
      refine rr (rd_move rfl) ?_
      refine rr ((rd_addi rfl rfl).eq (ei (k := p.length + 1 + i + (p.length + 1 + j)) (by omega))) ?_
      refine rr (rd_cvu Try.underlying3 Try.underlying184 rfl) ?_
      refine rr ((rd_shr (by decide) rfl rfl).eq (shr1 _)) ?_
      refine rr ((rd_cvi Try.underlying184 Try.underlying3 rfl).eq (ei (k := p.length + 1 + (i + j) / 2) (by omega))) ?_
      refine rr (rd_assign rfl) ?_
      refine run_nil ?_
      refine St.kp [(0, _), (1, _), (4, _), (10, _), (11, _), (12, _)] ?_
      refine St.then_n ?_
      refine do_seq ?_
      refine do_draw [[9, 10], [3, 4, 9, 10], [3, 4, 9, 10], [4, 9, 10], [9, 10], [7, 8, 9, 10], [7, 8, 9, 10], [8, 9, 10], [9, 10], [10], []] (by kernel_rfl) rfl ?_
      refine ta 0 rfl (rd_move rfl) ?_
      refine ta 1 rfl (rd_move rfl) ?_
      refine ta 2 rfl (rd_move rfl) ?_
      refine ta 3 rfl ((rd_indexAddr Try.underlying31 ei108 rfl rfl (by omega) (by omega)).eq (show _ = Value.pointer (some ⟨g, 0 + (p.length + 1 + (i + j) / 2) * 2, none⟩) from rfl)) ?_
      refine ta 4 rfl (rd_ldr _ rfl row108 (cells_Q rowC_len (getx (u := [z]) hq))) ?_
      refine ta 5 rfl (rd_move rfl) ?_
      refine ta 6 rfl (rd_move rfl) ?_
      refine ta 7 rfl ((rd_indexAddr Try.underlying31 ei108 rfl rfl (by omega) (by omega)).eq (show _ = Value.pointer (some ⟨g, 0 + (p.length + 0) * 2, none⟩) from rfl)) ?_
      refine ta 8 rfl (rd_ldr _ rfl row108 (cells_Q rowC_len (getu (u := [z]) (q := 0) rfl))) ?_
      refine tr 9 ?_
      refine rcv (hs := rowCmp_spec _ y z) (k := ?_)
      rintro ⟨⟩ -
      try simp only [List.cons_append, List.nil_append]
      refine nx ?_
      refine any_next (by apply bd 8; apply bd 7; apply bd 6; apply bd 5; apply bd 4; apply bd 3; apply bd 2; apply bd 1; apply bd 0; exact .nil) ?_
      refine ta 10 rfl (rd_lt rfl rfl) ?_
      refine any_nil (by kernel_rfl) ?_
      refine St.kp [(0, _), (1, _), (4, _), (10, _), (11, _), (12, _), (50, _)] ?_
      refine St.then_n ?_
      first | refine do_condp rfl (fun h50 => ?_) (fun h50 => ?_) | refine do_cond rfl (fun h50 => ?_) (fun h50 => ?_)
      · refine do_region ?_
        refine rr (rd_move rfl) ?_
        refine rr ((rd_addi rfl rfl).eq (ei (k := p.length + 1 + ((i + j) / 2 + 1)) (by omega))) ?_
        refine rr (rd_assign rfl) ?_
        refine run_nil ?_
        refine St.kp [(0, _), (1, _), (4, _), (10, _), (11, _)] ?_
        refine St.blk_n ?_
        refine St.then_n ?_
        first
          | exact loop_bk ((i + j) / 2 + 1, j) ⟨by dsimp only; omega, hj, .inr ⟨y, by simpa using hq, by assumption⟩, h2⟩
          | exact loop_bk (i, (i + j) / 2) ⟨by dsimp only; omega, by dsimp only; omega, h1, .inr ⟨y, hq, by assumption⟩⟩
      · refine do_region ?_
        refine rr (rd_move rfl) ?_
        refine rr (rd_assign rfl) ?_
        refine run_nil ?_
        refine St.blk_n ?_
        refine St.then_n ?_
        first
          | exact loop_bk ((i + j) / 2 + 1, j) ⟨by dsimp only; omega, hj, .inr ⟨y, by simpa using hq, by assumption⟩, h2⟩
          | exact loop_bk (i, (i + j) / 2) ⟨by dsimp only; omega, by dsimp only; omega, h1, .inr ⟨y, hq, by assumption⟩⟩
    · obtain rfl : i = j := by omega
      have hmr := mrg_one_left sx h1 h2
      rw [hmr]
      obtain ⟨x1, hx1⟩ : ∃ x1, x.take i = x1 := ⟨_, rfl⟩
      obtain ⟨x2, hx2⟩ : ∃ x2, x.drop i = x2 := ⟨_, rfl⟩
      have hxx : x = x1 ++ x2 := by rw [← hx1, ← hx2, List.take_append_drop]
      have hl1 : x1.length = i := by rw [← hx1, List.length_take]; omega
      have hl2 : x.length = x1.length + x2.length := by rw [hxx, List.length_append]
      rw [hx1, hx2]
      rw [show p ++ [z] ++ x ++ s = (p ++ []) ++ z :: (x1 ++ (x2 ++ s)) by rw [hxx]; simp]
      refine do_exit ?_
      refine St.then_x ?_
      refine St.then_x ?_
      refine St.blk_s ?_
      refine St.then_n ?_
      refine do_seq ?_
      refine sr ?_
      refine rr (rd_move rfl) ?_
      refine rr (rd_assign rfl) ?_
      refine run_nil ?_
      refine St.kp [(0, _), (10, _), (13, _)] ?_
      refine St.then_n ?_
      refine do_block ?_
      refine do_lp (fun y : List GRow × List GRow => y.1 ++ y.2 = x1) (fun y => [(0, .slice (some ⟨g, 0, none⟩) n c), (10, .int .i64 ((p.length + 1 + i : Nat) : Int)), (13, .int .i64 ((p.length + y.1.length : Nat) : Int))]) (fun y => [rq (.slice (some ⟨g, 0, none⟩) n c) n ((p ++ y.1) ++ z :: (y.2 ++ (x2 ++ s))), F]) (fun y => y.2.length) ([], x1) rfl ?_
      rintro ⟨A, B⟩ hAB
      dsimp only at hAB ⊢
      have hAl : A.length + B.length = i := by rw [← List.length_append, hAB, hl1]
      refine do_seq ?_
      refine sr ?_
      refine rr (rd_move rfl) ?_
      refine rr (rd_move rfl) ?_
      refine rr (rd_subi rfl rfl) ?_
      refine rr (rd_lt rfl rfl) ?_
      refine nx ?_
      first | refine do_condp rfl (fun h58 => ?_) (fun h58 => ?_) | refine do_cond rfl (fun h58 => ?_) (fun h58 => ?_)
      · obtain ⟨y, B, rfl⟩ : ∃ y B', B = y :: B' := by
          cases B with
          | nil => simp at hAl; omega
          | cons y B => exact ⟨y, B, rfl⟩
        have hpl : (p ++ A).length = p.length + A.length := List.length_append
        simp only [List.length_cons] at hAl
        simp only [List.cons_append]
        refine do_skip ?_
        refine St.then_n ?_
        refine do_seq ?_
        refine do_block ?_
        refine do_draw [[14, 15, 16, 17], [14, 15, 16, 17], [16, 17], [4, 16, 17], [16, 17], [8, 9, 14, 15, 16, 17], [7, 8, 9, 14, 15, 16, 17], [8, 9, 14, 15, 16, 17], [9, 14, 15, 16, 17], [14, 15, 16, 17], [12, 13, 14, 15, 16, 17], [12, 13, 14, 15, 16, 17], [13, 14, 15, 16, 17], [14, 15, 16, 17], [15, 16, 17], [16, 17], [17], []] (by kernel_rfl) rfl ?_
        refine ta 0 rfl (rd_move rfl) ?_
        refine ta 1 rfl (rd_move rfl) ?_
        refine ta 2 rfl (rd_move rfl) ?_
        refine ta 3 rfl (rd_move rfl) ?_
        refine ta 4 rfl (rd_addi rfl rfl) ?_
        refine ta 5 rfl (rd_move rfl) ?_
        refine ta 6 rfl (rd_move rfl) ?_
        refine ta 7 rfl (rd_addi rfl rfl) ?_
        refine ta 8 rfl ((rd_indexAddr Try.underlying31 ei108 rfl rfl (by omega) (by omega)).eq (show _ = Value.pointer (some ⟨g, 0 + ((p ++ A).length + 1) * 2, none⟩) by rw [show Int.toNat (((p.length + A.length : Nat) : Int) + 1) = (p ++ A).length + 1 by omega])) ?_
        refine ta 9 rfl (rd_ldr _ rfl row108 (cells_Q rowC_len (getP1 _ _ _ _))) ?_
        refine ta 10 rfl (rd_move rfl) ?_
        refine ta 11 rfl (rd_move rfl) ?_
        refine ta 12 rfl ((rd_indexAddr Try.underlying31 ei108 rfl rfl (by omega) (by omega)).eq (show _ = Value.pointer (some ⟨g, 0 + (p ++ A).length * 2, none⟩) by rw [hpl]; rfl)) ?_
        refine ta 13 rfl (rd_ldr _ rfl row108 (cells_Q rowC_len (getP0 _ _ _ _))) ?_
        refine ta 14 rfl ((rd_indexAddr Try.underlying31 ei108 rfl rfl (by omega) (by omega)).eq (show _ = Value.pointer (some ⟨g, 0 + (p ++ A).length * 2, none⟩) by rw [hpl]; rfl)) ?_
        refine tr 15 ?_
        refine r_stQ (n := n) rowC_len rowC_one y (p ++ A).length row108 (by omega) ?_
        refine nx ?_
        refine any_next (by apply bd 14; apply bd 13; apply bd 12; apply bd 11; apply bd 10; apply bd 9; apply bd 8; apply bd 7; apply bd 6; apply bd 5; apply bk 4 rfl (rd_addi rfl rfl); apply bk 3 rfl (rd_move rfl); apply bk 2 rfl (rd_move rfl); apply bd 1; apply bd 0; exact .nil) ?_
        refine ta 16 rfl ((rd_indexAddr Try.underlying31 ei108 rfl rfl (by omega) (by omega)).eq (show _ = Value.pointer (some ⟨g, 0 + ((p ++ A).length + 1) * 2, none⟩) by rw [show Int.toNat (((p.length + A.length : Nat) : Int) + 1) = (p ++ A).length + 1 by omega])) ?_
        refine tr 17 ?_
        refine r_stQ (n := n) rowC_len rowC_one z ((p ++ A).length + 1) row108 (by omega) ?_
        rw [setR]
        refine nx ?_
        refine any_next (by apply bd 16; apply bd 4; apply bd 3; apply bd 2; exact .nil) ?_
        refine any_nil (by kernel_rfl) ?_
        refine St.kp [(0, _), (10, _), (13, _)] ?_
        refine St.blk_n ?_
        refine St.then_n ?_
        refine do_region ?_
        refine rr (rd_move rfl) ?_
        refine rr ((rd_addi rfl rfl).eq (ei (k := p.length + (A ++ [y]).length) (by simp; omega))) ?_
        refine rr (rd_assign rfl) ?_
        refine nx ?_
        rw [show p ++ A ++ y :: z :: (B ++ (x2 ++ s)) = (p ++ (A ++ [y])) ++ z :: (B ++ (x2 ++ s)) by simp]
        exact loop_bk (A ++ [y], B) (by simpa using hAB) (hμ := by simp)
      · obtain rfl : B = [] := List.eq_nil_of_length_eq_zero (by omega)
        rw [List.append_nil] at hAB
        subst hAB
        refine do_exit ?_
        refine St.then_x ?_
        refine St.then_x ?_
        refine St.blk_s ?_
        refine St.then_n ?_
        refine do_ret ?_
        refine St.then_r ?_
        refine do_ret0 Try.results138 ?_
        intro w hw
        rw [show p ++ (A ++ z :: x2) ++ s = p ++ A ++ z :: ([] ++ (x2 ++ s)) by simp]
        exact ⟨(), trivial, rfl, hw.sb⟩
  · refine do_skip ?_
    refine St.then_n ?_
    refine do_seq ?_
    refine sr ?_
    refine rr (rd_move rfl) ?_
    refine rr (rd_move rfl) ?_
    refine rr (rd_subi rfl rfl) ?_
    refine rr (rd_eq rfl rfl) ?_
    refine run_nil ?_
    refine St.kp [(0, _), (1, _), (2, _), (3, _), (4, _), (80, _)] ?_
    refine St.then_n ?_
    first | refine do_condp rfl (fun h80 => ?_) (fun h80 => ?_) | refine do_cond rfl (fun h80 => ?_) (fun h80 => ?_)
    · obtain ⟨z, rfl⟩ := List.length_eq_one_iff.1 (show x.length = 1 by omega)
      simp only [List.length_cons, List.length_nil, Nat.zero_add] at *
      refine sr ?_
      refine rr (rd_move rfl) ?_
      refine rr (rd_assign rfl) ?_
      refine run_nil ?_
      refine St.kp [(0, _), (2, _), (4, _), (14, _)] ?_
      refine St.then_n ?_
      refine sr ?_
      refine rr (rd_move rfl) ?_
      refine rr (rd_assign rfl) ?_
      refine nx ?_
      refine do_seq ?_
      refine do_block ?_
      refine do_lp (fun y : Nat × Nat => y.1 ≤ y.2 ∧ y.2 ≤ u.length ∧ (y.1 = 0 ∨ ∃ q, u[y.1 - 1]? = some q ∧ ¬ lt z q) ∧ (u.length ≤ y.2 ∨ ∃ q, u[y.2]? = some q ∧ lt z q)) (fun y => [(0, .slice (some ⟨g, 0, none⟩) n c), (2, .int .i64 ((p.length + u.length : Nat) : Int)), (4, cmpV), (14, .int .i64 ((p.length + y.1 : Nat) : Int)), (15, .int .i64 ((p.length + y.2 : Nat) : Int))]) (fun _ => [rq (.slice (some ⟨g, 0, none⟩) n c) n (p ++ u ++ [z] ++ s), F]) (fun y => y.2 - y.1) (0, u.length) ⟨Nat.zero_le _, Nat.le_refl _, .inl rfl, .inl (Nat.le_refl _)⟩ ?_
      rintro ⟨i, j⟩ ⟨hij, hj, h1, h2⟩
      dsimp only at hij hj h1 h2 ⊢
      refine do_seq ?_
      refine sr ?_
      refine rr (rd_move rfl) ?_
      refine rr (rd_move rfl) ?_
      refine rr (rd_lt rfl rfl) ?_
      refine nx ?_
      first | refine do_condp rfl (fun h85 => ?_) (fun h85 => ?_) | refine do_cond rfl (fun h85 => ?_) (fun h85 => ?_)
      · have hq := List.getElem?_eq_getElem (l := u) (i := (i + j) / 2) (by omega)
        generalize u[(i + j) / 2]'_ = y at hq
        refine do_skip ?_
        refine St.then_n ?_
        refine do_block ?_
        refine sr ?_
        refine rr (rd_move rfl) ?_
        refine rr (rd_move rfl) ?_
        refine rr ((rd_addi rfl rfl).eq (ei (k := p.length + i + (p.length + j)) (by omega))) ?_
        refine rr (rd_cvu Try.underlying3 Try.underlying184 rfl) ?_
        refine rr ((rd_shr (by decide) rfl rfl).eq (shr1 _)) ?_
        refine rr ((rd_cvi Try.underlying184 Try.underlying3 rfl).eq (ei (k := p.length + (i + j) / 2) (by omega))) ?_
        refine rr (rd_assign rfl) ?_
        refine run_nil ?_
        refine St.kp [(0, _), (2, _), (4, _), (14, _), (15, _), (16, _)] ?_
        refine St.then_n ?_
        refine do_seq ?_
        refine do_draw [[9, 10, 11], [3, 4, 9, 10, 11], [3, 4, 9, 10, 11], [4, 9, 10, 11], [9, 10, 11], [7, 8, 9, 10, 11], [7, 8, 9, 10, 11], [8, 9, 10, 11], [9, 10, 11], [10, 11], [11], []] (by kernel_rfl) rfl ?_
        refine ta 0 rfl (rd_move rfl) ?_
        refine ta 1 rfl (rd_move rfl) ?_
        refine ta 2 rfl (rd_move rfl) ?_
        refine ta 3 rfl ((rd_indexAddr Try.underlying31 ei108 rfl rfl (by omega) (by omega)).eq (show _ = Value.pointer (some ⟨g, 0 + (p.length + u.length + 0) * 2, none⟩) from rfl)) ?_
        refine ta 4 rfl (rd_ldr _ rfl row108 (cells_Q rowC_len (getx (x := [z]) (q := 0) rfl))) ?_
        refine ta 5 rfl (rd_move rfl) ?_
        refine ta 6 rfl (rd_move rfl) ?_
        refine ta 7 rfl ((rd_indexAddr Try.underlying31 ei108 rfl rfl (by omega) (by omega)).eq (show _ = Value.pointer (some ⟨g, 0 + (p.length + (i + j) / 2) * 2, none⟩) from rfl)) ?_
        refine ta 8 rfl (rd_ldr _ rfl row108 (cells_Q rowC_len (getu hq))) ?_
        refine tr 9 ?_
        refine rcv (hs := rowCmp_spec _ z y) (k := ?_)
        rintro ⟨⟩ -
        try simp only [List.cons_append, List.nil_append]
        refine nx ?_
        refine any_next (by apply bd 8; apply bd 7; apply bd 6; apply bd 5; apply bd 4; apply bd 3; apply bd 2; apply bd 1; apply bd 0; exact .nil) ?_
        refine ta 10 rfl (rd_lt rfl rfl) ?_
        refine ta 11 rfl ((rd_not rfl).eq (show _ = Value.bool (decide (¬ lt z y)) from congrArg Value.bool (by rw [← decide_not]; exact decide_eq_decide.2 Iff.rfl))) ?_
        refine any_nil (by kernel_rfl) ?_
        refine St.kp [(0, _), (2, _), (4, _), (14, _), (15, _), (16, _), (103, _)] ?_
        refine St.then_n ?_
        first | refine do_condp rfl (fun h103 => ?_) (fun h103 => ?_) | refine do_cond rfl (fun h103 => ?_) (fun h103 => ?_)
        · refine do_region ?_
          refine rr (rd_move rfl) ?_
          refine rr ((rd_addi rfl rfl).eq (ei (k := p.length + ((i + j) / 2 + 1)) (by omega))) ?_
          refine rr (rd_assign rfl) ?_
          refine run_nil ?_
          refine St.kp [(0, _), (2, _), (4, _), (14, _), (15, _)] ?_
          refine St.blk_n ?_
          refine St.then_n ?_
          first
            | exact loop_bk ((i + j) / 2 + 1, j) ⟨by dsimp only; omega, hj, .inr ⟨y, by simpa using hq, h103⟩, h2⟩
            | exact loop_bk (i, (i + j) / 2) ⟨by dsimp only; omega, by dsimp only; omega, h1, .inr ⟨y, hq, Decidable.not_not.1 h103⟩⟩
        · refine do_region ?_
          refine rr (rd_move rfl) ?_
          refine rr (rd_assign rfl) ?_
          refine run_nil ?_
          refine St.blk_n ?_
          refine St.then_n ?_
          first
            | exact loop_bk ((i + j) / 2 + 1, j) ⟨by dsimp only; omega, hj, .inr ⟨y, by simpa using hq, h103⟩, h2⟩
            | exact loop_bk (i, (i + j) / 2) ⟨by dsimp only; omega, by dsimp only; omega, h1, .inr ⟨y, hq, Decidable.not_not.1 h103⟩⟩
      · obtain rfl : i = j := by omega
        have hmr := mrg_one_right su h1 h2
        rw [hmr]
        obtain ⟨x1, hx1⟩ : ∃ x1, u.take i = x1 := ⟨_, rfl⟩
        obtain ⟨x2, hx2⟩ : ∃ x2, u.drop i = x2 := ⟨_, rfl⟩
        have hxx : u = x1 ++ x2 := by rw [← hx1, ← hx2, List.take_append_drop]
        have hl1 : x1.length = i := by rw [← hx1, List.length_take]; omega
        have hl2 : u.length = x1.length + x2.length := by rw [hxx, List.length_append]
        rw [hx1, hx2]
        rw [show p ++ u ++ [z] ++ s = (p ++ x1 ++ x2) ++ z :: ([] ++ s) by rw [hxx]; simp]
        refine do_exit ?_
        refine St.then_x ?_
        refine St.then_x ?_
        refine St.blk_s ?_
        refine St.then_n ?_
        refine do_seq ?_
        refine sr ?_
        refine rr (rd_move rfl) ?_
        refine rr (rd_assign rfl) ?_
        refine run_nil ?_
        refine St.kp [(0, _), (14, _), (17, _)] ?_
        refine St.then_n ?_
        refine do_block ?_
        refine do_lp (fun y : List GRow × List GRow => y.1 ++ y.2 = x2) (fun y => [(0, .slice (some ⟨g, 0, none⟩) n c), (14, .int .i64 ((p.length + i : Nat) : Int)), (17, .int .i64 ((p.length + i + y.1.length : Nat) : Int))]) (fun y => [rq (.slice (some ⟨g, 0, none⟩) n c) n ((p ++ x1 ++ y.1) ++ z :: (y.2 ++ s)), F]) (fun y => y.1.length) (x2, []) (by simp) ?_ (hβ := ⟨rfl, rfl, by rw [show p.length + i + x2.length = p.length + u.length by omega]; rfl, trivial⟩)
        rintro ⟨A, B⟩ hAB
        dsimp only at hAB ⊢
        have hAl : A.length + B.length = x2.length := by rw [← List.length_append, hAB]
        refine do_seq ?_
        refine sr ?_
        refine rr (rd_move rfl) ?_
        refine rr (rd_move rfl) ?_
        refine rr (rd_gt rfl rfl) ?_
        refine nx ?_
        first | refine do_condp rfl (fun h110 => ?_) (fun h110 => ?_) | refine do_cond rfl (fun h110 => ?_) (fun h110 => ?_)
        · obtain ⟨A, y, rfl, hAy⟩ : ∃ A' y, A = A' ++ [y] ∧ A.length = A'.length + 1 := by
            rcases nil_or_snoc A with rfl | h
            · simp at *
            · exact h
          have hpl : (p ++ x1 ++ A).length = p.length + i + A.length := by simp; omega
          rw [show p ++ x1 ++ (A ++ [y]) ++ z :: (B ++ s) = (p ++ x1 ++ A) ++ y :: z :: (B ++ s) by simp]
          refine do_skip ?_
          refine St.then_n ?_
          refine do_seq ?_
          refine do_block ?_
          refine do_draw [[14, 15, 16, 17], [14, 15, 16, 17], [16, 17], [4, 16, 17], [16, 17], [8, 9, 14, 15, 16, 17], [7, 8, 9, 14, 15, 16, 17], [8, 9, 14, 15, 16, 17], [9, 14, 15, 16, 17], [14, 15, 16, 17], [12, 13, 14, 15, 16, 17], [12, 13, 14, 15, 16, 17], [13, 14, 15, 16, 17], [14, 15, 16, 17], [15, 16, 17], [16, 17], [17], []] (by kernel_rfl) rfl ?_
          refine ta 0 rfl (rd_move rfl) ?_
          refine ta 1 rfl (rd_move rfl) ?_
          refine ta 2 rfl (rd_move rfl) ?_
          refine ta 3 rfl (rd_move rfl) ?_
          refine ta 4 rfl (rd_subi rfl rfl) ?_
          refine ta 5 rfl (rd_move rfl) ?_
          refine ta 6 rfl (rd_move rfl) ?_
          refine ta 7 rfl (rd_subi rfl rfl) ?_
          refine ta 8 rfl ((rd_indexAddr Try.underlying31 ei108 rfl rfl (by omega) (by omega)).eq (show _ = Value.pointer (some ⟨g, 0 + (p ++ x1 ++ A).length * 2, none⟩) by rw [show Int.toNat (((p.length + i + (A ++ [y]).length : Nat) : Int) - 1) = (p ++ x1 ++ A).length by omega])) ?_
          refine ta 9 rfl (rd_ldr _ rfl row108 (cells_Q rowC_len (getP0 _ _ _ _))) ?_
          refine ta 10 rfl (rd_move rfl) ?_
          refine ta 11 rfl (rd_move rfl) ?_
          refine ta 12 rfl ((rd_indexAddr Try.underlying31 ei108 rfl rfl (by omega) (by omega)).eq (show _ = Value.pointer (some ⟨g, 0 + ((p ++ x1 ++ A).length + 1) * 2, none⟩) by rw [show Int.toNat ((p.length + i + (A ++ [y]).length : Nat) : Int) = (p ++ x1 ++ A).length + 1 by omega])) ?_
          refine ta 13 rfl (rd_ldr _ rfl row108 (cells_Q rowC_len (getP1 _ _ _ _))) ?_
          refine ta 14 rfl ((rd_indexAddr Try.underlying31 ei108 rfl rfl (by omega) (by omega)).eq (show _ = Value.pointer (some ⟨g, 0 + ((p ++ x1 ++ A).length + 1) * 2, none⟩) by rw [show Int.toNat ((p.length + i + (A ++ [y]).length : Nat) : Int) = (p ++ x1 ++ A).length + 1 by omega])) ?_
          refine tr 15 ?_
          refine r_stQ (n := n) rowC_len rowC_one y ((p ++ x1 ++ A).length + 1) row108 (by omega) ?_
          refine nx ?_
          refine any_next (by apply bd 14; apply bd 13; apply bd 12; apply bd 11; apply bd 10; apply bd 9; apply bd 8; apply bd 7; apply bd 6; apply bd 5; apply bk 4 rfl (rd_subi rfl rfl); apply bk 3 rfl (rd_move rfl); apply bk 2 rfl (rd_move rfl); apply bd 1; apply bd 0; exact .nil) ?_
          refine ta 16 rfl ((rd_indexAddr Try.underlying31 ei108 rfl rfl (by omega) (by omega)).eq (show _ = Value.pointer (some ⟨g, 0 + (p ++ x1 ++ A).length * 2, none⟩) by rw [show Int.toNat (((p.length + i + (A ++ [y]).length : Nat) : Int) - 1) = (p ++ x1 ++ A).length by omega])) ?_
          refine tr 17 ?_
          refine r_stQ (n := n) rowC_len rowC_one z (p ++ x1 ++ A).length row108 (by omega) ?_
          rw [setL']
          refine nx ?_
          refine any_next (by apply bd 16; apply bd 4; apply bd 3; apply bd 2; exact .nil) ?_
          refine any_nil (by kernel_rfl) ?_
          refine St.kp [(0, _), (14, _), (17, _)] ?_
          refine St.blk_n ?_
          refine St.then_n ?_
          refine do_region ?_
          refine rr (rd_move rfl) ?_
          refine rr ((rd_subi rfl rfl).eq (ei (k := p.length + i + A.length) (by omega))) ?_
          refine rr (rd_assign rfl) ?_
          refine nx ?_
          rw [show p ++ x1 ++ A ++ z :: y :: (B ++ s) = (p ++ x1 ++ A) ++ z :: ((y :: B) ++ s) by simp]
          exact loop_bk (A, y :: B) (by simpa using hAB)
        · obtain rfl : A = [] := List.eq_nil_of_length_eq_zero (by omega)
          rw [List.nil_append] at hAB
          subst hAB
          refine do_exit ?_
          refine St.then_x ?_
          refine St.then_x ?_
          refine St.blk_s ?_
          refine St.then_n ?_
          refine do_ret ?_
          refine St.then_r ?_
          refine do_ret0 Try.results138 ?_
          intro w hw
          rw [show p ++ (x1 ++ z :: B) ++ s = p ++ x1 ++ [] ++ z :: (B ++ s) by simp]
          exact ⟨(), trivial, rfl, hw.sb⟩
    · have hu2 : 2 ≤ u.length := by omega
      have hx2 : 2 ≤ x.length := by omega
      obtain ⟨mid, hmid⟩ : ∃ mid, (p.length + (p.length + u.length + x.length)) / 2 = mid := ⟨_, rfl⟩
      refine do_skip ?_
      refine St.then_n ?_
      refine sr ?_
      refine rr (rd_move rfl) ?_
      refine rr (rd_move rfl) ?_
      refine rr ((rd_addi rfl rfl).eq (ei (k := p.length + (p.length + u.length + x.length)) (by omega))) ?_
      refine rr (rd_cvu Try.underlying3 Try.underlying184 rfl) ?_
      refine rr ((rd_shr (by decide) rfl rfl).eq (shr1 _)) ?_
      refine rr ((rd_cvi Try.underlying184 Try.underlying3 rfl).eq (ei (k := mid) (by omega))) ?_
      refine rr (rd_assign rfl) ?_
      refine run_nil ?_
      refine St.kp [(0, _), (1, _), (2, _), (3, _), (4, _), (18, _)] ?_
      refine St.then_n ?_
      refine sr ?_
      refine rr (rd_move rfl) ?_
      refine rr (rd_move rfl) ?_
      refine rr ((rd_addi rfl rfl).eq (ei (k := mid + (p.length + u.length)) (by omega))) ?_
      refine rr (rd_assign rfl) ?_
      refine nx ?_
      refine sr ?_
      refine rr (rd_assign rfl) ?_
      refine rr (rd_assign rfl) ?_
      refine run_nil ?_
      refine St.kp [(0, _), (1, _), (2, _), (3, _), (4, _), (18, _), (19, _)] ?_
      refine St.then_n ?_
      refine do_seq ?_
      refine sr ?_
      refine rr (rd_move rfl) ?_
      refine rr (rd_move rfl) ?_
      refine rr (rd_gt rfl rfl) ?_
      refine nx ?_
      refine do_cut (fun y : Nat × Nat => y.1 ≤ y.2 ∧ p.length ≤ y.1 ∧ y.2 ≤ p.length + u.length ∧ y.2 ≤ mid ∧ mid + u.length ≤ y.1 + u.length + x.length ∧ (y.1 = p.length ∨ y.1 + x.length = mid) ∧ (y.2 = mid ∨ y.2 = p.length + u.length)) (fun y => [(0, .slice (some ⟨g, 0, none⟩) n c), (1, .int .i64 p.length), (2, .int .i64 ((p.length + u.length : Nat) : Int)), (3, .int .i64 ((p.length + u.length + x.length : Nat) : Int)), (4, cmpV), (18, .int .i64 mid), (19, .int .i64 ((mid + (p.length + u.length) : Nat) : Int)), (20, .int .i64 y.1), (21, .int .i64 y.2)]) (fun _ => [rq (.slice (some ⟨g, 0, none⟩) n c) n (p ++ u ++ x ++ s), F]) (fun K hK => ?_) ?_
      · first | refine do_condp rfl (fun h140 => ?_) (fun h140 => ?_) | refine do_cond rfl (fun h140 => ?_) (fun h140 => ?_)
        · refine sr ?_
          refine rr (rd_move rfl) ?_
          refine rr (rd_move rfl) ?_
          refine rr ((rd_subi rfl rfl).eq (ei (k := mid - x.length) (by omega))) ?_
          refine rr (rd_assign rfl) ?_
          refine run_nil ?_
          refine St.kp [(0, _), (1, _), (2, _), (3, _), (4, _), (18, _), (19, _), (20, _)] ?_
          refine St.then_n ?_
          refine do_region ?_
          refine rr (rd_move rfl) ?_
          refine rr (rd_assign rfl) ?_
          refine nx ?_
          first
            | exact St.sb (St.kp [(0, _), (1, _), (2, _), (3, _), (4, _), (18, _), (19, _), (20, _), (21, _)] (hK (mid - x.length, mid) ⟨by dsimp only; omega, by dsimp only; omega, by dsimp only; omega, by dsimp only; omega, by dsimp only; omega, by dsimp only; omega, by dsimp only; omega⟩))
            | exact St.sb (St.kp [(0, _), (1, _), (2, _), (3, _), (4, _), (18, _), (19, _), (20, _), (21, _)] (hK (p.length, p.length + u.length) ⟨by dsimp only; omega, by dsimp only; omega, by dsimp only; omega, by dsimp only; omega, by dsimp only; omega, by dsimp only; omega, by dsimp only; omega⟩))
        · refine sr ?_
          refine rr (rd_move rfl) ?_
          refine rr (rd_assign rfl) ?_
          refine run_nil ?_
          refine St.kp [(0, _), (1, _), (2, _), (3, _), (4, _), (18, _), (19, _), (20, _)] ?_
          refine St.then_n ?_
          refine do_region ?_
          refine rr (rd_move rfl) ?_
          refine rr (rd_assign rfl) ?_
          refine nx ?_
          first
            | exact St.sb (St.kp [(0, _), (1, _), (2, _), (3, _), (4, _), (18, _), (19, _), (20, _), (21, _)] (hK (mid - x.length, mid) ⟨by dsimp only; omega, by dsimp only; omega, by dsimp only; omega, by dsimp only; omega, by dsimp only; omega, by dsimp only; omega, by dsimp only; omega⟩))
            | exact St.sb (St.kp [(0, _), (1, _), (2, _), (3, _), (4, _), (18, _), (19, _), (20, _), (21, _)] (hK (p.length, p.length + u.length) ⟨by dsimp only; omega, by dsimp only; omega, by dsimp only; omega, by dsimp only; omega, by dsimp only; omega, by dsimp only; omega, by dsimp only; omega⟩))
      rintro ⟨lo, hi⟩ ⟨g1, g2, g3, g4, g5, g6, g7⟩
      dsimp only at g1 g2 g3 g4 g5 g6 g7 ⊢
      refine sr ?_
      refine rr (rd_move rfl) ?_
      refine rr (rd_subi rfl rfl) ?_
      refine rr (rd_assign rfl) ?_
      refine nx ?_
      refine do_seq ?_
      refine do_block ?_
      refine do_lp (fun y : Nat × Nat => lo ≤ y.1 ∧ y.1 ≤ y.2 ∧ y.2 ≤ hi ∧ (y.1 = lo ∨ ∃ q t, u[y.1 - p.length - 1]? = some q ∧ x[mid - y.1]? = some t ∧ ¬ lt t q) ∧ (y.2 = hi ∨ ∃ q t, u[y.2 - p.length]? = some q ∧ x[mid - y.2 - 1]? = some t ∧ lt t q)) (fun y => [(0, .slice (some ⟨g, 0, none⟩) n c), (1, .int .i64 p.length), (2, .int .i64 ((p.length + u.length : Nat) : Int)), (3, .int .i64 ((p.length + u.length + x.length : Nat) : Int)), (4, cmpV), (18, .int .i64 mid), (19, .int .i64 ((mid + (p.length + u.length) : Nat) : Int)), (20, .int .i64 y.1), (21, .int .i64 y.2), (22, .int .i64 ((mid + (p.length + u.length) : Nat) - 1 : Int))]) (fun _ => [rq (.slice (some ⟨g, 0, none⟩) n c) n (p ++ u ++ x ++ s), F]) (fun y => y.2 - y.1) (lo, hi) ⟨Nat.le_refl _, g1, Nat.le_refl _, .inl rfl, .inl rfl⟩ ?_
      rintro ⟨i, j⟩ ⟨k1, k2, k3, k4, k5⟩
      dsimp only at k1 k2 k3 k4 k5 ⊢
      refine do_seq ?_
      refine sr ?_
      refine rr (rd_move rfl) ?_
      refine rr (rd_move rfl) ?_
      refine rr (rd_lt rfl rfl) ?_
      refine nx ?_
      first | refine do_condp rfl (fun h151 => ?_) (fun h151 => ?_) | refine do_cond rfl (fun h151 => ?_) (fun h151 => ?_)
      · obtain ⟨e, he⟩ : ∃ e, (i + j) / 2 = e := ⟨_, rfl⟩
        have hq := List.getElem?_eq_getElem (l := u) (i := e - p.length) (by omega)
        generalize u[e - p.length]'_ = y at hq
        have ht := List.getElem?_eq_getElem (l := x) (i := mid - e - 1) (by omega)
        generalize x[mid - e - 1]'_ = t at ht
        refine do_skip ?_
        refine St.then_n ?_
        refine do_block ?_
        refine sr ?_
        refine rr (rd_move rfl) ?_
        refine rr (rd_move rfl) ?_
        refine rr ((rd_addi rfl rfl).eq (ei (k := i + j) (by omega))) ?_
        refine rr (rd_cvu Try.underlying3 Try.underlying184 rfl) ?_
        refine rr ((rd_shr (by decide) rfl rfl).eq (shr1 _)) ?_
        refine rr ((rd_cvi Try.underlying184 Try.underlying3 rfl).eq (ei (k := e) (by omega))) ?_
        refine rr (rd_assign rfl) ?_
        refine run_nil ?_
        refine St.kp [(0, _), (1, _), (2, _), (3, _), (4, _), (18, _), (19, _), (20, _), (21, _), (22, _), (23, _)] ?_
        refine St.then_n ?_
        refine do_seq ?_
        refine do_draw [[11, 12, 13], [5, 6, 11, 12, 13], [4, 5, 6, 11, 12, 13], [4, 5, 6, 11, 12, 13], [5, 6, 11, 12, 13], [6, 11, 12, 13], [11, 12, 13], [9, 10, 11, 12, 13], [9, 10, 11, 12, 13], [10, 11, 12, 13], [11, 12, 13], [12, 13], [13], []] (by kernel_rfl) rfl ?_
        refine ta 0 rfl (rd_move rfl) ?_
        refine ta 1 rfl (rd_move rfl) ?_
        refine ta 2 rfl (rd_move rfl) ?_
        refine ta 3 rfl (rd_move rfl) ?_
        refine ta 4 rfl (rd_subi rfl rfl) ?_
        refine ta 5 rfl ((rd_indexAddr Try.underlying31 ei108 rfl rfl (by omega) (by omega)).eq (show _ = Value.pointer (some ⟨g, 0 + (p.length + u.length + (mid - e - 1)) * 2, none⟩) by rw [show Int.toNat ((((mid + (p.length + u.length) : Nat) : Int) - 1) - (e : Int)) = p.length + u.length + (mid - e - 1) by omega])) ?_
        refine ta 6 rfl (rd_ldr _ rfl row108 (cells_Q rowC_len (getx ht))) ?_
        refine ta 7 rfl (rd_move rfl) ?_
        refine ta 8 rfl (rd_move rfl) ?_
        refine ta 9 rfl ((rd_indexAddr Try.underlying31 ei108 rfl rfl (by omega) (by omega)).eq (show _ = Value.pointer (some ⟨g, 0 + (p.length + (e - p.length)) * 2, none⟩) by rw [show Int.toNat (e : Int) = p.length + (e - p.length) by omega])) ?_
        refine ta 10 rfl (rd_ldr _ rfl row108 (cells_Q rowC_len (getu hq))) ?_
        refine tr 11 ?_
        refine rcv (hs := rowCmp_spec _ t y) (k := ?_)
        rintro ⟨⟩ -
        try simp only [List.cons_append, List.nil_append]
        refine nx ?_
        refine any_next (by apply bd 10; apply bd 9; apply bd 8; apply bd 7; apply bd 6; apply bd 5; apply bd 4; apply bd 3; apply bd 2; apply bd 1; apply bd 0; exact .nil) ?_
        refine ta 12 rfl (rd_lt rfl rfl) ?_
        refine ta 13 rfl ((rd_not rfl).eq (show _ = Value.bool (decide (¬ lt t y)) from congrArg Value.bool (by rw [← decide_not]; exact decide_eq_decide.2 Iff.rfl))) ?_
        refine any_nil (by kernel_rfl) ?_
        refine St.kp [(0, _), (1, _), (2, _), (3, _), (4, _), (18, _), (19, _), (20, _), (21, _), (22, _), (23, _), (171, _)] ?_
        refine St.then_n ?_
        first | refine do_condp rfl (fun h171 => ?_) (fun h171 => ?_) | refine do_cond rfl (fun h171 => ?_) (fun h171 => ?_)
        · refine do_region ?_
          refine rr (rd_move rfl) ?_
          refine rr ((rd_addi rfl rfl).eq (ei (k := e + 1) (by omega))) ?_
          refine rr (rd_assign rfl) ?_
          refine run_nil ?_
          refine St.kp [(0, _), (1, _), (2, _), (3, _), (4, _), (18, _), (19, _), (20, _), (21, _), (22, _)] ?_
          refine St.blk_n ?_
          refine St.then_n ?_
          first
            | exact loop_bk (e + 1, j) ⟨by dsimp only; omega, by dsimp only; omega, k3, .inr ⟨y, t, by rw [show e + 1 - p.length - 1 = e - p.length by omega]; exact hq, by rw [show mid - (e + 1) = mid - e - 1 by omega]; exact ht, h171⟩, k5⟩
            | exact loop_bk (i, e) ⟨k1, by dsimp only; omega, by dsimp only; omega, k4, .inr ⟨y, t, hq, ht, Decidable.not_not.1 h171⟩⟩
        · refine do_region ?_
          refine rr (rd_move rfl) ?_
          refine rr (rd_assign rfl) ?_
          refine run_nil ?_
          refine St.blk_n ?_
          refine St.then_n ?_
          first
            | exact loop_bk (e + 1, j) ⟨by dsimp only; omega, by dsimp only; omega, k3, .inr ⟨y, t, by rw [show e + 1 - p.length - 1 = e - p.length by omega]; exact hq, by rw [show mid - (e + 1) = mid - e - 1 by omega]; exact ht, h171⟩, k5⟩
            | exact loop_bk (i, e) ⟨k1, by dsimp only; omega, by dsimp only; omega, k4, .inr ⟨y, t, hq, ht, Decidable.not_not.1 h171⟩⟩
      · obtain rfl : i = j := by omega
        have hmr := mrg_parts (i := i - p.length) (j := mid - i) su sx (by
          rcases k4 with k4 | ⟨q, t, e1, e2, e3⟩
          · omega
          · exact .inr (.inr ⟨q, t, e1, e2, e3⟩)) (by
          rcases k5 with k5 | ⟨q, t, e1, e2, e3⟩
          · omega
          · exact .inr (.inr ⟨q, t, e1, e2, e3⟩))
        have su1 := su.take (i - p.length)
        have su2 := su.drop (i - p.length)
        have sx1 := sx.take (mid - i)
        have sx2 := sx.drop (mid - i)
        obtain ⟨u1, hu1⟩ : ∃ u1, u.take (i - p.length) = u1 := ⟨_, rfl⟩
        obtain ⟨u2, hu2'⟩ : ∃ u2, u.drop (i - p.length) = u2 := ⟨_, rfl⟩
        obtain ⟨x1, hx1⟩ : ∃ x1, x.take (mid - i) = x1 := ⟨_, rfl⟩
        obtain ⟨x2, hx2'⟩ : ∃ x2, x.drop (mid - i) = x2 := ⟨_, rfl⟩
        have huu : u = u1 ++ u2 := by rw [← hu1, ← hu2', List.take_append_drop]
        have hxx : x = x1 ++ x2 := by rw [← hx1, ← hx2', List.take_append_drop]
        have l1 : u1.length = i - p.length := by rw [← hu1, List.length_take]; omega
        have l2 : x1.length = mid - i := by rw [← hx1, List.length_take]; omega
        have l3 : u.length = u1.length + u2.length := by rw [huu, List.length_append]
        have l4 : x.length = x1.length + x2.length := by rw [hxx, List.length_append]
        rw [hu1, hu2', hx1, hx2'] at hmr
        rw [hu1] at su1
        rw [hu2'] at su2
        rw [hx1] at sx1
        rw [hx2'] at sx2
        rw [show p ++ u ++ x ++ s = p ++ u1 ++ u2 ++ x1 ++ (x2 ++ s) by rw [huu, hxx]; simp]
        rw [hmr]
        refine do_exit ?_
        refine St.then_x ?_
        refine St.then_x ?_
        refine St.blk_s ?_
        refine St.then_n ?_
        refine sr ?_
        refine rr (rd_move rfl) ?_
        refine rr (rd_move rfl) ?_
        refine rr ((rd_subi rfl rfl).eq (ei (k := mid + (p.length + u.length) - i) (by omega))) ?_
        refine rr (rd_assign rfl) ?_
        refine run_nil ?_
        refine St.kp [(0, _), (1, _), (2, _), (3, _), (4, _), (18, _), (20, _), (24, _)] ?_
        refine St.then_n ?_
        refine do_seq ?_
        refine do_seq ?_
        refine do_cut (fun q : Bool => q = decide (0 < u2.length ∧ 0 < x1.length)) (fun q => [(0, .slice (some ⟨g, 0, none⟩) n c), (1, .int .i64 p.length), (2, .int .i64 ((p.length + u.length : Nat) : Int)), (3, .int .i64 ((p.length + u.length + x.length : Nat) : Int)), (4, cmpV), (18, .int .i64 mid), (20, .int .i64 i), (24, .int .i64 ((mid + (p.length + u.length) - i : Nat) : Int)), (185, .bool q)]) (fun _ => [rq (.slice (some ⟨g, 0, none⟩) n c) n (p ++ u1 ++ u2 ++ x1 ++ (x2 ++ s)), F]) (fun K hK => ?_) ?_
        · by_cases hA : i < p.length + u.length
          · refine do_region ?_
            refine rr (rd_move rfl) ?_
            refine rr (rd_move rfl) ?_
            first | refine rr ((rd_lt rfl rfl).eq (congrArg Value.bool (decide_eq_true (by omega)))) ?_ | refine rr ((rd_lt rfl rfl).eq (congrArg Value.bool (decide_eq_false (by omega)))) ?_
            refine rr (rd_move rfl) ?_
            first | refine sk ?_ | (refine rr (rd_move rfl) ?_)
            first | refine sk ?_ | (refine rr (rd_move rfl) ?_)
            first | refine sk ?_ | (refine rr (rd_lt rfl rfl) ?_)
            refine rr (rd_pick rfl rfl) ?_
            refine run_nil ?_
            refine St.kp [(0, _), (1, _), (2, _), (3, _), (4, _), (18, _), (20, _), (24, _), (185, _)] ?_
            refine St.then_n ?_
            exact St.sb (St.kq [(0, _), (1, _), (2, _), (3, _), (4, _), (18, _), (20, _), (24, _), (185, _)] (h := hK _ (by first | exact decide_eq_decide.2 (by omega) | exact (decide_eq_false (by omega)).symm)))
          · refine do_region ?_
            refine rr (rd_move rfl) ?_
            refine rr (rd_move rfl) ?_
            first | refine rr ((rd_lt rfl rfl).eq (congrArg Value.bool (decide_eq_true (by omega)))) ?_ | refine rr ((rd_lt rfl rfl).eq (congrArg Value.bool (decide_eq_false (by omega)))) ?_
            refine rr (rd_move rfl) ?_
            first | refine sk ?_ | (refine rr (rd_move rfl) ?_)
            first | refine sk ?_ | (refine rr (rd_move rfl) ?_)
            first | refine sk ?_ | (refine rr (rd_lt rfl rfl) ?_)
            refine rr (rd_pick rfl rfl) ?_
            refine run_nil ?_
            refine St.kp [(0, _), (1, _), (2, _), (3, _), (4, _), (18, _), (20, _), (24, _), (185, _)] ?_
            refine St.then_n ?_
            exact St.sb (St.kq [(0, _), (1, _), (2, _), (3, _), (4, _), (18, _), (20, _), (24, _), (185, _)] (h := hK _ (by first | exact decide_eq_decide.2 (by omega) | exact (decide_eq_false (by omega)).symm)))
        rintro q hq
        refine do_cut (fun _ : Unit => True) (fun _ => [(0, .slice (some ⟨g, 0, none⟩) n c), (1, .int .i64 p.length), (3, .int .i64 ((p.length + u.length + x.length : Nat) : Int)), (4, cmpV), (18, .int .i64 mid), (20, .int .i64 i), (24, .int .i64 ((mid + (p.length + u.length) - i : Nat) : Int))]) (fun _ => [rq (.slice (some ⟨g, 0, none⟩) n c) n (p ++ u1 ++ x1 ++ (u2 ++ x2 ++ s)), F]) (fun K hK => ?_) ?_
        · first | refine do_condp rfl (fun h185 => ?_) (fun h185 => ?_) | refine do_cond rfl (fun h185 => ?_) (fun h185 => ?_)
          · have hq2 := of_decide_eq_true (hq.symm.trans h185)
            refine do_region ?_
            refine rr (rd_move rfl) ?_
            refine rr (rd_move rfl) ?_
            refine rr (rd_move rfl) ?_
            refine rr (rd_move rfl) ?_
            refine rr (rd_move rfl) ?_
            refine rc (hs := rotate_spec _ (.slice (some ⟨g, 0, none⟩) n c) cmpV n i (p.length + u.length) (mid + (p.length + u.length) - i) (p ++ u1) u2 x1 (x2 ++ s) (by simp; omega) (by omega) (by omega) hq2.1 hq2.2 (by omega) hn) (k := ?_)
            rintro ⟨⟩ -
            rw [show p ++ u1 ++ x1 ++ u2 ++ (x2 ++ s) = p ++ u1 ++ x1 ++ (u2 ++ x2 ++ s) by simp]
            try simp only [List.cons_append, List.nil_append]
            refine run_nil ?_
            refine St.kp [(0, _), (1, _), (3, _), (4, _), (18, _), (20, _), (24, _)] ?_
            refine St.then_n ?_
            exact St.sb (St.kp [(0, _), (1, _), (3, _), (4, _), (18, _), (20, _), (24, _)] (hK () trivial))
          · have hq2 := of_decide_eq_false (hq.symm.trans h185)
            rw [show p ++ u1 ++ u2 ++ x1 ++ (x2 ++ s) = p ++ u1 ++ x1 ++ (u2 ++ x2 ++ s) by rw [List.append_assoc (p ++ u1) u2 x1, app_empty (u := u2) (x := x1) (by omega)]; simp]
            refine do_skip ?_
            refine St.then_n ?_
            exact St.sb (St.kp [(0, _), (1, _), (3, _), (4, _), (18, _), (20, _), (24, _)] (hK () trivial))
        rintro ⟨⟩ -
        refine do_seq ?_
        refine do_seq ?_
        refine do_cut (fun q : Bool => q = decide (0 < u1.length ∧ 0 < x1.length)) (fun q => [(0, .slice (some ⟨g, 0, none⟩) n c), (1, .int .i64 p.length), (3, .int .i64 ((p.length + u.length + x.length : Nat) : Int)), (4, cmpV), (18, .int .i64 mid), (20, .int .i64 i), (24, .int .i64 ((mid + (p.length + u.length) - i : Nat) : Int)), (199, .bool q)]) (fun _ => [rq (.slice (some ⟨g, 0, none⟩) n c) n (p ++ u1 ++ x1 ++ (u2 ++ x2 ++ s)), F]) (fun K hK => ?_) ?_
        · by_cases hA : p.length < i
          · refine do_region ?_
            refine rr (rd_move rfl) ?_
            refine rr (rd_move rfl) ?_
            first | refine rr ((rd_lt rfl rfl).eq (congrArg Value.bool (decide_eq_true (by omega)))) ?_ | refine rr ((rd_lt rfl rfl).eq (congrArg Value.bool (decide_eq_false (by omega)))) ?_
            refine rr (rd_move rfl) ?_
            first | refine sk ?_ | (refine rr (rd_move rfl) ?_)
            first | refine sk ?_ | (refine rr (rd_move rfl) ?_)
            first | refine sk ?_ | (refine rr (rd_lt rfl rfl) ?_)
            refine rr (rd_pick rfl rfl) ?_
            refine run_nil ?_
            refine St.kp [(0, _), (1, _), (3, _), (4, _), (18, _), (20, _), (24, _), (199, _)] ?_
            refine St.then_n ?_
            exact St.sb (St.kq [(0, _), (1, _), (3, _), (4, _), (18, _), (20, _), (24, _), (199, _)] (h := hK _ (by first | exact decide_eq_decide.2 (by omega) | exact (decide_eq_false (by omega)).symm)))
          · refine do_region ?_
            refine rr (rd_move rfl) ?_
            refine rr (rd_move rfl) ?_
            first | refine rr ((rd_lt rfl rfl).eq (congrArg Value.bool (decide_eq_true (by omega)))) ?_ | refine rr ((rd_lt rfl rfl).eq (congrArg Value.bool (decide_eq_false (by omega)))) ?_
            refine rr (rd_move rfl) ?_
            first | refine sk ?_ | (refine rr (rd_move rfl) ?_)
            first | refine sk ?_ | (refine rr (rd_move rfl) ?_)
            first | refine sk ?_ | (refine rr (rd_lt rfl rfl) ?_)
            refine rr (rd_pick rfl rfl) ?_
            refine run_nil ?_
            refine St.kp [(0, _), (1, _), (3, _), (4, _), (18, _), (20, _), (24, _), (199, _)] ?_
            refine St.then_n ?_
            exact St.sb (St.kq [(0, _), (1, _), (3, _), (4, _), (18, _), (20, _), (24, _), (199, _)] (h := hK _ (by first | exact decide_eq_decide.2 (by omega) | exact (decide_eq_false (by omega)).symm)))
        rintro q hq
        refine do_cut (fun _ : Unit => True) (fun _ => [(0, .slice (some ⟨g, 0, none⟩) n c), (3, .int .i64 ((p.length + u.length + x.length : Nat) : Int)), (4, cmpV), (18, .int .i64 mid), (24, .int .i64 ((mid + (p.length + u.length) - i : Nat) : Int))]) (fun _ => [rq (.slice (some ⟨g, 0, none⟩) n c) n (p ++ mrg u1 x1 ++ u2 ++ x2 ++ s), F]) (fun K hK => ?_) ?_
        · first | refine do_condp rfl (fun h199 => ?_) (fun h199 => ?_) | refine do_cond rfl (fun h199 => ?_) (fun h199 => ?_)
          · have hq2 := of_decide_eq_true (hq.symm.trans h199)
            refine do_region ?_
            refine rr (rd_move rfl) ?_
            refine rr (rd_move rfl) ?_
            refine rr (rd_move rfl) ?_
            refine rr (rd_move rfl) ?_
            refine rr (rd_move rfl) ?_
            refine rc (hs := IH _ (.slice (some ⟨g, 0, none⟩) n c) n p.length i mid p u1 x1 (u2 ++ x2 ++ s) rfl (by omega) (by omega) (by omega) hn hq2.1 hq2.2 (by omega) su1 sx1) (k := ?_)
            rintro ⟨⟩ -
            rw [show p ++ mrg u1 x1 ++ (u2 ++ x2 ++ s) = p ++ mrg u1 x1 ++ u2 ++ x2 ++ s by simp]
            try simp only [List.cons_append, List.nil_append]
            refine run_nil ?_
            refine St.kp [(0, _), (3, _), (4, _), (18, _), (24, _)] ?_
            refine St.then_n ?_
            exact St.sb (St.kp [(0, _), (3, _), (4, _), (18, _), (24, _)] (hK () trivial))
          · have hq2 := of_decide_eq_false (hq.symm.trans h199)
            rw [show p ++ u1 ++ x1 ++ (u2 ++ x2 ++ s) = p ++ mrg u1 x1 ++ u2 ++ x2 ++ s by rw [mrg_empty (u := u1) (x := x1) (by omega)]; simp]
            refine do_skip ?_
            refine St.then_n ?_
            exact St.sb (St.kp [(0, _), (3, _), (4, _), (18, _), (24, _)] (hK () trivial))
        rintro ⟨⟩ -
        refine do_seq ?_
        refine do_cut (fun q : Bool => q = decide (0 < u2.length ∧ 0 < x2.length)) (fun q => [(0, .slice (some ⟨g, 0, none⟩) n c), (3, .int .i64 ((p.length + u.length + x.length : Nat) : Int)), (4, cmpV), (18, .int .i64 mid), (24, .int .i64 ((mid + (p.length + u.length) - i : Nat) : Int)), (213, .bool q)]) (fun _ => [rq (.slice (some ⟨g, 0, none⟩) n c) n (p ++ mrg u1 x1 ++ u2 ++ x2 ++ s), F]) (fun K hK => ?_) ?_
        · by_cases hA : mid < mid + (p.length + u.length) - i
          · refine do_region ?_
            refine rr (rd_move rfl) ?_
            refine rr (rd_move rfl) ?_
            first | refine rr ((rd_lt rfl rfl).eq (congrArg Value.bool (decide_eq_true (by omega)))) ?_ | refine rr ((rd_lt rfl rfl).eq (congrArg Value.bool (decide_eq_false (by omega)))) ?_
            refine rr (rd_move rfl) ?_
            first | refine sk ?_ | (refine rr (rd_move rfl) ?_)
            first | refine sk ?_ | (refine rr (rd_move rfl) ?_)
            first | refine sk ?_ | (refine rr (rd_lt rfl rfl) ?_)
            refine rr (rd_pick rfl rfl) ?_
            refine run_nil ?_
            refine St.kp [(0, _), (3, _), (4, _), (18, _), (24, _), (213, _)] ?_
            refine St.then_n ?_
            exact St.sb (St.kq [(0, _), (3, _), (4, _), (18, _), (24, _), (213, _)] (h := hK _ (by first | exact decide_eq_decide.2 (by omega) | exact (decide_eq_false (by omega)).symm)))
          · refine do_region ?_
            refine rr (rd_move rfl) ?_
            refine rr (rd_move rfl) ?_
            first | refine rr ((rd_lt rfl rfl).eq (congrArg Value.bool (decide_eq_true (by omega)))) ?_ | refine rr ((rd_lt rfl rfl).eq (congrArg Value.bool (decide_eq_false (by omega)))) ?_
            refine rr (rd_move rfl) ?_
            first | refine sk ?_ | (refine rr (rd_move rfl) ?_)
            first | refine sk ?_ | (refine rr (rd_move rfl) ?_)
            first | refine sk ?_ | (refine rr (rd_lt rfl rfl) ?_)
            refine rr (rd_pick rfl rfl) ?_
            refine run_nil ?_
            refine St.kp [(0, _), (3, _), (4, _), (18, _), (24, _), (213, _)] ?_
            refine St.then_n ?_
            exact St.sb (St.kq [(0, _), (3, _), (4, _), (18, _), (24, _), (213, _)] (h := hK _ (by first | exact decide_eq_decide.2 (by omega) | exact (decide_eq_false (by omega)).symm)))
        rintro q hq
        first | refine do_condp rfl (fun h213 => ?_) (fun h213 => ?_) | refine do_cond rfl (fun h213 => ?_) (fun h213 => ?_)
        · have hq2 := of_decide_eq_true (hq.symm.trans h213)
          have hml := mrg_len u1 x1
          refine do_region ?_
          refine rr (rd_move rfl) ?_
          refine rr (rd_move rfl) ?_
          refine rr (rd_move rfl) ?_
          refine rr (rd_move rfl) ?_
          refine rr (rd_move rfl) ?_
          refine rc (hs := IH _ (.slice (some ⟨g, 0, none⟩) n c) n mid (mid + (p.length + u.length) - i) (p.length + u.length + x.length) (p ++ mrg u1 x1) u2 x2 s (by rw [List.length_append]; omega) (by omega) (by omega) hb hn hq2.1 hq2.2 (by omega) su2 sx2) (k := ?_)
          rintro ⟨⟩ -
          try simp only [List.cons_append, List.nil_append]
          refine run_nil ?_
          refine St.kp [] ?_
          refine do_end0 Try.results138 ?_
          intro w hw
          rw [show p ++ (mrg u1 x1 ++ mrg u2 x2) ++ s = p ++ mrg u1 x1 ++ mrg u2 x2 ++ s by simp]
          exact ⟨(), trivial, rfl, hw.sb⟩
        · have hq2 := of_decide_eq_false (hq.symm.trans h213)
          refine do_skip ?_
          refine do_end0 Try.results138 ?_
          intro w hw
          rw [show p ++ (mrg u1 x1 ++ mrg u2 x2) ++ s = p ++ mrg u1 x1 ++ u2 ++ x2 ++ s by rw [mrg_empty (u := u2) (x := x2) (by omega)]; simp]
          exact ⟨(), trivial, rfl, hw.sb⟩
end Go.Proofs.Ytglcmlicfmmlpaa
