/-
  Reading a node.
-/
import Derived.Test.YtgeldfgcicjidaaT2
namespace Go.Proofs.Ytgeldfgcicjidaa
open Go.RowKit
set_option linter.unusedSimpArgs false
set_option linter.unusedVariables false

def treeO (t p : Nat) (root : Int) : HP := pts t 71 [.pointer (some ⟨p, 0, none⟩), .int .i64 root]
/-- A leaf's items have no pages, those of one above no values. -/
def Shp (leaf : Bool) (l : List It) : Prop := ∀ x ∈ l, match leaf with | true => x.c = 0 | false => x.b = []
/-- Items that a node may have. -/
structure NdOk (leaf : Bool) (l : List It) : Prop where
  ne : l ≠ []
  len : l.length ≤ 64
  ok : ∀ x ∈ l, x.ok
  size : 2 + sizeN leaf l ≤ 252
  shape : Shp leaf l
/-- A page has a node. -/
structure IsN (S : PS) (i : Nat) (leaf : Bool) (l : List It) : Prop where
  lt : i < S.n
  used : S.free i = false
  sct : S.sct i = sealB (encN leaf l)
  nd : NdOk leaf l
theorem btNew_spec (F : HP) (p : Nat) (root : Int) (hr : -1 ≤ root) : Spec Try.prog 17 [.pointer (some ⟨p, 0, none⟩), .int .i64 root] [] F (fun _ : Nat => True) (fun t => .tuple #[.pointer (some ⟨t, 0, none⟩), .int .i64 0]) (fun t => [treeO t p root]) := by
  intro ω w hh
  refine enter Try.func17 rfl Try.ntmps17 rfl hh ?_
  simp only [List.nil_append, argsB]
  refine sr ?_
  refine rr (rd_assign rfl) ?_
  refine rr (rd_assign rfl) ?_
  refine nx ?_
  refine do_seq ?_
  refine do_block ?_
  refine sr ?_
  refine rr (rd_move rfl) ?_
  refine rr (rd_ptr_eq_nil Try.underlying26 rfl rfl) ?_
  refine rr (rd_assign rfl) ?_
  refine run_nil ?_
  refine St.kp [(0, _), (1, _), (6, _)] ?_
  refine St.then_n ?_
  refine do_cond_f rfl ?_
  refine sr ?_
  refine rr (rd_move rfl) ?_
  refine rr ((rd_lt rfl rfl).eq (show _ = Value.bool false from congrArg _ (decide_eq_false (by omega)))) ?_
  refine rr (rd_assign rfl) ?_
  refine nx ?_
  refine do_cond_f rfl ?_
  refine do_skip ?_
  refine St.blk_n ?_
  refine St.then_n ?_
  refine sr ?_
  refine rr (rd_move rfl) ?_
  refine rr (rd_move rfl) ?_
  refine rr (rd_bd [_, _] zero71 plc71) ?_
  refine r_bx fun b15 => ?_
  refine rr (rd_assign rfl) ?_
  refine rr (rd_assign rfl) ?_
  refine run_nil ?_
  refine St.kp [(4, _), (5, _)] ?_
  refine St.then_n ?_
  refine do_ret ?_
  refine do_ret2 Try.results17 (res_tmp rfl) (res_tmp rfl) ?_
  intro w hw
  exact ⟨b15, trivial, rfl, by unfold treeO; exact hw.sb⟩
theorem kindN_lt (leaf : Bool) : kindN leaf < 18446744073709551616 := by cases leaf <;> decide
set_option maxHeartbeats 4000000 in
theorem read_spec (F : HP) (t p d i k : Nat) (root : Int) (S : PS) (hS : S.ok k) (leaf : Bool) (l : List It) (hN : IsN S i leaf l) :
    Spec Try.prog 58 [.pointer (some ⟨t, 0, none⟩), .int .i64 i] [treeO t p root, pagerO d p S] F (fun x : (Option Addr × Nat) × List Im × HP => ps x.2.1 = l ∧ okV x.2.2 x.2.1)
      (fun x => .tuple #[.agg #[.bool leaf, .slice x.1.1 l.length x.1.2], .int .i64 0]) (fun x => [ownQ imC 69 3 (.slice x.1.1 l.length x.1.2) l.length x.2.1, x.2.2, treeO t p root, pagerO d p S]) := by
  intro ω w hh
  refine enter Try.func58 rfl Try.ntmps58 rfl hh ?_
  simp only [List.cons_append, List.nil_append, argsB, treeO]
  obtain ⟨hi, -, hsct, ⟨hne, hlen, hok, hsize, hshape⟩⟩ := hN
  have hel := encN_len (leaf := leaf) hok hlen
  obtain ⟨Z, hZ0⟩ : ∃ Z, pad (encN leaf l) = encN leaf l ++ Z := ⟨_, rfl⟩
  have hZ : pad (encN leaf l) = uvar (kindN leaf) ++ (uvar l.length ++ (l.flatMap (encI leaf) ++ Z)) := by rw [hZ0]; unfold encN; simp only [List.append_assoc]
  obtain ⟨B, hB⟩ : ∃ B, pad (encN leaf l) = B := ⟨_, rfl⟩
  have hBl : B.length = 252 := by rw [← hB, pad_len (by omega)]
  have hsd : (S.sct i).drop 4 = B := by rw [hsct, seal_drop, hB]
  have r0 : Rd B ⟨0, 0⟩ (uvar (kindN leaf) ++ (uvar l.length ++ (l.flatMap (encI leaf) ++ Z))) := by
    have := Rd.init B
    rwa [← hZ, hB]
  have e1 := r0.uint (kindN_lt leaf)
  have r1 := r0.step
  have hll : l.length ≤ (l.flatMap (encI leaf)).length := by
    have h1 : ∀ (q : List It), q.length ≤ (q.flatMap (encI leaf)).length := by
      intro q
      induction q with
      | nil => simp
      | cons x q ih =>
        have : 1 ≤ (encI leaf x).length := by
          have h2 : 1 ≤ (uvar x.k.length).length := by
            by_cases hx : x.k.length < 128
            · rw [uvar_small hx]; simp
            · rw [uvar_big hx]; simp
          unfold encI txt
          simp only [List.length_append]; omega
        rw [List.flatMap_cons, List.length_append, List.length_cons]; omega
    exact h1 l
  obtain ⟨s2, e2, r2⟩ := r1.count (most := 252) (by omega) (by omega) (by rw [List.length_append]; omega)
  refine sr ?_
  refine r_al zero105 fun b4 => ?_
  refine rr (rd_assign rfl) ?_
  refine nx ?_
  refine sr ?_
  refine rr (rd_move rfl) ?_
  refine rr (rd_nilCheck rfl) ?_
  refine rr (rd_fa rfl fld71_0) ?_
  refine rr (rd_ld rfl row26) ?_
  refine rr (rd_move rfl) ?_
  refine rc (hs := pgRead_spec _ d p i k S hS hi (by rw [hsct]; exact seal_ok _)) (k := ?_)
  rintro ⟨v1, X1⟩ hv1
  rw [hsd] at hv1
  dsimp only at hv1 ⊢
  try simp only [List.cons_append, List.nil_append]
  refine rr (rd_move rfl) ?_
  refine rr (rd_extract rfl rfl) ?_
  refine rr (rd_extract rfl rfl) ?_
  refine rr (rd_assign rfl) ?_
  refine rr (rd_assign rfl) ?_
  refine run_nil ?_
  refine St.kp [(4, _), (6, _), (7, _)] ?_
  refine St.then_n ?_
  refine do_seq ?_
  refine sr ?_
  refine rr (rd_move rfl) ?_
  refine rr ((rd_ne rfl rfl).eq (show _ = Value.bool false by simp)) ?_
  refine nx ?_
  refine do_cond_f rfl ?_
  refine do_skip ?_
  refine St.then_n ?_
  refine sr ?_
  refine rr (rd_move rfl) ?_
  refine rc (hs := newReader_spec _ v1 (B := B) (Vw.sep hv1 (by repeat (first | with_reducible exact Sel.head | apply Sel.tail))) (by omega)) (k := ?_)
  rintro r -
  try simp only [List.cons_append, List.nil_append]
  refine rr (rd_assign rfl) ?_
  refine run_nil ?_
  refine St.kp [(4, _), (8, _)] ?_
  refine St.then_n ?_
  refine sr ?_
  refine rr (rd_move rfl) ?_
  refine rc (hs := rdUint_spec _ (Nat.zero_le _) (by omega)) (k := ?_)
  rintro ⟨⟩ -
  rw [e1]
  try simp only [List.cons_append, List.nil_append]
  refine rr (rd_assign rfl) ?_
  refine nx ?_
  refine sr ?_
  refine rr (rd_move rfl) ?_
  refine rr ((rd_eq rfl rfl).eq (show _ = Value.bool leaf by cases leaf <;> rfl)) ?_
  refine rr (rd_bd [_, _] zero105 plc105) ?_
  refine r_al zero105 fun b10 => ?_
  first | refine r_sa row105 ?_ | refine r_sm row105 ?_
  refine run_nil ?_
  refine St.kp [(4, _), (8, _), (9, _), (10, _)] ?_
  refine St.then_n ?_
  refine do_seq ?_
  refine sr ?_
  refine rr (rd_move rfl) ?_
  refine rc (hs := count_spec' _ 252 (by decide) (by have := r1.len; dsimp only at this ⊢; have h0 := (rU_ok (B := B) (s := ⟨0, 0⟩) (Nat.zero_le _)); rw [e1] at h0; exact h0) (by omega)) (k := ?_)
  rintro ⟨⟩ -
  rw [e2]
  try simp only [List.cons_append, List.nil_append]
  refine rr (rd_move rfl) ?_
  refine nx ?_
  refine do_block ?_
  refine St.nilQ (f := imC) (T := 69) (k := 3) ?_
  refine St.emp ?_
  refine do_lp (fun y : Nat × List Im × RS × (Option Addr × Nat) × HP => y.1 ≤ l.length ∧ ps y.2.1 = l.take y.1 ∧ okV y.2.2.2.2 y.2.1 ∧ y.2.2.1.at_ ≤ B.length ∧ Rd B y.2.2.1 ((l.drop y.1).flatMap (encI leaf) ++ Z))
    (fun y => [(4, .pointer (some ⟨b4, 0, none⟩)), (8, .pointer (some ⟨r, 0, none⟩)), (9, .int .u64 (kindN leaf)), (10, .pointer (some ⟨b10, 0, none⟩)), (34, .int .i64 l.length), (35, .int .i64 y.1)])
    (fun y => [pts b10 105 [.bool leaf, .slice y.2.2.2.1.1 y.1 y.2.2.2.1.2], ownQ imC 69 3 (.slice y.2.2.2.1.1 y.1 y.2.2.2.1.2) y.1 y.2.1, y.2.2.2.2, rdO 157 r B y.2.2.1, pts b4 105 [.bool false, .slice none 0 0], pts t 71 [.pointer (some ⟨p, 0, none⟩), .int .i64 root], pagerO d p S, F])
    (fun y => l.length - y.1) (0, [], s2, (none, 0), Sep []) ⟨Nat.zero_le _, rfl, (fun _ h => nomatch h), (by have h0 := (rN_ok (B := B) (most := 252) (s := ⟨0 + (uvar (kindN leaf)).length, 0⟩) (by have h0 := (rU_ok (B := B) (s := ⟨0, 0⟩) (Nat.zero_le _)); rw [e1] at h0; exact h0)).1; rw [e2] at h0; exact h0), r2⟩ ?_
  rintro ⟨j, L, s, ⟨A, cp⟩, X⟩ ⟨hj, hL, hX, hs, hr⟩
  dsimp only at hj hL hX hs hr ⊢
  refine sr ?_
  refine rr (rd_lt rfl rfl) ?_
  refine nx ?_
  refine do_seq ?_
  first | refine do_condp rfl (fun h36 => ?_) (fun h36 => ?_) | refine do_cond rfl (fun h36 => ?_) (fun h36 => ?_)
  · have hx := List.getElem?_eq_getElem (l := l) (i := j) (by omega)
    have hdr := List.drop_eq_getElem_cons (l := l) (i := j) (by omega)
    have htk := take_get' hx
    have hxm := List.mem_of_getElem? hx
    generalize l[j]'_ = x at hx hdr htk hxm
    obtain ⟨q1, q2, q3, q4⟩ := hok x hxm
    have hxs := hshape x hxm
    have hLl : L.length = j := by have := congrArg List.length hL; rw [List.length_map, List.length_take] at this; omega
    obtain ⟨xk, xb, xc⟩ := x
    dsimp only at q1 q2 q3 q4 hxs
    rw [hdr, List.flatMap_cons] at hr
    unfold encI at hr
    simp only [List.append_assoc] at hr
    obtain ⟨s3, e3, r3⟩ := hr.bytes (by omega)
    have hs3 : s3.at_ ≤ B.length := by have := rB_ok hs; rw [e3] at this; exact this
    refine do_skip ?_
    refine St.then_n ?_
    refine do_seq ?_
    refine do_block ?_
    refine sr ?_
    refine rr (rd_move rfl) ?_
    refine rc (hs := rdText_spec _ hs (by omega)) (k := ?_)
    rintro ⟨⟩ -
    rw [e3]
    try simp only [List.cons_append, List.nil_append]
    refine rr (rd_bd [_, _, _] zero69 plc69) ?_
    refine r_al zero69 fun b11 => ?_
    first | refine r_sa row69 ?_ | refine r_sm row69 ?_
    refine run_nil ?_
    refine St.kp [(4, _), (8, _), (9, _), (10, _), (11, _), (34, _), (35, _)] ?_
    refine St.then_n ?_
    refine do_seq ?_
    refine sr ?_
    refine rr (rd_fa rfl fld105_0) ?_
    refine rr (rd_ld rfl row4) ?_
    refine nx ?_
    refine do_cut (fun y : Im × RS × HP => y.1.p = ⟨xk, xb, xc⟩ ∧ VwB y.2.2 y.1.v y.1.b ∧ okV y.2.2 L ∧ y.2.1.at_ ≤ B.length ∧ Rd B y.2.1 ((l.drop (j + 1)).flatMap (encI leaf) ++ Z))
      (fun y => [(4, .pointer (some ⟨b4, 0, none⟩)), (8, .pointer (some ⟨r, 0, none⟩)), (9, .int .u64 (kindN leaf)), (10, .pointer (some ⟨b10, 0, none⟩)), (11, .pointer (some ⟨b11, 0, none⟩)), (34, .int .i64 l.length), (35, .int .i64 j)])
      (fun y => [pts b11 69 (imC y.1), pts b10 105 [.bool leaf, .slice A j cp], ownQ imC 69 3 (.slice A j cp) j L, y.2.2, rdO 157 r B y.2.1, pts b4 105 [.bool false, .slice none 0 0], pts t 71 [.pointer (some ⟨p, 0, none⟩), .int .i64 root], pagerO d p S, F]) (fun K hK => ?_) ?_
    · first | refine do_condp rfl (fun h41 => ?_) (fun h41 => ?_) | refine do_cond rfl (fun h41 => ?_) (fun h41 => ?_)
      · subst h41
        dsimp only at hxs
        subst hxs
        obtain ⟨s4, e4, r4⟩ := r3.bytes (by omega)
        have hs4 : s4.at_ ≤ B.length := by have := rB_ok hs3; rw [e4] at this; exact this
        refine do_region ?_
        refine rr (rd_move rfl) ?_
        refine rc (hs := rdBytes_spec _ hs3 (by omega)) (k := ?_)
        rintro v4 -
        rw [e4]
        dsimp only
        refine St.vw vw_bytes .head (fun A4 c4 hv4 _ _ _ => ?_)
        subst hv4
        try simp only [List.cons_append, List.nil_append]
        refine rr (rd_fa rfl fld69_1) ?_
        refine r_st row44 ?_
        refine run_nil ?_
        refine St.kp [(4, _), (8, _), (9, _), (10, _), (11, _), (34, _), (35, _)] ?_
        refine St.then_n ?_
        first
          | (refine St.pack (Ps := [X, bytesO (.slice A4 xb.length c4) xb]) (by repeat (first | exact Pick.nil | apply Pick.cons (by repeat (first | with_reducible exact Sel.head | apply Sel.tail)))) ?_
             have hk := hK (⟨xk, A4, c4, xb, 0⟩, s4, Sep [X, bytesO (.slice A4 xb.length c4) xb]) ⟨rfl, Vw.sep vw_bytes (.tail .head), hX.sep .head, hs4, r4⟩
             dsimp only [imC, Im.v] at hk
             rw [show ((0 : Nat) : Int) = 0 from rfl] at hk
             exact St.sb (St.kq [(4, _), (8, _), (9, _), (10, _), (11, _), (34, _), (35, _)] (h := hk)))
          | (have hk := hK (⟨xk, none, 0, [], xc⟩, ⟨s3.at_ + (uvar xc).length, 0⟩, X) ⟨rfl, vwb_nil _, hX, hs4, r4⟩
             dsimp only [imC, Im.v, List.length_nil] at hk
             exact St.sb (St.kq [(4, _), (8, _), (9, _), (10, _), (11, _), (34, _), (35, _)] (h := hk)))
      · subst h41
        dsimp only at hxs
        subst hxs
        have e4 := r3.uint (by omega)
        have r4 := r3.step
        have hs4 : s3.at_ + (uvar xc).length ≤ B.length := by have := rU_ok hs3; rw [e4] at this; exact this
        refine do_region ?_
        refine rr (rd_move rfl) ?_
        refine rc (hs := rdUint_spec _ hs3 (by omega)) (k := ?_)
        rintro ⟨⟩ -
        rw [e4]
        dsimp only
        try simp only [List.cons_append, List.nil_append]
        refine rr ((rd_rem (by omega) rfl rfl).eq (show _ = Value.int .u64 (xc : Int) by rw [Int.tmod_eq_emod_of_nonneg (by omega)]; congr 1; omega)) ?_
        refine rr (rd_cvi Try.underlying120 Try.underlying3 rfl) ?_
        refine rr (rd_fa rfl fld69_2) ?_
        refine r_st row3 ?_
        refine run_nil ?_
        refine St.kp [(4, _), (8, _), (9, _), (10, _), (11, _), (34, _), (35, _)] ?_
        refine St.then_n ?_
        first
          | (refine St.pack (Ps := [X, bytesO (.slice A4 xb.length c4) xb]) (by repeat (first | exact Pick.nil | apply Pick.cons (by repeat (first | with_reducible exact Sel.head | apply Sel.tail)))) ?_
             have hk := hK (⟨xk, A4, c4, xb, 0⟩, s4, Sep [X, bytesO (.slice A4 xb.length c4) xb]) ⟨rfl, Vw.sep vw_bytes (.tail .head), hX.sep .head, hs4, r4⟩
             dsimp only [imC, Im.v] at hk
             rw [show ((0 : Nat) : Int) = 0 from rfl] at hk
             exact St.sb (St.kq [(4, _), (8, _), (9, _), (10, _), (11, _), (34, _), (35, _)] (h := hk)))
          | (have hk := hK (⟨xk, none, 0, [], xc⟩, ⟨s3.at_ + (uvar xc).length, 0⟩, X) ⟨rfl, vwb_nil _, hX, hs4, r4⟩
             dsimp only [imC, Im.v, List.length_nil] at hk
             exact St.sb (St.kq [(4, _), (8, _), (9, _), (10, _), (11, _), (34, _), (35, _)] (h := hk)))
    rintro ⟨x', s', X'⟩ ⟨hx', hxv, hX', hs', hr'⟩
    dsimp only at hx' hxv hX' hs' hr' ⊢
    refine do_region ?_
    refine rr (rd_fa rfl fld105_1) ?_
    refine rr (rd_ld rfl row67) ?_
    refine rr (rd_ldr [_, _, _] rfl row69) ?_
    refine r_bs1 (f := imC) x' (imC_len _) Try.underlying67 ei69 (by decide) (fun b53 => ?_)
    refine r_apQ (f := imC) (L := L) (M := [x']) (n := j) imC_len imC_one Try.underlying67 ei69 (X := ownQ imC 69 3 (.slice (some ⟨b53, 0, none⟩) 1 1) 1 [x']) vw_Q rfl (by omega) (by omega) (by omega) (fun v5 _ => ?_)
    refine St.vw vw_Q .head (fun A5 c5 hv5 _ _ _ => ?_)
    subst hv5
    refine rr (rd_fa rfl fld105_1) ?_
    refine r_st row67 ?_
    refine run_nil ?_
    refine St.kp [(4, _), (8, _), (9, _), (10, _), (34, _), (35, _)] ?_
    refine St.blk_n ?_
    refine St.then_n ?_
    refine do_region ?_
    refine rr (rd_addi rfl rfl) ?_
    refine rr (rd_move rfl) ?_
    refine nx ?_
    exact loop_bk (j + 1, L ++ [x'], s', (A5, c5), X') ⟨by dsimp only; omega, by dsimp only; rw [htk, show ps (L ++ [x']) = ps L ++ [x'.p] from List.map_append, hL, hx'], fun y hy => (by rcases List.mem_append.1 hy with hy | hy; exact hX' y hy; rw [List.mem_singleton.1 hy]; exact hxv), hs', hr'⟩ (hμ := by dsimp only; omega)
  · obtain rfl : j = l.length := by omega
    rw [List.take_length] at hL
    have hE : rE B s = 0 ∨ rE B s = 11 := by
      unfold rE
      split
      · exact .inr rfl
      · exact .inl hr.why
    have hl0 : 0 < l.length := List.length_pos_iff.2 hne
    refine do_exit ?_
    refine St.then_x ?_
    refine St.then_x ?_
    refine St.blk_s ?_
    refine St.then_n ?_
    refine do_seq ?_
    refine sr ?_
    refine rr (rd_move rfl) ?_
    refine rc (hs := rdEnd_spec _ hs (by omega)) (k := ?_)
    rintro ⟨⟩ -
    try simp only [List.cons_append, List.nil_append]
    refine rr (rd_assign rfl) ?_
    refine run_nil ?_
    refine St.kp [(4, _), (9, _), (10, _), (12, _)] ?_
    refine St.then_n ?_
    refine do_seq ?_
    refine do_cut (fun _ : Unit => True) (fun _ => [(4, .pointer (some ⟨b4, 0, none⟩)), (10, .pointer (some ⟨b10, 0, none⟩)), (78, .bool false)]) (fun _ => [pts b10 105 [.bool leaf, .slice A l.length cp], ownQ imC 69 3 (.slice A l.length cp) l.length L, X, pts b4 105 [.bool false, .slice none 0 0], pts t 71 [.pointer (some ⟨p, 0, none⟩), .int .i64 root], pagerO d p S, F]) (fun K hK => ?_) ?_
    · rcases hE with hE | hE <;> rw [hE] <;> cases leaf
      · refine do_region ?_
        refine rr (rd_move rfl) ?_
        first | refine rr ((rd_ne rfl rfl).eq (show _ = Value.bool false from rfl)) ?_ | refine rr ((rd_ne rfl rfl).eq (show _ = Value.bool true from rfl)) ?_
        refine rr (rd_move rfl) ?_
        first | refine sk ?_ | (refine rr (rd_move rfl) ?_)
        first | refine sk ?_ | (refine rr ((rd_ne rfl rfl).eq (show _ = Value.bool false from rfl)) ?_)
        refine rr (rd_pick rfl rfl) ?_
        refine rr (rd_move rfl) ?_
        first | refine sk ?_ | (refine rr (rd_move rfl) ?_)
        first | refine sk ?_ | (first | refine rr ((rd_ne rfl rfl).eq (show _ = Value.bool false from rfl)) ?_ | refine rr ((rd_ne rfl rfl).eq (show _ = Value.bool true from rfl)) ?_)
        first | refine sk ?_ | (refine rr (rd_move rfl) ?_)
        first | refine sk ?_ | (refine rr (rd_move rfl) ?_)
        first | refine sk ?_ | (refine rr ((rd_ne rfl rfl).eq (show _ = Value.bool false from rfl)) ?_)
        first | refine sk ?_ | (refine rr (rd_pick rfl rfl) ?_)
        refine rr (rd_pick rfl rfl) ?_
        refine rr (rd_move rfl) ?_
        first | refine sk ?_ | (refine rr (rd_fa rfl fld105_1) ?_)
        first | refine sk ?_ | (refine rr (rd_ld rfl row67) ?_)
        first | refine sk ?_ | (refine rr (rd_len Try.underlying67 rfl) ?_)
        first | refine sk ?_ | (refine rr ((rd_eq rfl rfl).eq (show _ = Value.bool false from congrArg _ (decide_eq_false (by omega)))) ?_)
        refine rr (rd_pick rfl rfl) ?_
        refine run_nil ?_
        refine St.kp [(4, _), (10, _), (78, _)] ?_
        refine St.then_n ?_
        exact St.sb (St.kq [(4, _), (10, _), (78, _)] (h := hK () trivial))
      · refine do_region ?_
        refine rr (rd_move rfl) ?_
        first | refine rr ((rd_ne rfl rfl).eq (show _ = Value.bool false from rfl)) ?_ | refine rr ((rd_ne rfl rfl).eq (show _ = Value.bool true from rfl)) ?_
        refine rr (rd_move rfl) ?_
        first | refine sk ?_ | (refine rr (rd_move rfl) ?_)
        first | refine sk ?_ | (refine rr ((rd_ne rfl rfl).eq (show _ = Value.bool false from rfl)) ?_)
        refine rr (rd_pick rfl rfl) ?_
        refine rr (rd_move rfl) ?_
        first | refine sk ?_ | (refine rr (rd_move rfl) ?_)
        first | refine sk ?_ | (first | refine rr ((rd_ne rfl rfl).eq (show _ = Value.bool false from rfl)) ?_ | refine rr ((rd_ne rfl rfl).eq (show _ = Value.bool true from rfl)) ?_)
        first | refine sk ?_ | (refine rr (rd_move rfl) ?_)
        first | refine sk ?_ | (refine rr (rd_move rfl) ?_)
        first | refine sk ?_ | (refine rr ((rd_ne rfl rfl).eq (show _ = Value.bool false from rfl)) ?_)
        first | refine sk ?_ | (refine rr (rd_pick rfl rfl) ?_)
        refine rr (rd_pick rfl rfl) ?_
        refine rr (rd_move rfl) ?_
        first | refine sk ?_ | (refine rr (rd_fa rfl fld105_1) ?_)
        first | refine sk ?_ | (refine rr (rd_ld rfl row67) ?_)
        first | refine sk ?_ | (refine rr (rd_len Try.underlying67 rfl) ?_)
        first | refine sk ?_ | (refine rr ((rd_eq rfl rfl).eq (show _ = Value.bool false from congrArg _ (decide_eq_false (by omega)))) ?_)
        refine rr (rd_pick rfl rfl) ?_
        refine run_nil ?_
        refine St.kp [(4, _), (10, _), (78, _)] ?_
        refine St.then_n ?_
        exact St.sb (St.kq [(4, _), (10, _), (78, _)] (h := hK () trivial))
      · refine do_region ?_
        refine rr (rd_move rfl) ?_
        first | refine rr ((rd_ne rfl rfl).eq (show _ = Value.bool false from rfl)) ?_ | refine rr ((rd_ne rfl rfl).eq (show _ = Value.bool true from rfl)) ?_
        refine rr (rd_move rfl) ?_
        first | refine sk ?_ | (refine rr (rd_move rfl) ?_)
        first | refine sk ?_ | (refine rr ((rd_ne rfl rfl).eq (show _ = Value.bool false from rfl)) ?_)
        refine rr (rd_pick rfl rfl) ?_
        refine rr (rd_move rfl) ?_
        first | refine sk ?_ | (refine rr (rd_move rfl) ?_)
        first | refine sk ?_ | (first | refine rr ((rd_ne rfl rfl).eq (show _ = Value.bool false from rfl)) ?_ | refine rr ((rd_ne rfl rfl).eq (show _ = Value.bool true from rfl)) ?_)
        first | refine sk ?_ | (refine rr (rd_move rfl) ?_)
        first | refine sk ?_ | (refine rr (rd_move rfl) ?_)
        first | refine sk ?_ | (refine rr ((rd_ne rfl rfl).eq (show _ = Value.bool false from rfl)) ?_)
        first | refine sk ?_ | (refine rr (rd_pick rfl rfl) ?_)
        refine rr (rd_pick rfl rfl) ?_
        refine rr (rd_move rfl) ?_
        first | refine sk ?_ | (refine rr (rd_fa rfl fld105_1) ?_)
        first | refine sk ?_ | (refine rr (rd_ld rfl row67) ?_)
        first | refine sk ?_ | (refine rr (rd_len Try.underlying67 rfl) ?_)
        first | refine sk ?_ | (refine rr ((rd_eq rfl rfl).eq (show _ = Value.bool false from congrArg _ (decide_eq_false (by omega)))) ?_)
        refine rr (rd_pick rfl rfl) ?_
        refine run_nil ?_
        refine St.kp [(4, _), (10, _), (78, _)] ?_
        refine St.then_n ?_
        exact St.sb (St.kq [(4, _), (10, _), (78, _)] (h := hK () trivial))
      · refine do_region ?_
        refine rr (rd_move rfl) ?_
        first | refine rr ((rd_ne rfl rfl).eq (show _ = Value.bool false from rfl)) ?_ | refine rr ((rd_ne rfl rfl).eq (show _ = Value.bool true from rfl)) ?_
        refine rr (rd_move rfl) ?_
        first | refine sk ?_ | (refine rr (rd_move rfl) ?_)
        first | refine sk ?_ | (refine rr ((rd_ne rfl rfl).eq (show _ = Value.bool false from rfl)) ?_)
        refine rr (rd_pick rfl rfl) ?_
        refine rr (rd_move rfl) ?_
        first | refine sk ?_ | (refine rr (rd_move rfl) ?_)
        first | refine sk ?_ | (first | refine rr ((rd_ne rfl rfl).eq (show _ = Value.bool false from rfl)) ?_ | refine rr ((rd_ne rfl rfl).eq (show _ = Value.bool true from rfl)) ?_)
        first | refine sk ?_ | (refine rr (rd_move rfl) ?_)
        first | refine sk ?_ | (refine rr (rd_move rfl) ?_)
        first | refine sk ?_ | (refine rr ((rd_ne rfl rfl).eq (show _ = Value.bool false from rfl)) ?_)
        first | refine sk ?_ | (refine rr (rd_pick rfl rfl) ?_)
        refine rr (rd_pick rfl rfl) ?_
        refine rr (rd_move rfl) ?_
        first | refine sk ?_ | (refine rr (rd_fa rfl fld105_1) ?_)
        first | refine sk ?_ | (refine rr (rd_ld rfl row67) ?_)
        first | refine sk ?_ | (refine rr (rd_len Try.underlying67 rfl) ?_)
        first | refine sk ?_ | (refine rr ((rd_eq rfl rfl).eq (show _ = Value.bool false from congrArg _ (decide_eq_false (by omega)))) ?_)
        refine rr (rd_pick rfl rfl) ?_
        refine run_nil ?_
        refine St.kp [(4, _), (10, _), (78, _)] ?_
        refine St.then_n ?_
        exact St.sb (St.kq [(4, _), (10, _), (78, _)] (h := hK () trivial))
    rintro ⟨⟩ -
    refine do_cond_f rfl ?_
    refine do_skip ?_
    refine St.then_n ?_
    refine sr ?_
    refine rr (rd_ldr [_, _] rfl row105) ?_
    first | refine r_sa row105 ?_ | refine r_sm row105 ?_
    refine rr (rd_assign rfl) ?_
    refine nx ?_
    refine do_ret ?_
    refine do_ret2 Try.results58 (res_cell_row (vs := [_, _]) rfl row105 rfl (cells_pts (by repeat (first | with_reducible exact Sel.head | apply Sel.tail)) rfl)) (res_tmp rfl) ?_
    intro w hw
    exact ⟨((A, cp), L, X), ⟨hL, hX⟩, rfl, hw.sb⟩
end Go.Proofs.Ytgeldfgcicjidaa
