/-
  A node as bytes; looking for a key among items.
-/
import Derived.Test.YtgeldfgcicjidaaT1
namespace Go.Proofs.Ytgeldfgcicjidaa
open Go.RowKit
set_option linter.unusedSimpArgs false
set_option linter.unusedVariables false

abbrev ps (l : List Im) : List It := l.map Im.p
theorem ps_at {l : List Im} {i : Nat} {x : Im} (h : l[i]? = some x) : (ps l)[i]? = some x.p := by rw [List.getElem?_map, h]; rfl
theorem enc_take {leaf : Bool} {l : List Im} {i : Nat} {x : Im} (h : l[i]? = some x) : ((ps l).take (i + 1)).flatMap (encI leaf) = ((ps l).take i).flatMap (encI leaf) ++ encI leaf x.p := flat_take_succ _ (ps_at h)
set_option maxHeartbeats 2000000 in
theorem bytes_spec (F : HP) (leaf : Bool) (A : Option Addr) (n c : Nat) (l : List Im) (hV : Vw F (.slice A n c) 3 n (l.flatMap imC)) (hn : l.length = n) (hF : okV F l) (hl : n ≤ 64) (hw1 : ∀ x ∈ ps l, x.ok) :
    Spec Try.prog 47 [.agg #[.bool leaf, .slice A n c]] [] F (fun _ : Value => True) (fun v => v) (fun v => [bytesO v (encN leaf (ps l))]) := by
  intro ω w hh
  refine enter Try.func47 rfl Try.ntmps47 rfl hh ?_
  simp only [List.nil_append, argsB]
  have hpl : (ps l).length = n := by rw [List.length_map, hn]
  have hel := encs_len (leaf := leaf) hw1
  have hsz : sizeN leaf (ps l) ≤ 64 * 200 := by
    have hb : ∀ (q : List It), (∀ x ∈ q, x.ok) → sizeN leaf q ≤ q.length * 200 := by
      intro q hq
      induction q with
      | nil => simp [sizeN]
      | cons x q ih =>
        have h1 := ih (fun y hy => hq y (List.mem_cons_of_mem _ hy))
        obtain ⟨_, h2, h3, _⟩ := hq x List.mem_cons_self
        unfold sizeN at *
        rw [List.map_cons, List.sum_cons, List.length_cons]
        have : sizeI leaf x ≤ 200 := by unfold sizeI; cases leaf <;> (dsimp only; omega)
        omega
    have := hb _ hw1
    rw [hpl] at this; omega
  have hk2 : (uvar (kindN leaf)).length = 1 := by rw [uvar_small (by cases leaf <;> decide)]; rfl
  have hn2 : (uvar n).length = 1 := by rw [uvar_small (by omega)]; rfl
  refine sr ?_
  refine r_bx fun b1 => ?_
  refine rr (rd_assign rfl) ?_
  refine nx ?_
  refine sr ?_
  refine rr (rd_assign rfl) ?_
  refine nx ?_
  refine do_seq ?_
  refine sr ?_
  refine rr (rd_fa rfl fld105_0) ?_
  refine rr (rd_ld rfl row4) ?_
  refine nx ?_
  refine do_cut (fun _ : Unit => True) (fun _ => [(1, .pointer (some ⟨b1, 0, none⟩)), (3, .int .u64 (kindN leaf))]) (fun _ => [pts b1 105 [.bool leaf, .slice A n c], F]) (fun K hK => ?_) ?_
  · first | refine do_condp rfl (fun h8 => ?_) (fun h8 => ?_) | refine do_cond rfl (fun h8 => ?_) (fun h8 => ?_)
    · subst h8
      refine do_region ?_
      refine rr (rd_assign rfl) ?_
      refine run_nil ?_
      refine St.kp [(1, _), (3, _)] ?_
      refine St.then_n ?_
      exact St.sb (St.kq [(1, _), (3, _)] (h := hK () trivial))
    · subst h8
      refine do_skip ?_
      refine St.then_n ?_
      exact St.sb (St.kq [(1, _), (3, _)] (h := hK () trivial))
  rintro ⟨⟩ -
  refine do_seq ?_
  refine do_draw [[1, 6, 7], [6, 7], [3, 4, 5, 6, 7], [4, 5, 6, 7], [5, 6, 7], [6, 7], [7], []] (by kernel_rfl) rfl ?_
  refine ta 0 rfl (rd_move rfl) ?_
  refine ta 2 rfl (rd_fa rfl fld105_1) ?_
  refine ta 3 rfl (rd_ld rfl row67) ?_
  refine ta 4 rfl (rd_len Try.underlying67 rfl) ?_
  refine ta 5 rfl (rd_cvu Try.underlying3 Try.underlying120 rfl) ?_
  refine tr 1 ?_
  refine rc (hs := uint_spec _ (.slice none 0 0) [] (kindN leaf) (vwb_nil _) (by cases leaf <;> decide) (by decide)) (k := ?_)
  rintro v1 -
  rw [List.nil_append]
  refine St.vw vw_bytes .head (fun A1 c1 hv1 _ _ _ => ?_)
  subst hv1
  try simp only [List.cons_append, List.nil_append]
  refine nx ?_
  refine any_next (by apply bk 5 rfl (rd_cvu Try.underlying3 Try.underlying120 rfl); apply bk 4 rfl (rd_len Try.underlying67 rfl); apply bk 3 rfl (rd_ld rfl row67); apply bk 2 rfl (rd_fa rfl fld105_1); apply bd 0; exact .nil) ?_
  refine tr 6 ?_
  refine rc (hs := uint_spec _ _ (uvar (kindN leaf)) n (Vw.sep vw_bytes (by repeat (first | with_reducible exact Sel.head | apply Sel.tail))) (by omega) (by omega)) (k := ?_)
  rintro v2 -
  refine St.vw vw_bytes .head (fun A2 c2 hv2 _ _ _ => ?_)
  subst hv2
  try simp only [List.cons_append, List.nil_append]
  refine nx ?_
  refine any_next (by apply bd 5; apply bd 4; apply bd 3; apply bd 2; exact .nil) ?_
  refine ta 7 rfl (rd_assign rfl) ?_
  refine any_nil (by kernel_rfl) ?_
  refine St.kp [(1, _), (4, _)] ?_
  refine St.then_n ?_
  refine do_seq ?_
  refine sr ?_
  refine rr (rd_fa rfl fld105_1) ?_
  refine rr (rd_ld rfl row67) ?_
  refine rr (rd_len Try.underlying67 rfl) ?_
  refine rr (rd_move rfl) ?_
  refine nx ?_
  refine do_block ?_
  refine do_lp (fun y : Nat × Value => y.1 ≤ n) (fun y => [(1, .pointer (some ⟨b1, 0, none⟩)), (4, y.2), (17, .slice A n c), (18, .int .i64 n), (19, .int .i64 y.1)]) (fun y => [bytesO y.2 (uvar (kindN leaf) ++ (uvar n ++ ((ps l).take y.1).flatMap (encI leaf))), pts b1 105 [.bool leaf, .slice A n c], F]) (fun y => n - y.1) (0, .slice A2 (uvar (kindN leaf) ++ uvar n).length c2) (Nat.zero_le _) ?_ (hΓ := by simp only [List.take_zero, List.flatMap_nil, List.append_nil]; exact (by repeat (first | exact Pick.nil | apply Pick.cons (by repeat (first | with_reducible exact Sel.head | apply Sel.tail)))))
  rintro ⟨i, v⟩ hi
  dsimp only at hi ⊢
  refine sr ?_
  refine rr (rd_lt rfl rfl) ?_
  refine nx ?_
  refine do_seq ?_
  first | refine do_condp rfl (fun h20 => ?_) (fun h20 => ?_) | refine do_cond rfl (fun h20 => ?_) (fun h20 => ?_)
  · have hx := List.getElem?_eq_getElem (l := l) (i := i) (by omega)
    have hxm := List.mem_of_getElem? hx
    generalize l[i]'_ = x at hx hxm
    have hxk := hw1 x.p (List.mem_map_of_mem hxm)
    have hxv := hF x hxm
    have ht := enc_take (leaf := leaf) hx
    have hle := flat_take_le (encI leaf) (ps l) i
    have hpi := flat_at (f := imC) imC_len hx
    obtain ⟨q1, q2, q3, q4⟩ := hxk
    refine St.vw_some hV (by repeat (first | with_reducible exact Sel.head | apply Sel.tail)) (by omega) (fun g of hg _ _ => ?_)
    subst hg
    obtain ⟨xk, xA, xc, xb, xd⟩ := x
    dsimp only at q1 q2 q3 q4 hxv
    obtain ⟨B, hB⟩ : ∃ B, uvar (kindN leaf) ++ (uvar n ++ ((ps l).take i).flatMap (encI leaf)) = B := ⟨_, rfl⟩
    have hBl : B.length ≤ 13000 := by rw [← hB, List.length_append, List.length_append]; omega
    rw [hB]
    refine do_skip ?_
    refine St.then_n ?_
    refine do_seq ?_
    refine do_block ?_
    refine sr ?_
    refine rr ((rd_indexAddr Try.underlying67 ei69 rfl rfl (by omega) (by omega)).eq (show _ = Value.pointer (some ⟨g, of + i * 3, none⟩) by simp)) ?_
    refine rr (rd_ldr _ rfl row69 (Vw.cells (k := 3) (vs := [.string (strOf xk), .slice xA xb.length xc, .int .i64 xd]) hV (by repeat (first | with_reducible exact Sel.head | apply Sel.tail)) (by omega) hpi)) ?_
    refine r_al zero69 fun b6 => ?_
    first | refine r_sa row69 ?_ | refine r_sm row69 ?_
    refine nx ?_
    refine sr ?_
    refine rr (rd_move rfl) ?_
    refine rr (rd_fa rfl fld69_0) ?_
    refine rr (rd_ld rfl row9) ?_
    refine rc (hs := text_spec _ _ B xk (Vw.sep vw_bytes (by repeat (first | with_reducible exact Sel.head | apply Sel.tail))) (by omega) (by omega)) (k := ?_)
    rintro v3 -
    try simp only [List.cons_append, List.nil_append]
    refine rr (rd_assign rfl) ?_
    refine run_nil ?_
    refine St.kp [(1, _), (4, _), (6, _), (17, _), (18, _), (19, _)] ?_
    refine St.then_n ?_
    refine sr ?_
    refine rr (rd_fa rfl fld105_0) ?_
    refine rr (rd_ld rfl row4) ?_
    refine nx ?_
    refine do_cutQ (fun _ : Value => True) (fun v4 => [(1, .pointer (some ⟨b1, 0, none⟩)), (4, v4), (17, .slice (some ⟨g, of, none⟩) n c), (18, .int .i64 n), (19, .int .i64 i)]) (fun v4 => [bytesO v4 (uvar (kindN leaf) ++ (uvar n ++ ((ps l).take (i + 1)).flatMap (encI leaf))), pts b1 105 [.bool leaf, .slice (some ⟨g, of, none⟩) n c], F]) (fun K hK => ?_) ?_
    have hB2 : uvar (kindN leaf) ++ (uvar n ++ ((ps l).take (i + 1)).flatMap (encI leaf)) = B ++ encI leaf ⟨xk, xb, xd⟩ := by
      rw [← hB, ht]; simp only [List.append_assoc]
    rw [hB2] at hK
    · first | refine do_condp rfl (fun h28 => ?_) (fun h28 => ?_) | refine do_cond rfl (fun h28 => ?_) (fun h28 => ?_)
      · subst h28
        refine do_region ?_
        refine rr (rd_move rfl) ?_
        refine rr (rd_fa rfl fld69_1) ?_
        refine rr (rd_ld rfl row44) ?_
        refine rc (hs := byt_spec _ _ _ (B ++ uvar xk.length ++ xk) xb (Vw.sep vw_bytes (by repeat (first | with_reducible exact Sel.head | apply Sel.tail))) (Vw.sep hxv (by repeat (first | with_reducible exact Sel.head | apply Sel.tail))) (by omega) (by rw [List.length_append, List.length_append]; have := uvar_len64 (n := xk.length) (by omega); omega)) (k := ?_)
        rintro v4 -
        rw [show B ++ uvar xk.length ++ xk ++ uvar xb.length ++ xb = B ++ encI true ⟨xk, xb, xd⟩ by simp only [encI, txt, List.append_assoc]]
        try simp only [List.cons_append, List.nil_append]
        refine rr (rd_assign rfl) ?_
        refine run_nil ?_
        refine St.kp [(1, _), (4, _), (17, _), (18, _), (19, _)] ?_
        refine St.then_n ?_
        exact St.sb (St.kq [(1, _), (4, _), (17, _), (18, _), (19, _)] (h := hK v4 trivial))
      · subst h28
        refine do_region ?_
        refine rr (rd_move rfl) ?_
        refine rr (rd_fa rfl fld69_2) ?_
        refine rr (rd_ld rfl row3) ?_
        refine rr (rd_cvu Try.underlying3 Try.underlying120 rfl) ?_
        refine rc (hs := uint_spec _ _ (B ++ uvar xk.length ++ xk) xd (Vw.sep vw_bytes (by repeat (first | with_reducible exact Sel.head | apply Sel.tail))) (by omega) (by rw [List.length_append, List.length_append]; have := uvar_len64 (n := xk.length) (by omega); omega)) (k := ?_)
        rintro v4 -
        rw [show B ++ uvar xk.length ++ xk ++ uvar xd = B ++ encI false ⟨xk, xb, xd⟩ by simp only [encI, txt, List.append_assoc]]
        try simp only [List.cons_append, List.nil_append]
        refine rr (rd_assign rfl) ?_
        refine run_nil ?_
        refine St.kp [(1, _), (4, _), (17, _), (18, _), (19, _)] ?_
        refine St.then_n ?_
        exact St.sb (St.kq [(1, _), (4, _), (17, _), (18, _), (19, _)] (h := hK v4 trivial))
    rintro v4 -
    refine St.blk_n ?_
    refine St.then_n ?_
    refine do_region ?_
    refine rr (rd_addi rfl rfl) ?_
    refine rr (rd_move rfl) ?_
    refine nx ?_
    exact loop_bk (i + 1, v4) (by dsimp only; omega) (hμ := by dsimp only; omega)
  · have htk : (ps l).take i = ps l := List.take_of_length_le (by omega)
    rw [htk]
    refine do_exit ?_
    refine St.then_x ?_
    refine St.then_x ?_
    refine St.blk_s ?_
    refine St.then_n ?_
    refine sr ?_
    refine rr (rd_move rfl) ?_
    refine rr (rd_assign rfl) ?_
    refine run_nil ?_
    refine St.kp [(2, _)] ?_
    refine St.then_n ?_
    refine do_ret ?_
    refine do_ret1 Try.results47 (res_tmp rfl) ?_
    intro w hw
    exact ⟨_, trivial, rfl, by unfold encN; rw [hpl]; exact hw.sb⟩
theorem shr1 (n : Nat) : Value.int .u64 ((n : Int).fdiv (2 ^ (min (1 : Int).toNat IntKind.u64.bits))) = .int .u64 ((n / 2 : Nat) : Int) := by
  congr 1
  simp [IntKind.bits]
  rw [Int.fdiv_eq_ediv_of_nonneg _ (by omega)]
theorem findCmp_spec (F : HP) (x : Im) (key : List UInt8) : Spec Try.prog 60 ([.agg (imC x).toArray, .string (strOf key)] ++ []) [] F (fun _ : Unit => True) (fun _ => .int .i64 (cmpB x.k key)) (fun _ => []) := by
  intro ω w hh
  rw [List.append_nil]
  refine enter Try.func60 rfl Try.ntmps60 rfl hh ?_
  simp only [List.nil_append, argsB, imC]
  refine sr ?_
  refine r_bx fun b2 => ?_
  refine rr (rd_assign rfl) ?_
  refine nx ?_
  refine sr ?_
  refine rr (rd_fa rfl fld69_0) ?_
  refine rr (rd_ld rfl row9) ?_
  refine rr (rd_move rfl) ?_
  refine rc (hs := cmpStr2_spec _ x.k key) (k := ?_)
  rintro ⟨⟩ -
  try simp only [List.cons_append, List.nil_append]
  refine rr (rd_assign rfl) ?_
  refine run_nil ?_
  refine St.kp [(4, _)] ?_
  refine St.then_n ?_
  refine do_ret ?_
  refine do_ret1 Try.results60 (res_tmp rfl) ?_
  intro w hw
  exact ⟨(), trivial, rfl, hw.sb⟩
theorem belowCmp_spec (F : HP) (x : Im) (key : List UInt8) : Spec Try.prog 83 ([.agg (imC x).toArray, .string (strOf key)] ++ []) [] F (fun _ : Unit => True) (fun _ => .int .i64 (cmpB x.k key)) (fun _ => []) := by
  intro ω w hh
  rw [List.append_nil]
  refine enter Try.func83 rfl Try.ntmps83 rfl hh ?_
  simp only [List.nil_append, argsB, imC]
  refine sr ?_
  refine r_bx fun b2 => ?_
  refine rr (rd_assign rfl) ?_
  refine nx ?_
  refine sr ?_
  refine rr (rd_fa rfl fld69_0) ?_
  refine rr (rd_ld rfl row9) ?_
  refine rr (rd_move rfl) ?_
  refine rc (hs := compare_spec _ x.k key) (k := ?_)
  rintro ⟨⟩ -
  try simp only [List.cons_append, List.nil_append]
  refine rr (rd_assign rfl) ?_
  refine run_nil ?_
  refine St.kp [(4, _)] ?_
  refine St.then_n ?_
  refine do_ret ?_
  refine do_ret1 Try.results83 (res_tmp rfl) ?_
  intro w hw
  exact ⟨(), trivial, rfl, hw.sb⟩
/-- Do the keys rise? -/
def Srt (l : List It) : Prop := l.Pairwise fun a b => cmpB a.k b.k < 0
/-- Where a key stands among rising ones, or would. -/
def pos (l : List It) (key : List UInt8) : Nat := (l.takeWhile fun x => decide (cmpB x.k key < 0)).length
def fnd (l : List It) (key : List UInt8) : Bool := match l[pos l key]? with | some x => decide (cmpB x.k key = 0) | none => false
theorem pos_le (l : List It) (key : List UInt8) : pos l key ≤ l.length := (List.takeWhile_sublist _).length_le
theorem pos_of {l : List It} {key : List UInt8} {i : Nat} (hi : i ≤ l.length) (h1 : ∀ q x, q < i → l[q]? = some x → cmpB x.k key < 0) (h2 : ∀ x, l[i]? = some x → ¬ cmpB x.k key < 0) : pos l key = i := by
  unfold pos
  conv => lhs; rw [← List.take_append_drop i l]
  rw [List.takeWhile_append_of_pos]
  · have h3 : (l.drop i).takeWhile (fun x => decide (cmpB x.k key < 0)) = [] := by
      rcases Nat.lt_or_ge i l.length with h | h
      · rw [List.drop_eq_getElem_cons h, List.takeWhile_cons, if_neg]
        simpa using h2 _ (List.getElem?_eq_getElem h)
      · rw [List.drop_eq_nil_of_le h]; rfl
    rw [h3, List.append_nil, List.length_take, Nat.min_eq_left hi]
  · intro x hx
    obtain ⟨q, hq⟩ := List.getElem?_of_mem hx
    have hqi := (List.getElem?_eq_some_iff.1 hq).1
    rw [List.length_take] at hqi
    rw [List.getElem?_take_of_lt (by omega)] at hq
    exact decide_eq_true (h1 q x (by omega) hq)
theorem Srt.lt {l : List It} (h : Srt l) {i j : Nat} {x y : It} (hij : i < j) (hx : l[i]? = some x) (hy : l[j]? = some y) : cmpB x.k y.k < 0 := by
  obtain ⟨h1, rfl⟩ := List.getElem?_eq_some_iff.1 hx
  obtain ⟨h2, rfl⟩ := List.getElem?_eq_some_iff.1 hy
  exact List.pairwise_iff_getElem.1 h i j h1 h2 hij
set_option maxHeartbeats 1000000 in
theorem search_spec (F : HP) (A : Option Addr) (n c : Nat) (l : List Im) (key : List UInt8) (cf : FuncId) (hc : ∀ F x, Spec Try.prog cf ([.agg (imC x).toArray, .string (strOf key)] ++ []) [] F (fun _ : Unit => True) (fun _ => .int .i64 (cmpB x.k key)) (fun _ => [])) (hb : hasBody Try.prog cf = true)
    (hV : Vw F (.slice A n c) 3 n (l.flatMap imC)) (hn : l.length = n) (hl : n ≤ 4611686018427387904) (hs : Srt (ps l)) :
    Spec Try.prog 59 [.slice A n c, .string (strOf key), .func (.func cf) #[] #[]] [] F (fun _ : Unit => True) (fun _ => .tuple #[.int .i64 (pos (ps l) key), .bool (fnd (ps l) key)]) (fun _ => []) := by
  intro ω w hh
  refine enter Try.func59 rfl Try.ntmps59 rfl hh ?_
  simp only [List.nil_append, argsB]
  have hpl : (ps l).length = n := by rw [List.length_map, hn]
  refine sr ?_
  refine rr (rd_assign rfl) ?_
  refine rr (rd_assign rfl) ?_
  refine nx ?_
  refine sr ?_
  refine rr (rd_move rfl) ?_
  refine rr (rd_len Try.underlying67 rfl) ?_
  refine rr (rd_assign rfl) ?_
  refine run_nil ?_
  refine St.kp [(0, _), (1, _), (2, _), (8, _)] ?_
  refine St.then_n ?_
  refine sr ?_
  refine rr (rd_move rfl) ?_
  refine rr (rd_assign rfl) ?_
  refine rr (rd_assign rfl) ?_
  refine nx ?_
  refine do_seq ?_
  refine do_block ?_
  refine do_lp (fun y : Nat × Nat => y.1 ≤ y.2 ∧ y.2 ≤ n ∧ (∀ q x, q < y.1 → (ps l)[q]? = some x → cmpB x.k key < 0) ∧ (∀ q x, y.2 ≤ q → (ps l)[q]? = some x → ¬ cmpB x.k key < 0)) (fun y => [(0, .slice A n c), (1, .string (strOf key)), (2, .func (.func cf) #[] #[]), (8, .int .i64 n), (9, .int .i64 y.1), (10, .int .i64 y.2)]) (fun _ => [F]) (fun y => y.2 - y.1) (0, n) ⟨Nat.zero_le _, Nat.le_refl _, fun q x h => absurd h (Nat.not_lt_zero _), fun q x h hx => absurd (List.getElem?_eq_some_iff.1 hx).1 (by omega)⟩ ?_
  rintro ⟨i, j⟩ ⟨hij, hj, hlo, hhi⟩
  dsimp only at hij hj hlo hhi ⊢
  refine do_seq ?_
  refine sr ?_
  refine rr (rd_move rfl) ?_
  refine rr (rd_move rfl) ?_
  refine rr (rd_lt rfl rfl) ?_
  refine nx ?_
  first | refine do_condp rfl (fun h17 => ?_) (fun h17 => ?_) | refine do_cond rfl (fun h17 => ?_) (fun h17 => ?_)
  · obtain ⟨h, hh2⟩ : ∃ h, h = (i + j) / 2 := ⟨_, rfl⟩
    have hx := List.getElem?_eq_getElem (l := l) (i := h) (by omega)
    generalize l[h]'_ = x at hx
    have hpx := ps_at hx
    have hpi := flat_at (f := imC) imC_len hx
    refine St.vw_some hV (by repeat (first | with_reducible exact Sel.head | apply Sel.tail)) (by omega) (fun g of hg _ _ => ?_)
    subst hg
    refine do_skip ?_
    refine St.then_n ?_
    refine do_block ?_
    refine sr ?_
    refine rr (rd_move rfl) ?_
    refine rr (rd_move rfl) ?_
    refine rr (rd_addi rfl rfl) ?_
    refine rr (rd_cvu Try.underlying3 Try.underlying141 rfl) ?_
    refine rr ((rd_shr (by decide) rfl rfl).eq (show _ = Value.int .u64 (h : Int) by rw [hh2]; exact shr1 (i + j))) ?_
    refine rr (rd_cvi Try.underlying141 Try.underlying3 rfl) ?_
    refine rr (rd_assign rfl) ?_
    refine run_nil ?_
    refine St.kp [(0, _), (1, _), (2, _), (8, _), (9, _), (10, _), (11, _)] ?_
    refine St.then_n ?_
    refine sr ?_
    refine rr (rd_move rfl) ?_
    refine rr (rd_move rfl) ?_
    refine rr (rd_move rfl) ?_
    refine rr ((rd_indexAddr Try.underlying67 ei69 rfl rfl (by omega) (by omega)).eq (show _ = Value.pointer (some ⟨g, of + h * 3, none⟩) by simp)) ?_
    refine rr (rd_ldr _ rfl row69 (Vw.cells (k := 3) (vs := imC x) hV (by repeat (first | with_reducible exact Sel.head | apply Sel.tail)) (by omega) hpi)) ?_
    refine rr (rd_move rfl) ?_
    refine rcv (f := cf) (cap := []) (hs := hc _ x) (k := ?_) (hf := hb)
    rintro ⟨⟩ -
    simp only [List.nil_append]
    refine rr (rd_lt rfl rfl) ?_
    refine run_nil ?_
    refine St.kp [(0, _), (1, _), (2, _), (8, _), (9, _), (10, _), (11, _), (31, _)] ?_
    refine St.then_n ?_
    first | refine do_condp rfl (fun h31 => ?_) (fun h31 => ?_) | refine do_cond rfl (fun h31 => ?_) (fun h31 => ?_)
    · have hm1 := h31
      refine do_region ?_
      refine rr (rd_move rfl) ?_
      refine rr (rd_addi rfl rfl) ?_
      refine rr (rd_assign rfl) ?_
      refine run_nil ?_
      refine St.kp [(0, _), (1, _), (2, _), (8, _), (9, _), (10, _)] ?_
      refine St.blk_n ?_
      refine St.then_n ?_
      first
        | (have hm3 := hm1
           exact loop_bk (h + 1, j) ⟨by dsimp only; omega, hj, fun q y hq hy => by
            rcases Nat.lt_or_ge q h with hq2 | hq2
            · have := hs.lt hq2 hy hpx
              exact cmpB_trans _ _ _ this h31
            · obtain rfl : q = h := by dsimp only at hq; omega
              obtain rfl := Option.some.inj (hpx.symm.trans hy)
              exact h31, hhi⟩ (hμ := by dsimp only; omega))
        | (have hm3 := hm2
           exact loop_bk (i, h) ⟨by dsimp only; omega, by dsimp only; omega, hlo, fun q y hq hy hlt => by
            rcases Nat.lt_or_ge h q with hq2 | hq2
            · have := hs.lt hq2 hpx hy
              exact h31 (cmpB_trans _ _ _ this hlt)
            · obtain rfl : q = h := by dsimp only at hq; omega
              obtain rfl := Option.some.inj (hpx.symm.trans hy)
              exact h31 hlt⟩ (hμ := by dsimp only; omega))
    · have hm2 := h31
      refine do_region ?_
      refine rr (rd_move rfl) ?_
      refine rr (rd_assign rfl) ?_
      refine run_nil ?_
      refine St.blk_n ?_
      refine St.then_n ?_
      first
        | (have hm3 := hm1
           exact loop_bk (h + 1, j) ⟨by dsimp only; omega, hj, fun q y hq hy => by
            rcases Nat.lt_or_ge q h with hq2 | hq2
            · have := hs.lt hq2 hy hpx
              exact cmpB_trans _ _ _ this h31
            · obtain rfl : q = h := by dsimp only at hq; omega
              obtain rfl := Option.some.inj (hpx.symm.trans hy)
              exact h31, hhi⟩ (hμ := by dsimp only; omega))
        | (have hm3 := hm2
           exact loop_bk (i, h) ⟨by dsimp only; omega, by dsimp only; omega, hlo, fun q y hq hy hlt => by
            rcases Nat.lt_or_ge h q with hq2 | hq2
            · have := hs.lt hq2 hpx hy
              exact h31 (cmpB_trans _ _ _ this hlt)
            · obtain rfl : q = h := by dsimp only at hq; omega
              obtain rfl := Option.some.inj (hpx.symm.trans hy)
              exact h31 hlt⟩ (hμ := by dsimp only; omega))
  · obtain rfl : i = j := by omega
    have hp : pos (ps l) key = i := pos_of (by omega) hlo (fun x hx => hhi i x (Nat.le_refl _) hx)
    have hfd : fnd (ps l) key = match (ps l)[i]? with | some x => decide (cmpB x.k key = 0) | none => false := by unfold fnd; rw [hp]
    rw [hp]
    refine do_exit ?_
    refine St.then_x ?_
    refine St.then_x ?_
    refine St.blk_s ?_
    refine St.then_n ?_
    refine do_seq ?_
    refine do_cut (fun z : Bool => z = fnd (ps l) key) (fun z => [(6, .int .i64 i), (7, .bool z)]) (fun _ => [F]) (fun K hK => ?_) ?_
    · by_cases hin : i < n
      · refine do_region ?_
        try (have hx := List.getElem?_eq_getElem (l := l) (i := i) (by omega); generalize l[i]'_ = x at hx; have hpi := flat_at (f := imC) imC_len hx; rw [ps_at hx] at hfd; refine St.vw_some hV (by repeat (first | with_reducible exact Sel.head | apply Sel.tail)) (by omega) (fun g of hg _ _ => ?_); subst hg)
        refine rr (rd_move rfl) ?_
        refine rr (rd_move rfl) ?_
        refine rr (rd_move rfl) ?_
        first | refine rr ((rd_lt rfl rfl).eq (show _ = Value.bool true from congrArg _ (decide_eq_true (by omega)))) ?_ | refine rr ((rd_lt rfl rfl).eq (show _ = Value.bool false from congrArg _ (decide_eq_false (by omega)))) ?_
        refine rr (rd_move rfl) ?_
        first | refine sk ?_ | (refine rr (rd_move rfl) ?_)
        first | refine sk ?_ | (refine rr (rd_move rfl) ?_)
        first | refine sk ?_ | (refine rr (rd_move rfl) ?_)
        first | refine sk ?_ | (refine rr ((rd_indexAddr Try.underlying67 ei69 rfl rfl (by omega) (by omega)).eq (show _ = Value.pointer (some ⟨g, of + i * 3, none⟩) by simp)) ?_)
        first | refine sk ?_ | (refine rr (rd_ldr _ rfl row69 (Vw.cells (k := 3) (vs := imC x) hV (by repeat (first | with_reducible exact Sel.head | apply Sel.tail)) (by omega) hpi)) ?_)
        first | refine sk ?_ | (refine rr (rd_move rfl) ?_)
        first
          | refine sk ?_
          | (refine rcv (f := cf) (cap := []) (hs := hc _ x) (k := ?_) (hf := hb)
             rintro ⟨⟩ -
             simp only [List.nil_append])
        first | refine sk ?_ | (refine rr (rd_eq rfl rfl) ?_)
        refine rr (rd_pick rfl rfl) ?_
        refine rr (rd_assign rfl) ?_
        refine rr (rd_assign rfl) ?_
        refine run_nil ?_
        refine St.kp [(6, _), (7, _)] ?_
        refine St.then_n ?_
        first
          | (have hm := (show i < n from hin)
             exact St.sb (St.kq [(6, _), (7, _)] (h := hK _ hfd.symm)))
          | exact St.sb (St.kq [(6, _), (7, _)] (h := hK _ (by rw [hfd, List.getElem?_eq_none (by omega)])))
      · refine do_region ?_
        try (have hx := List.getElem?_eq_getElem (l := l) (i := i) (by omega); generalize l[i]'_ = x at hx; have hpi := flat_at (f := imC) imC_len hx; rw [ps_at hx] at hfd; refine St.vw_some hV (by repeat (first | with_reducible exact Sel.head | apply Sel.tail)) (by omega) (fun g of hg _ _ => ?_); subst hg)
        refine rr (rd_move rfl) ?_
        refine rr (rd_move rfl) ?_
        refine rr (rd_move rfl) ?_
        first | refine rr ((rd_lt rfl rfl).eq (show _ = Value.bool true from congrArg _ (decide_eq_true (by omega)))) ?_ | refine rr ((rd_lt rfl rfl).eq (show _ = Value.bool false from congrArg _ (decide_eq_false (by omega)))) ?_
        refine rr (rd_move rfl) ?_
        first | refine sk ?_ | (refine rr (rd_move rfl) ?_)
        first | refine sk ?_ | (refine rr (rd_move rfl) ?_)
        first | refine sk ?_ | (refine rr (rd_move rfl) ?_)
        first | refine sk ?_ | (refine rr ((rd_indexAddr Try.underlying67 ei69 rfl rfl (by omega) (by omega)).eq (show _ = Value.pointer (some ⟨g, of + i * 3, none⟩) by simp)) ?_)
        first | refine sk ?_ | (refine rr (rd_ldr _ rfl row69 (Vw.cells (k := 3) (vs := imC x) hV (by repeat (first | with_reducible exact Sel.head | apply Sel.tail)) (by omega) hpi)) ?_)
        first | refine sk ?_ | (refine rr (rd_move rfl) ?_)
        first
          | refine sk ?_
          | (refine rcv (f := cf) (cap := []) (hs := hc _ x) (k := ?_) (hf := hb)
             rintro ⟨⟩ -
             simp only [List.nil_append])
        first | refine sk ?_ | (refine rr (rd_eq rfl rfl) ?_)
        refine rr (rd_pick rfl rfl) ?_
        refine rr (rd_assign rfl) ?_
        refine rr (rd_assign rfl) ?_
        refine run_nil ?_
        refine St.kp [(6, _), (7, _)] ?_
        refine St.then_n ?_
        first
          | (have hm := (show i < n from hin)
             exact St.sb (St.kq [(6, _), (7, _)] (h := hK _ hfd.symm)))
          | exact St.sb (St.kq [(6, _), (7, _)] (h := hK _ (by rw [hfd, List.getElem?_eq_none (by omega)])))
    rintro z hz
    rw [hz]
    refine do_ret ?_
    refine do_ret2 Try.results59 (res_tmp rfl) (res_tmp rfl) ?_
    intro w hw
    exact ⟨(), trivial, rfl, hw.sb⟩
theorem find_spec (F : HP) (A : Option Addr) (n c : Nat) (l : List Im) (key : List UInt8) (hV : Vw F (.slice A n c) 3 n (l.flatMap imC)) (hn : l.length = n) (hl : n ≤ 4611686018427387904) (hs : Srt (ps l)) :
    Spec Try.prog 35 [.slice A n c, .string (strOf key)] [] F (fun _ : Unit => True) (fun _ => .tuple #[.int .i64 (pos (ps l) key), .bool (fnd (ps l) key)]) (fun _ => []) := by
  intro ω w hh
  refine enter Try.func35 rfl Try.ntmps35 rfl hh ?_
  simp only [List.nil_append, argsB]
  refine sr ?_
  refine rr (rd_assign rfl) ?_
  refine rr (rd_assign rfl) ?_
  refine nx ?_
  refine sr ?_
  refine rr (rd_move rfl) ?_
  refine rr (rd_move rfl) ?_
  refine rc (hs := search_spec _ A n c l key _ (fun F x => findCmp_spec F x key) (by kernel_rfl) (hV.sep (by repeat (first | with_reducible exact Sel.head | apply Sel.tail))) hn hl hs) (k := ?_)
  rintro ⟨⟩ -
  try simp only [List.cons_append, List.nil_append]
  refine rr (rd_extract rfl rfl) ?_
  refine rr (rd_extract rfl rfl) ?_
  refine rr (rd_assign rfl) ?_
  refine rr (rd_assign rfl) ?_
  refine run_nil ?_
  refine St.kp [(4, _), (5, _)] ?_
  refine St.then_n ?_
  refine do_ret ?_
  refine do_ret2 Try.results35 (res_tmp rfl) (res_tmp rfl) ?_
  intro w hw
  exact ⟨(), trivial, rfl, hw.sb⟩
/-- Which kid has a key. -/
def belowF (l : List It) (key : List UInt8) : Nat := if fnd l key then pos l key else pos l key - 1
theorem below_spec (F : HP) (leaf : Bool) (A : Option Addr) (n c : Nat) (l : List Im) (key : List UInt8) (hV : Vw F (.slice A n c) 3 n (l.flatMap imC)) (hn : l.length = n) (hl : n ≤ 4611686018427387904) (hs : Srt (ps l)) :
    Spec Try.prog 65 [.agg #[.bool leaf, .slice A n c], .string (strOf key)] [] F (fun _ : Unit => True) (fun _ => .int .i64 (belowF (ps l) key)) (fun _ => []) := by
  intro ω w hh
  refine enter Try.func65 rfl Try.ntmps65 rfl hh ?_
  simp only [List.nil_append, argsB]
  have hpl := pos_le (ps l) key
  rw [List.length_map, hn] at hpl
  refine sr ?_
  refine r_bx fun b2 => ?_
  refine rr (rd_assign rfl) ?_
  refine nx ?_
  refine sr ?_
  refine rr (rd_fa rfl fld105_1) ?_
  refine rr (rd_ld rfl row67) ?_
  refine rr (rd_move rfl) ?_
  refine rc (hs := search_spec _ A n c l key _ (fun F x => belowCmp_spec F x key) (by kernel_rfl) (hV.sep (by repeat (first | with_reducible exact Sel.head | apply Sel.tail))) hn hl hs) (k := ?_)
  rintro ⟨⟩ -
  try simp only [List.cons_append, List.nil_append]
  refine rr (rd_move rfl) ?_
  refine rr (rd_extract rfl rfl) ?_
  refine rr (rd_extract rfl rfl) ?_
  refine rr (rd_assign rfl) ?_
  refine rr (rd_assign rfl) ?_
  refine run_nil ?_
  refine St.kp [(5, _), (6, _)] ?_
  refine St.then_n ?_
  refine do_seq ?_
  refine sr ?_
  refine rr (rd_move rfl) ?_
  refine nx ?_
  first | refine do_condp rfl (fun h14 => ?_) (fun h14 => ?_) | refine do_cond rfl (fun h14 => ?_) (fun h14 => ?_)
  · refine sr ?_
    refine rr (rd_move rfl) ?_
    refine rr (rd_assign rfl) ?_
    refine run_nil ?_
    refine St.kp [(4, _)] ?_
    refine St.then_n ?_
    refine do_ret ?_
    refine St.then_r ?_
    refine do_ret1 Try.results65 (res_tmp rfl) ?_
    intro w hw
    exact ⟨(), trivial, by unfold belowF; rw [if_pos h14], hw.sb⟩
  · refine do_skip ?_
    refine St.then_n ?_
    refine sr ?_
    refine rr (rd_move rfl) ?_
    refine rr (rd_subi rfl rfl) ?_
    refine rr ((rd_max rfl rfl).eq (show _ = Value.int .i64 ((pos (ps l) key - 1 : Nat) : Int) from congrArg _ (by omega))) ?_
    refine rr (rd_assign rfl) ?_
    refine run_nil ?_
    refine St.kp [(4, _)] ?_
    refine St.then_n ?_
    refine do_ret ?_
    refine do_ret1 Try.results65 (res_tmp rfl) ?_
    intro w hw
    exact ⟨(), trivial, by unfold belowF; rw [h14]; rfl, hw.sb⟩
end Go.Proofs.Ytgeldfgcicjidaa
