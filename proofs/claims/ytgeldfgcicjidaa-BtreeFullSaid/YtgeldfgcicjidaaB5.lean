/-
  The pager: its state, what is free, reading and writing a page.
-/
import Derived.Test.YtgeldfgcicjidaaB4
namespace Go.Proofs.Ytgeldfgcicjidaa
open Go.RowKit
set_option linter.unusedSimpArgs false
set_option linter.unusedVariables false

/-- A pager: its disk, its first sector, its pages, their marks, its root. -/
structure PS where
  dk : DS
  fr : Nat
  n : Nat
  is : List UInt8
  gen : Int
  page : Int
  next : Int
  mb : List UInt8
  dead : Bool
def pgC (d : Nat) (S : PS) (mv : Value) : List Value := [.pointer (some ⟨d, 0, none⟩), .int .i64 S.fr, .int .i64 S.n] ++ (S.is.map bcell ++ [.int .i64 S.gen, .int .i64 S.page, .int .i64 S.next, mv, .bool S.dead])
def pagerO (d p : Nat) (S : PS) : HP := fun h => ∃ mv, Sep [pts p 85 (pgC d S mv), bytesO mv S.mb, diskO d S.dk] h
/-- What always holds of a pager that lives. -/
structure PS.ok (S : PS) (k : Nat) : Prop where
  safe : S.dk.safe.length = k * 256
  now : S.dk.now.length = k * 256
  k4 : k ≤ 4096
  nk : S.fr + 2 + S.n ≤ k
  is4 : S.is.length = 4096
  fu : S.dk.fu = false
  de : S.dk.de = false
  dead : S.dead = false
section
variable {ω : Amb} {m : Nat} {ds : List Deferred} {Γ Γ1 : List HP} {β : List (Nat × Value)} {K : Act → World → Prop} {d p : Nat}
theorem St.pg_open {S : PS} (h : ∀ mv, St ω m ds (pts p 85 (pgC d S mv) :: bytesO mv S.mb :: diskO d S.dk :: Γ) β K) : St ω m ds (pagerO d p S :: Γ) β K := by
  unfold pagerO
  exact St.ex fun mv => St.flat (h mv)
theorem Holds.pg_shut {w : World} (S : PS) (mv : Value) (h : Holds ω Γ w) (q : Pick [pts p 85 (pgC d S mv), bytesO mv S.mb, diskO d S.dk] Γ Γ1 := by repeat (first | exact Pick.nil | apply Pick.cons (by repeat (first | with_reducible exact Sel.head | apply Sel.tail)))) : Holds ω (pagerO d p S :: Γ1) w :=
  Holds.ent (fun _ h => ⟨mv, h⟩) (Holds.flat.2 (Holds.unpick (h.pick q)))
theorem St.pg_shut (S : PS) (mv : Value) (h : St ω m ds (pagerO d p S :: Γ1) β K) (q : Pick [pts p 85 (pgC d S mv), bytesO mv S.mb, diskO d S.dk] Γ Γ1 := by repeat (first | exact Pick.nil | apply Pick.cons (by repeat (first | with_reducible exact Sel.head | apply Sel.tail)))) : St ω m ds Γ β K := fun a w b c =>
  h a w (Holds.pg_shut S mv b q) c
end
theorem at3 {a b c : Value} {X : List Value} {i : Nat} : ([a, b, c] ++ X)[3 + i]? = X[i]? := by rw [Nat.add_comm 3 i]; rfl
theorem pg_is {d : Nat} {S : PS} {mv : Value} {i : Nat} {c : UInt8} (h : S.is[i]? = some c) : (pgC d S mv)[3 + i]? = some (bcell c) := by
  have hi := (List.getElem?_eq_some_iff.1 h).1
  unfold pgC
  rw [at3, List.getElem?_append_left (by rw [List.length_map]; exact hi), List.getElem?_map, h]
  rfl
theorem pg_tail {d : Nat} {S : PS} {mv : Value} (h4 : S.is.length = 4096) (j : Nat) : (pgC d S mv)[4099 + j]? = [Value.int .i64 S.gen, .int .i64 S.page, .int .i64 S.next, mv, .bool S.dead][j]? := by
  unfold pgC
  rw [show 4099 + j = 3 + (4096 + j) by omega, at3, List.getElem?_append_right (by rw [List.length_map, h4]; exact Nat.le_add_right _ _), List.length_map, h4, Nat.add_sub_cancel_left]
/-- The pages that are free. -/
def PS.free (S : PS) (i : Nat) : Bool := S.is[i]? == some 0
def PS.fre (S : PS) : List Nat := (List.range S.n).filter S.free
def PS.frN (S : PS) (j : Nat) : Nat := ((List.range j).filter S.free).length
theorem frN_succ {S : PS} {j : Nat} : S.frN (j + 1) = S.frN j + if S.free j then 1 else 0 := by
  unfold PS.frN
  rw [List.range_succ, List.filter_append, List.length_append]
  by_cases h : S.free j
  · simp [h]
  · simp [h]
theorem fre_at {S : PS} {j : Nat} (hj : j < S.n) (h : S.free j = true) : S.fre[S.frN j]? = some j := by
  unfold PS.fre PS.frN
  obtain ⟨q, hq⟩ := Nat.exists_eq_add_of_lt hj
  rw [show S.n = (j + 1) + q by omega, List.range_add, List.filter_append, List.range_succ, List.filter_append, List.append_assoc, List.getElem?_append_right (Nat.le_refl _), Nat.sub_self]
  simp [h]
theorem there_spec (F : HP) (d p i : Nat) (S : PS) (hi : i < S.n) (hn : S.n ≤ 4096) :
    Spec Try.prog 89 [.pointer (some ⟨p, 0, none⟩), .int .i64 i] [pagerO d p S] F (fun _ : Unit => True) (fun _ => .bool true) (fun _ => [pagerO d p S]) := by
  intro ω w hh
  refine enter Try.func89 rfl Try.ntmps89 rfl hh ?_
  simp only [List.cons_append, List.nil_append, argsB]
  refine St.pg_open fun mv => ?_
  refine sr ?_
  refine rr (rd_assign rfl) ?_
  refine nx ?_
  refine sr ?_
  refine rr (rd_move rfl) ?_
  refine rr ((rd_ge rfl rfl).eq (show _ = Value.bool true from congrArg _ (decide_eq_true (by omega)))) ?_
  refine rr (rd_move rfl) ?_
  first | refine sk ?_ | (refine rr (rd_move rfl) ?_)
  first | refine sk ?_ | (refine rr (rd_move rfl) ?_)
  first | refine sk ?_ | (refine rr (rd_nilCheck rfl) ?_)
  first | refine sk ?_ | (refine rr (rd_fa rfl fld85_2) ?_)
  first | refine sk ?_ | (refine rr (rd_ld rfl row3) ?_)
  first | refine sk ?_ | (refine rr ((rd_lt rfl rfl).eq (show _ = Value.bool true from congrArg _ (decide_eq_true (by omega)))) ?_)
  refine rr (rd_pick rfl rfl) ?_
  refine rr (rd_assign rfl) ?_
  refine run_nil ?_
  refine St.kp [(4, _)] ?_
  refine St.then_n ?_
  refine do_ret ?_
  refine do_ret1 Try.results89 (res_tmp rfl) ?_
  intro w hw
  exact ⟨(), trivial, rfl, Holds.pg_shut S mv hw⟩
theorem empty_spec (F : HP) (v : Value) (h1 : v.oneCell' = true) : Spec Try.prog 30 [v] [] F (fun _ : Nat => True) (fun b => .func (.func 52) #[] #[.pointer (some ⟨b, 0, none⟩)]) (fun b => [pts b 26 [v]]) := by
  intro ω w hh
  refine enter Try.func30 rfl Try.ntmps30 rfl hh ?_
  simp only [List.nil_append, argsB]
  refine sr ?_
  refine r_b1 (fun b1 => ?_) (h1 := h1)
  refine rr (rd_assign rfl) ?_
  refine nx ?_
  refine sr ?_
  refine rr (rd_makeFunc rfl) ?_
  refine rr (rd_assign rfl) ?_
  refine nx ?_
  refine do_ret ?_
  refine do_ret1 Try.results30 (res_tmp rfl) ?_
  intro w hw
  exact ⟨b1, trivial, rfl, hw.sb⟩
abbrev freX (S : PS) (i : Nat) (vs : List Value) : Prop := ∃ q, S.fre[i]? = some q ∧ vs = [.int .i64 ((q : Nat) : Int)]
abbrev freIT (c d p : Nat) (S : PS) : HP := Sep [pts c 26 [.pointer (some ⟨p, 0, none⟩)], pagerO d p S]
theorem empty_iter (c d p : Nat) (S : PS) (hn : S.n ≤ 4096) (hs : S.is.length = 4096) (F0 : HP) :
    IterS Try.prog 52 [.pointer (some ⟨c, 0, none⟩)] (freIT c d p S) (freX S) (fun _ _ => Sep []) (fun i => i = S.fre.length) F0 := by
  intro ω l J Jx w hy hh
  refine enter Try.func52 rfl Try.ntmps52 rfl hh ?_
  simp only [argsB]
  refine St.sel (.tail .head) (St.flat ?_)
  simp only [List.cons_append, List.nil_append]
  refine St.sl (P := pagerO d p S) (St.pg_open fun mv => ?_)
  refine sr ?_
  refine rr (rd_ld rfl row26) ?_
  refine rr (rd_nilCheck rfl) ?_
  refine rr (rd_fa rfl fld85_2) ?_
  refine rr (rd_ld rfl row3) ?_
  refine rr (rd_move rfl) ?_
  refine nx ?_
  refine do_block ?_
  refine St.pg_shut S mv ?_
  refine St.pack (Ps := [pts c 26 [.pointer (some ⟨p, 0, none⟩)], pagerO d p S]) (by repeat (first | exact Pick.nil | apply Pick.cons (by repeat (first | with_reducible exact Sel.head | apply Sel.tail)))) ?_
  refine do_lp (fun i : Nat => i ≤ S.n) (fun i => [(0, .func (.yield l) #[] #[]), (1, .pointer (some ⟨c, 0, none⟩)), (7, .int .i64 S.n), (8, .int .i64 i)]) (fun i => [J (S.frN i), freIT c d p S, F0]) (fun i => S.n - i) 0 (Nat.zero_le _) ?_ (hΓ := by rw [show S.frN 0 = 0 from rfl]; exact (by repeat (first | exact Pick.nil | apply Pick.cons (by repeat (first | with_reducible exact Sel.head | apply Sel.tail)))))
  intro i hi
  refine sr ?_
  refine rr (rd_lt rfl rfl) ?_
  refine nx ?_
  refine do_seq ?_
  first | refine do_condp rfl (fun h9 => ?_) (fun h9 => ?_) | refine do_cond rfl (fun h9 => ?_) (fun h9 => ?_)
  · have hx := List.getElem?_eq_getElem (l := S.is) (i := i) (by omega)
    generalize S.is[i]'_ = x at hx
    have hfs := frN_succ (S := S) (j := i)
    refine St.sl (P := freIT c d p S) (St.flat ?_)
    simp only [List.cons_append, List.nil_append]
    refine St.sl (P := pagerO d p S) (St.pg_open fun mv => ?_)
    refine do_skip ?_
    refine St.then_n ?_
    refine do_seq ?_
    refine do_block ?_
    refine sr ?_
    refine rr (rd_move rfl) ?_
    refine rr (rd_assign rfl) ?_
    refine nx ?_
    refine do_seq ?_
    refine do_cut (fun _ : Bool => True) (fun q => [(0, .func (.yield l) #[] #[]), (1, .pointer (some ⟨c, 0, none⟩)), (7, .int .i64 S.n), (8, .int .i64 i), (23, .bool !q)]) (fun q => [yP q (Sep [J (S.frN (i + 1)), freIT c d p S]) Jx, F0]) (fun K hK => ?_) ?_
    · by_cases hx0 : x = 0
      · refine do_region ?_
        refine rr (rd_ld rfl row26) ?_
        refine rr (rd_move rfl) ?_
        refine rr (rd_nilCheck rfl) ?_
        refine rr (rd_fa rfl fld85_3) ?_
        refine rr ((rd_arrIx Try.underlying83 ei5 rfl rfl (by omega)).eq (show _ = Value.pointer (some ⟨p, 3 + i, none⟩) by rw [Nat.mul_one])) ?_
        refine rr (rd_ld rfl row5 (cells_pts1 (by repeat (first | with_reducible exact Sel.head | apply Sel.tail)) (pg_is hx))) ?_
        first | refine rr ((rd_eq rfl rfl).eq (show _ = Value.bool true from congrArg _ (decide_eq_true (by rw [hx0]; rfl)))) ?_ | refine rr ((rd_eq rfl rfl).eq (show _ = Value.bool false from congrArg _ (decide_eq_false (fun hq => hx0 (UInt8.toNat_inj.1 (Int.ofNat_inj.1 hq)))))) ?_
        refine rr (rd_move rfl) ?_
        first | refine sk ?_ | (refine rr (rd_move rfl) ?_)
        first | refine sk ?_ | (refine rr (rd_move rfl) ?_)
        first
          | refine sk ?_
          | (have hfr : S.free i = true := by unfold PS.free; rw [hx, hx0]; rfl
             rw [hfr, if_pos rfl] at hfs
             refine St.pg_shut S mv ?_
             refine St.pack (Ps := [pts c 26 [.pointer (some ⟨p, 0, none⟩)], pagerO d p S]) (by repeat (first | exact Pick.nil | apply Pick.cons (by repeat (first | with_reducible exact Sel.head | apply Sel.tail)))) ?_
             refine St.emp ?_
             refine run_yieldB rfl (by decide) rfl rfl hy (S.frN i) ⟨i, fre_at (by omega) hfr, rfl⟩ (.cons (.tail (.tail .head)) (.cons .head (.cons .head .nil))) (fun q => ?_)
             rw [← hfs])
        first | refine sk ?_ | (refine rr (rd_not rfl) ?_)
        refine rr (rd_pick rfl rfl) ?_
        refine run_nil ?_
        refine St.kp [(0, _), (1, _), (7, _), (8, _), (19, _), (20, _), (21, _), (22, _), (23, _)] ?_
        refine St.then_n ?_
        first
          | exact St.sb (St.kq [(0, _), (1, _), (7, _), (8, _), (23, _)] (h := hK q trivial))
          | (have hfr : S.free i = false := by
               unfold PS.free; rw [hx]
               exact beq_eq_false_iff_ne.2 (fun h => hx0 (Option.some.inj h))
             have hfs : S.frN (i + 1) = S.frN i := by simpa [hfr] using hfs
             refine St.pg_shut S mv ?_
             refine St.pack (Ps := [pts c 26 [.pointer (some ⟨p, 0, none⟩)], pagerO d p S]) (by repeat (first | exact Pick.nil | apply Pick.cons (by repeat (first | with_reducible exact Sel.head | apply Sel.tail)))) ?_
             rw [← hfs]
             refine St.pack (Ps := [J (S.frN (i + 1)), freIT c d p S]) (by repeat (first | exact Pick.nil | apply Pick.cons (by repeat (first | with_reducible exact Sel.head | apply Sel.tail)))) ?_
             exact St.sb (St.kq [(0, _), (1, _), (7, _), (8, _), (23, _)] (h := hK true trivial)) (.cons .head (.cons .head .nil)))
      · refine do_region ?_
        refine rr (rd_ld rfl row26) ?_
        refine rr (rd_move rfl) ?_
        refine rr (rd_nilCheck rfl) ?_
        refine rr (rd_fa rfl fld85_3) ?_
        refine rr ((rd_arrIx Try.underlying83 ei5 rfl rfl (by omega)).eq (show _ = Value.pointer (some ⟨p, 3 + i, none⟩) by rw [Nat.mul_one])) ?_
        refine rr (rd_ld rfl row5 (cells_pts1 (by repeat (first | with_reducible exact Sel.head | apply Sel.tail)) (pg_is hx))) ?_
        first | refine rr ((rd_eq rfl rfl).eq (show _ = Value.bool true from congrArg _ (decide_eq_true (by rw [hx0]; rfl)))) ?_ | refine rr ((rd_eq rfl rfl).eq (show _ = Value.bool false from congrArg _ (decide_eq_false (fun hq => hx0 (UInt8.toNat_inj.1 (Int.ofNat_inj.1 hq)))))) ?_
        refine rr (rd_move rfl) ?_
        first | refine sk ?_ | (refine rr (rd_move rfl) ?_)
        first | refine sk ?_ | (refine rr (rd_move rfl) ?_)
        first
          | refine sk ?_
          | (have hfr : S.free i = true := by unfold PS.free; rw [hx, hx0]; rfl
             rw [hfr, if_pos rfl] at hfs
             refine St.pg_shut S mv ?_
             refine St.pack (Ps := [pts c 26 [.pointer (some ⟨p, 0, none⟩)], pagerO d p S]) (by repeat (first | exact Pick.nil | apply Pick.cons (by repeat (first | with_reducible exact Sel.head | apply Sel.tail)))) ?_
             refine St.emp ?_
             refine run_yieldB rfl (by decide) rfl rfl hy (S.frN i) ⟨i, fre_at (by omega) hfr, rfl⟩ (.cons (.tail (.tail .head)) (.cons .head (.cons .head .nil))) (fun q => ?_)
             rw [← hfs])
        first | refine sk ?_ | (refine rr (rd_not rfl) ?_)
        refine rr (rd_pick rfl rfl) ?_
        refine run_nil ?_
        refine St.kp [(0, _), (1, _), (7, _), (8, _), (19, _), (20, _), (21, _), (22, _), (23, _)] ?_
        refine St.then_n ?_
        first
          | exact St.sb (St.kq [(0, _), (1, _), (7, _), (8, _), (23, _)] (h := hK q trivial))
          | (have hfr : S.free i = false := by
               unfold PS.free; rw [hx]
               exact beq_eq_false_iff_ne.2 (fun h => hx0 (Option.some.inj h))
             have hfs : S.frN (i + 1) = S.frN i := by simpa [hfr] using hfs
             refine St.pg_shut S mv ?_
             refine St.pack (Ps := [pts c 26 [.pointer (some ⟨p, 0, none⟩)], pagerO d p S]) (by repeat (first | exact Pick.nil | apply Pick.cons (by repeat (first | with_reducible exact Sel.head | apply Sel.tail)))) ?_
             rw [← hfs]
             refine St.pack (Ps := [J (S.frN (i + 1)), freIT c d p S]) (by repeat (first | exact Pick.nil | apply Pick.cons (by repeat (first | with_reducible exact Sel.head | apply Sel.tail)))) ?_
             exact St.sb (St.kq [(0, _), (1, _), (7, _), (8, _), (23, _)] (h := hK true trivial)) (.cons .head (.cons .head .nil)))
    rintro q -
    first | refine do_condp rfl (fun h23 => ?_) (fun h23 => ?_) | refine do_cond rfl (fun h23 => ?_) (fun h23 => ?_)
    · obtain rfl : q = false := by simpa using h23
      simp only [yP]
      refine do_ret ?_
      refine St.blk_r ?_
      refine St.then_r ?_
      refine St.then_r ?_
      refine St.blk_r ?_
      refine do_ret0 Try.results52 ?_
      intro w hw
      exact ⟨⟨_, rfl⟩, .inr hw.sb⟩
    · obtain rfl : q = true := by simpa using h23
      simp only [yP]
      refine St.flat ?_
      simp only [List.cons_append, List.nil_append]
      refine do_skip ?_
      refine St.blk_n ?_
      refine St.then_n ?_
      refine do_region ?_
      refine rr (rd_addi rfl rfl) ?_
      refine rr (rd_move rfl) ?_
      refine nx ?_
      exact loop_bk (i + 1) (by omega) (hμ := by omega)
  · refine do_exit ?_
    refine St.then_x ?_
    refine St.then_x ?_
    refine St.blk_s ?_
    refine do_end0 Try.results52 ?_
    intro w hw
    obtain rfl : i = S.n := by omega
    exact ⟨⟨_, rfl⟩, .inl ⟨S.frN S.n, rfl, hw.sb⟩⟩
end Go.Proofs.Ytgeldfgcicjidaa
