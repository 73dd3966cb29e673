/-
  Reading bytes: the program's operations, replies.
-/
import Derived.Test.YtglcmlicfmmlpaaC8
namespace Go.Proofs.Ytglcmlicfmmlpaa
open Go.RowKit
set_option linter.unusedSimpArgs false
set_option linter.unusedVariables false

section
variable {r : Nat} {B : List UInt8} {s : RS}
theorem rI_ok (hs : s.at_ ≤ B.length) : (rI B s).2.at_ ≤ B.length := rU_ok hs
theorem rB_ok (hs : s.at_ ≤ B.length) : (rB B s).2.at_ ≤ B.length := by
  have h := rN_ok (most := 65536) hs
  by_cases hy : (rN 65536 B s).2.why = 0
  · rw [rB_good hy]; have := h.2 hy; exact this
  · rw [rB_err hy]; exact h.1
theorem rT_ok (hs : s.at_ ≤ B.length) : (rT B s).2.at_ ≤ B.length := by
  by_cases hy : s.why = 0
  · cases hc : B[s.at_]? with
    | none => rw [rT_none hy hc]; exact hs
    | some c =>
      have hlt := (List.getElem?_eq_some_iff.1 hc).1
      by_cases h1 : 1 < c.toNat
      · rw [rT_big hy hc h1]; exact hs
      · rw [rT_good hy hc h1]; exact hlt
  · rw [rT_err hy]; exact hs
def rOp (B : List UInt8) (s : RS) : GOp × RS :=
  let a := rI B s
  let b := rB B a.2
  let c := rB B b.2
  let d := rI B c.2
  let e := rB B d.2
  let f := rI B e.2
  let g := rI B f.2
  (⟨a.1, b.1, c.1, d.1, e.1, f.1, g.1⟩, g.2)
theorem getOp_spec (F : HP) (hs : s.at_ ≤ B.length) (hl : B.length ≤ 140737488355328) :
    Spec Try.prog 123 [.pointer (some ⟨r, 0, none⟩)] [rdO 189 r B s] F (fun _ : Unit => True) (fun _ => .agg (rOp B s).1.L.toArray) (fun _ => [rdO 189 r B (rOp B s).2]) := by
  intro ω w hh
  refine enter Try.func123 rfl Try.ntmps123 rfl hh ?_
  simp only [List.cons_append, List.nil_append, argsB]
  obtain ⟨⟨a, s1⟩, ha⟩ : ∃ q, rI B s = q := ⟨_, rfl⟩
  have h1 : s1.at_ ≤ B.length := by have := rI_ok hs; rw [ha] at this; exact this
  obtain ⟨⟨b, s2⟩, hb⟩ : ∃ q, rB B s1 = q := ⟨_, rfl⟩
  have h2 : s2.at_ ≤ B.length := by have := rB_ok h1; rw [hb] at this; exact this
  obtain ⟨⟨c, s3⟩, hc⟩ : ∃ q, rB B s2 = q := ⟨_, rfl⟩
  have h3 : s3.at_ ≤ B.length := by have := rB_ok h2; rw [hc] at this; exact this
  obtain ⟨⟨d, s4⟩, hd⟩ : ∃ q, rI B s3 = q := ⟨_, rfl⟩
  have h4 : s4.at_ ≤ B.length := by have := rI_ok h3; rw [hd] at this; exact this
  obtain ⟨⟨e, s5⟩, he⟩ : ∃ q, rB B s4 = q := ⟨_, rfl⟩
  have h5 : s5.at_ ≤ B.length := by have := rB_ok h4; rw [he] at this; exact this
  obtain ⟨⟨f, s6⟩, hf⟩ : ∃ q, rI B s5 = q := ⟨_, rfl⟩
  have h6 : s6.at_ ≤ B.length := by have := rI_ok h5; rw [hf] at this; exact this
  obtain ⟨⟨g, s7⟩, hg⟩ : ∃ q, rI B s6 = q := ⟨_, rfl⟩
  have hop : rOp B s = (⟨a, b, c, d, e, f, g⟩, s7) := by simp only [rOp, ha, hb, hc, hd, he, hf, hg]
  rw [hop]
  simp only [GOp.L]
  refine do_seq ?_
  refine do_region ?_
  refine run_alloc rfl (by decide) zero24 (fun b2 => ?_)
  refine run_nil ?_
  refine St.then_n ?_
  refine do_seq ?_
  refine do_region ?_
  refine run_read rfl (by decide) (fun _ => nofun) (rd_move rfl) ?_
  refine run_spec rfl (by decide) (by kernel_rfl) rfl (by repeat (first | exact Pick.nil | apply Pick.cons (by repeat (first | with_reducible exact Sel.head | apply Sel.tail)))) (rdInt_spec _ hs hl) ?_
  rintro ⟨⟩ -
  rw [ha]
  dsimp only
  try simp only [List.cons_append, List.nil_append]
  refine run_read rfl (by decide) (fun _ => nofun) (rd_buildM (l := [(0, (Operand.tmp 5))]) (vs := [_, _, _, _, _, _, _]) zero24 plc24 rfl rfl) ?_
  refine run_alloc rfl (by decide) zero24 (fun b3 => ?_)
  first | refine run_store_all rfl rfl rfl (by repeat (first | with_reducible exact Sel.head | apply Sel.tail)) row24 rfl rfl rfl ?_ | refine run_store_mid rfl rfl rfl (by repeat (first | with_reducible exact Sel.head | apply Sel.tail)) row24 rfl rfl rfl (by simp only [setL, List.length_cons, List.length_nil, Nat.reduceAdd, List.take_succ_cons, List.take_zero, List.drop_succ_cons, List.drop_zero, List.cons_append, List.nil_append, List.append_nil]; exact rfl) ?_
  refine run_nil ?_
  refine St.then_n ?_
  refine do_seq ?_
  refine do_region ?_
  refine run_read rfl (by decide) (fun _ => nofun) (rd_move rfl) ?_
  refine run_spec rfl (by decide) (by kernel_rfl) rfl (by repeat (first | exact Pick.nil | apply Pick.cons (by repeat (first | with_reducible exact Sel.head | apply Sel.tail)))) (rdText_spec _ h1 hl) ?_
  rintro ⟨⟩ -
  rw [hb]
  dsimp only
  try simp only [List.cons_append, List.nil_append]
  refine run_read rfl (by decide) (fun _ => nofun) (rd_move rfl) ?_
  refine run_spec rfl (by decide) (by kernel_rfl) rfl (by repeat (first | exact Pick.nil | apply Pick.cons (by repeat (first | with_reducible exact Sel.head | apply Sel.tail)))) (rdText_spec _ h2 hl) ?_
  rintro ⟨⟩ -
  rw [hc]
  dsimp only
  try simp only [List.cons_append, List.nil_append]
  first | refine run_read rfl (by decide) (fun _ => nofun) (rd_fieldAddr0 rfl fld24_1) ?_ | refine run_read rfl (by decide) (fun _ => nofun) (rd_fieldAddr rfl fld24_1) ?_
  refine run_store rfl rfl rfl (by repeat (first | with_reducible exact Sel.head | apply Sel.tail)) row9 rfl rfl (by simp only [List.set_cons_succ, List.set_cons_zero]; exact rfl) ?_
  first | refine run_read rfl (by decide) (fun _ => nofun) (rd_fieldAddr0 rfl fld24_2) ?_ | refine run_read rfl (by decide) (fun _ => nofun) (rd_fieldAddr rfl fld24_2) ?_
  refine run_store rfl rfl rfl (by repeat (first | with_reducible exact Sel.head | apply Sel.tail)) row9 rfl rfl (by simp only [List.set_cons_succ, List.set_cons_zero]; exact rfl) ?_
  refine run_nil ?_
  refine St.keep (β' := [(0, _), (2, _), (3, _)]) ⟨rfl, rfl, rfl, trivial⟩ ?_
  refine St.then_n ?_
  refine do_seq ?_
  refine do_region ?_
  refine run_read rfl (by decide) (fun _ => nofun) (rd_move rfl) ?_
  refine run_spec rfl (by decide) (by kernel_rfl) rfl (by repeat (first | exact Pick.nil | apply Pick.cons (by repeat (first | with_reducible exact Sel.head | apply Sel.tail)))) (rdInt_spec _ h3 hl) ?_
  rintro ⟨⟩ -
  rw [hd]
  dsimp only
  try simp only [List.cons_append, List.nil_append]
  refine run_read rfl (by decide) (fun _ => nofun) (rd_move rfl) ?_
  refine run_spec rfl (by decide) (by kernel_rfl) rfl (by repeat (first | exact Pick.nil | apply Pick.cons (by repeat (first | with_reducible exact Sel.head | apply Sel.tail)))) (rdText_spec _ h4 hl) ?_
  rintro ⟨⟩ -
  rw [he]
  dsimp only
  try simp only [List.cons_append, List.nil_append]
  first | refine run_read rfl (by decide) (fun _ => nofun) (rd_fieldAddr0 rfl fld24_3) ?_ | refine run_read rfl (by decide) (fun _ => nofun) (rd_fieldAddr rfl fld24_3) ?_
  refine run_store rfl rfl rfl (by repeat (first | with_reducible exact Sel.head | apply Sel.tail)) row2 rfl rfl (by simp only [List.set_cons_succ, List.set_cons_zero]; exact rfl) ?_
  first | refine run_read rfl (by decide) (fun _ => nofun) (rd_fieldAddr0 rfl fld24_4) ?_ | refine run_read rfl (by decide) (fun _ => nofun) (rd_fieldAddr rfl fld24_4) ?_
  refine run_store rfl rfl rfl (by repeat (first | with_reducible exact Sel.head | apply Sel.tail)) row9 rfl rfl (by simp only [List.set_cons_succ, List.set_cons_zero]; exact rfl) ?_
  refine run_nil ?_
  refine St.keep (β' := [(0, _), (2, _), (3, _)]) ⟨rfl, rfl, rfl, trivial⟩ ?_
  refine St.then_n ?_
  refine do_seq ?_
  refine do_region ?_
  refine run_read rfl (by decide) (fun _ => nofun) (rd_move rfl) ?_
  refine run_spec rfl (by decide) (by kernel_rfl) rfl (by repeat (first | exact Pick.nil | apply Pick.cons (by repeat (first | with_reducible exact Sel.head | apply Sel.tail)))) (rdInt_spec _ h5 hl) ?_
  rintro ⟨⟩ -
  rw [hf]
  dsimp only
  try simp only [List.cons_append, List.nil_append]
  refine run_read rfl (by decide) (fun _ => nofun) (rd_move rfl) ?_
  refine run_spec rfl (by decide) (by kernel_rfl) rfl (by repeat (first | exact Pick.nil | apply Pick.cons (by repeat (first | with_reducible exact Sel.head | apply Sel.tail)))) (rdInt_spec _ h6 hl) ?_
  rintro ⟨⟩ -
  rw [hg]
  dsimp only
  try simp only [List.cons_append, List.nil_append]
  first | refine run_read rfl (by decide) (fun _ => nofun) (rd_fieldAddr0 rfl fld24_5) ?_ | refine run_read rfl (by decide) (fun _ => nofun) (rd_fieldAddr rfl fld24_5) ?_
  refine run_store rfl rfl rfl (by repeat (first | with_reducible exact Sel.head | apply Sel.tail)) row3 rfl rfl (by simp only [List.set_cons_succ, List.set_cons_zero]; exact rfl) ?_
  first | refine run_read rfl (by decide) (fun _ => nofun) (rd_fieldAddr0 rfl fld24_6) ?_ | refine run_read rfl (by decide) (fun _ => nofun) (rd_fieldAddr rfl fld24_6) ?_
  refine run_store rfl rfl rfl (by repeat (first | with_reducible exact Sel.head | apply Sel.tail)) row3 rfl rfl (by simp only [List.set_cons_succ, List.set_cons_zero]; exact rfl) ?_
  refine run_nil ?_
  refine St.keep (β' := [(2, _), (3, _)]) ⟨rfl, rfl, trivial⟩ ?_
  refine St.then_n ?_
  refine do_seq ?_
  refine do_region ?_
  refine run_read rfl (by decide) (fun _ => nofun) (rd_load_row (vs := [_, _, _, _, _, _, _]) rfl row24 rfl (cells_pts (by repeat (first | with_reducible exact Sel.head | apply Sel.tail)) rfl)) ?_
  first | refine run_store_all rfl rfl rfl (by repeat (first | with_reducible exact Sel.head | apply Sel.tail)) row24 rfl rfl rfl ?_ | refine run_store_mid rfl rfl rfl (by repeat (first | with_reducible exact Sel.head | apply Sel.tail)) row24 rfl rfl rfl (by simp only [setL, List.length_cons, List.length_nil, Nat.reduceAdd, List.take_succ_cons, List.take_zero, List.drop_succ_cons, List.drop_zero, List.cons_append, List.nil_append, List.append_nil]; exact rfl) ?_
  refine run_nil ?_
  refine St.then_n ?_
  refine do_ret ?_
  refine do_ret1 Try.results123 (res_cell_row (vs := [_, _, _, _, _, _, _]) rfl row24 rfl (cells_pts (by repeat (first | with_reducible exact Sel.head | apply Sel.tail)) rfl)) ?_
  intro w hw
  exact ⟨(), trivial, rfl, hw.sub (by repeat (first | exact Pick.nil | apply Pick.cons (by repeat (first | with_reducible exact Sel.head | apply Sel.tail))))⟩
def rRows : Nat → List UInt8 → RS → List GRow × RS
  | 0, _, s => ([], s)
  | k + 1, B, s => (⟨(rB B s).1, (rI B (rB B s).2).1⟩ :: (rRows k B (rI B (rB B s).2).2).1, (rRows k B (rI B (rB B s).2).2).2)
theorem rN_le {most : Nat} : (rN most B s).1 ≤ most := by
  by_cases hy : s.why = 0
  · by_cases h1 : (rU B s).2.why = 0
    · by_cases h2 : most < (rU B s).1
      · rw [rN_big hy h1 h2]; exact Nat.zero_le _
      · by_cases h3 : B.length - (rU B s).2.at_ < (rU B s).1
        · rw [rN_short hy h1 h2 h3]; exact Nat.zero_le _
        · rw [rN_good hy h1 h2 h3]; omega
    · rw [rN_bad hy h1]; exact Nat.zero_le _
  · rw [rN_err hy]; exact Nat.zero_le _
theorem rRows_ok : ∀ (k : Nat) (s : RS), s.at_ ≤ B.length → (rRows k B s).2.at_ ≤ B.length
  | 0, _, h => h
  | k + 1, s, h => rRows_ok k _ (rI_ok (rB_ok h))
def rReply (B : List UInt8) (s : RS) : (Int × Int × List GRow) × RS :=
  let a := rI B s
  let b := rI B a.2
  let c := rN 600 B b.2
  let d := rRows c.1 B c.2
  ((a.1, b.1, d.1), d.2)
theorem getReply_spec (F : HP) (hs : s.at_ ≤ B.length) (hl : B.length ≤ 140737488355328) :
    Spec Try.prog 93 [.pointer (some ⟨r, 0, none⟩)] [rdO 189 r B s] F (fun _ : Option Addr × Nat => True) (fun x => .agg #[.int .i64 (rReply B s).1.1, .int .i64 (rReply B s).1.2.1, .slice x.1 (rReply B s).1.2.2.length x.2])
      (fun x => [own (.slice x.1 (rReply B s).1.2.2.length x.2) 108 2 (rReply B s).1.2.2.length ((rReply B s).1.2.2.flatMap rowC), rdO 189 r B (rReply B s).2]) := by
  intro ω w hh
  refine enter Try.func93 rfl Try.ntmps93 rfl hh ?_
  simp only [List.cons_append, List.nil_append, argsB]
  obtain ⟨⟨a, s1⟩, ha⟩ : ∃ q, rI B s = q := ⟨_, rfl⟩
  have h1 : s1.at_ ≤ B.length := by have := rI_ok hs; rw [ha] at this; exact this
  obtain ⟨⟨b, s2⟩, hb⟩ : ∃ q, rI B s1 = q := ⟨_, rfl⟩
  have h2 : s2.at_ ≤ B.length := by have := rI_ok h1; rw [hb] at this; exact this
  have hnl := @rN_le B s2 600
  have h3 := (@rN_ok B s2 600 h2).1
  obtain ⟨⟨n, s3⟩, hc⟩ : ∃ q, rN 600 B s2 = q := ⟨_, rfl⟩
  rw [hc] at hnl h3
  dsimp only at hnl h3
  obtain ⟨⟨rows, s4⟩, hd⟩ : ∃ q, rRows n B s3 = q := ⟨_, rfl⟩
  have hop : rReply B s = ((a, b, rows), s4) := by simp only [rReply, ha, hb, hc, hd]
  rw [hop]
  dsimp only
  refine do_seq ?_
  refine do_region ?_
  refine run_alloc rfl (by decide) zero33 (fun b2 => ?_)
  refine run_nil ?_
  refine St.then_n ?_
  refine do_seq ?_
  refine do_region ?_
  refine run_read rfl (by decide) (fun _ => nofun) (rd_move rfl) ?_
  refine run_spec rfl (by decide) (by kernel_rfl) rfl (by repeat (first | exact Pick.nil | apply Pick.cons (by repeat (first | with_reducible exact Sel.head | apply Sel.tail)))) (rdInt_spec _ hs hl) ?_
  rintro ⟨⟩ -
  rw [ha]
  dsimp only
  try simp only [List.cons_append, List.nil_append]
  refine run_read rfl (by decide) (fun _ => nofun) (rd_move rfl) ?_
  refine run_spec rfl (by decide) (by kernel_rfl) rfl (by repeat (first | exact Pick.nil | apply Pick.cons (by repeat (first | with_reducible exact Sel.head | apply Sel.tail)))) (rdInt_spec _ h1 hl) ?_
  rintro ⟨⟩ -
  rw [hb]
  dsimp only
  try simp only [List.cons_append, List.nil_append]
  refine run_read rfl (by decide) (fun _ => nofun) (rd_buildM (l := [(0, (Operand.tmp 6)), (1, (Operand.tmp 8))]) (vs := [_, _, _]) zero33 plc33 rfl rfl) ?_
  refine run_alloc rfl (by decide) zero33 (fun b3 => ?_)
  first | refine run_store_all rfl rfl rfl (by repeat (first | with_reducible exact Sel.head | apply Sel.tail)) row33 rfl rfl rfl ?_ | refine run_store_mid rfl rfl rfl (by repeat (first | with_reducible exact Sel.head | apply Sel.tail)) row33 rfl rfl rfl (by simp only [setL, List.length_cons, List.length_nil, Nat.reduceAdd, List.take_succ_cons, List.take_zero, List.drop_succ_cons, List.drop_zero, List.cons_append, List.nil_append, List.append_nil]; exact rfl) ?_
  refine run_nil ?_
  refine St.keep (β' := [(0, _), (2, _), (3, _)]) ⟨rfl, rfl, rfl, trivial⟩ ?_
  refine St.then_n ?_
  refine do_seq ?_
  refine do_seq ?_
  refine do_region ?_
  refine run_read rfl (by decide) (fun _ => nofun) (rd_move rfl) ?_
  refine run_spec rfl (by decide) (by kernel_rfl) rfl (by repeat (first | exact Pick.nil | apply Pick.cons (by repeat (first | with_reducible exact Sel.head | apply Sel.tail)))) (count_spec' _ 600 (by decide) h2 hl) ?_
  rintro ⟨⟩ -
  rw [hc]
  dsimp only
  try simp only [List.cons_append, List.nil_append]
  refine run_read rfl (by decide) (fun _ => nofun) (rd_move rfl) ?_
  refine run_nil ?_
  refine St.then_n ?_
  refine do_block ?_
  refine St.own_nil (T := 108) (k := 2) ?_
  refine do_loop (fun y : List GRow × RS × Option Addr × Nat => y.1.length ≤ n ∧ y.2.1.at_ ≤ B.length ∧ (rows, s4) = (y.1 ++ (rRows (n - y.1.length) B y.2.1).1, (rRows (n - y.1.length) B y.2.1).2))
    (fun y => [(0, .pointer (some ⟨r, 0, none⟩)), (2, .pointer (some ⟨b2, 0, none⟩)), (3, .pointer (some ⟨b3, 0, none⟩)), (11, .int .i64 n), (12, .int .i64 y.1.length)])
    (fun y => [rdO 189 r B y.2.1, pts b3 33 [.int .i64 a, .int .i64 b, .slice y.2.2.1 y.1.length y.2.2.2], own (.slice y.2.2.1 y.1.length y.2.2.2) 108 2 y.1.length (y.1.flatMap rowC), pts b2 33 [.int .i64 0, .int .i64 0, .slice none 0 0], F])
    (fun y => n - y.1.length) ([], s3, none, 0) ⟨by simp, h3, by dsimp only; rw [List.length_nil, Nat.sub_zero, hd]; rfl⟩ ⟨rfl, rfl, rfl, rfl, rfl, trivial⟩ (by simp only [List.length_nil, List.flatMap_nil]; exact (by repeat (first | exact Pick.nil | apply Pick.cons (by repeat (first | with_reducible exact Sel.head | apply Sel.tail))))) ?_
  rintro ⟨L, s5, A, c⟩ ⟨hln, h5, heq⟩
  dsimp only at hln h5 heq ⊢
  refine do_seq ?_
  refine do_region ?_
  refine run_read rfl (by decide) (fun _ => nofun) (rd_lt rfl rfl) ?_
  refine run_nil ?_
  refine St.then_n ?_
  refine do_seq ?_
  first | refine do_condp rfl (fun h13 => ?_) (fun h13 => ?_) | refine do_cond rfl (fun h13 => ?_) (fun h13 => ?_)
  · obtain ⟨⟨nm, s6⟩, hf⟩ : ∃ q, rB B s5 = q := ⟨_, rfl⟩
    have h6 : s6.at_ ≤ B.length := by have := rB_ok h5; rw [hf] at this; exact this
    obtain ⟨⟨am, s7⟩, hg⟩ : ∃ q, rI B s6 = q := ⟨_, rfl⟩
    have h7 : s7.at_ ≤ B.length := by have := rI_ok h6; rw [hg] at this; exact this
    have hstep : n - L.length = (n - (L.length + 1)) + 1 := by omega
    rw [hstep] at heq
    simp only [rRows, hf, hg] at heq
    refine do_skip ?_
    refine St.then_n ?_
    refine do_seq ?_
    refine do_block ?_
    refine do_seq ?_
    refine do_region ?_
    refine run_read rfl (by decide) (fun _ => nofun) (rd_move rfl) ?_
    refine run_spec rfl (by decide) (by kernel_rfl) rfl (by repeat (first | exact Pick.nil | apply Pick.cons (by repeat (first | with_reducible exact Sel.head | apply Sel.tail)))) (rdText_spec _ h5 hl) ?_
    rintro ⟨⟩ -
    rw [hf]
    dsimp only
    try simp only [List.cons_append, List.nil_append]
    refine run_read rfl (by decide) (fun _ => nofun) (rd_buildM (l := [(0, (Operand.tmp 15))]) (vs := [_, _]) zero108 plc108 rfl rfl) ?_
    refine run_alloc rfl (by decide) zero108 (fun b4 => ?_)
    first | refine run_store_all rfl rfl rfl (by repeat (first | with_reducible exact Sel.head | apply Sel.tail)) row108 rfl rfl rfl ?_ | refine run_store_mid rfl rfl rfl (by repeat (first | with_reducible exact Sel.head | apply Sel.tail)) row108 rfl rfl rfl (by simp only [setL, List.length_cons, List.length_nil, Nat.reduceAdd, List.take_succ_cons, List.take_zero, List.drop_succ_cons, List.drop_zero, List.cons_append, List.nil_append, List.append_nil]; exact rfl) ?_
    refine run_nil ?_
    refine St.keep (β' := [(0, _), (2, _), (3, _), (4, _), (11, _), (12, _)]) ⟨rfl, rfl, rfl, rfl, rfl, rfl, trivial⟩ ?_
    refine St.then_n ?_
    refine do_seq ?_
    refine do_region ?_
    refine run_read rfl (by decide) (fun _ => nofun) (rd_move rfl) ?_
    refine run_spec rfl (by decide) (by kernel_rfl) rfl (by repeat (first | exact Pick.nil | apply Pick.cons (by repeat (first | with_reducible exact Sel.head | apply Sel.tail)))) (rdInt_spec _ h6 hl) ?_
    rintro ⟨⟩ -
    rw [hg]
    dsimp only
    try simp only [List.cons_append, List.nil_append]
    first | refine run_read rfl (by decide) (fun _ => nofun) (rd_fieldAddr0 rfl fld108_1) ?_ | refine run_read rfl (by decide) (fun _ => nofun) (rd_fieldAddr rfl fld108_1) ?_
    refine run_store rfl rfl rfl (by repeat (first | with_reducible exact Sel.head | apply Sel.tail)) row2 rfl rfl (by simp only [List.set_cons_succ, List.set_cons_zero]; exact rfl) ?_
    refine run_nil ?_
    refine St.then_n ?_
    refine do_region ?_
    first | refine run_read rfl (by decide) (fun _ => nofun) (rd_fieldAddr0 rfl fld33_2) ?_ | refine run_read rfl (by decide) (fun _ => nofun) (rd_fieldAddr rfl fld33_2) ?_
    refine run_read rfl (by decide) (fun _ => nofun) (rd_load rfl row31 (cells_pts1 (by repeat (first | with_reducible exact Sel.head | apply Sel.tail)) rfl)) ?_
    refine run_read rfl (by decide) (fun _ => nofun) (rd_load_row (vs := [_, _]) rfl row108 rfl (cells_pts (by repeat (first | with_reducible exact Sel.head | apply Sel.tail)) rfl)) ?_
    refine run_buildSlice (l := [(Operand.tmp 22)]) rfl (by decide) Try.underlying31 ei108 rfl rfl (by decide) (by decide) (fun b23 => ?_)
    simp only [joinL, cells_agg, cells_int, cells_bcell, cells_bool, cells_string, cells_pointer, cells_slice, cells_map, cells_func, List.cons_append, List.nil_append, List.append_nil]
    refine run_append_src rfl (by decide) Try.underlying31 ei108 rfl rfl (by repeat (first | with_reducible exact Sel.head | apply Sel.tail)) (src_pts Try.underlying31 (by repeat (first | with_reducible exact Sel.head | apply Sel.tail)) rfl (by decide) rfl) (by simp; omega) (by simp [maxLen]; omega) (fun v2 _ => ?_)
    refine St.vw vw_own .head (fun A2 c2 hv2 _ _ _ => ?_)
    subst hv2
    simp only [List.length_cons, List.length_nil, Nat.zero_add]
    first | refine run_read rfl (by decide) (fun _ => nofun) (rd_fieldAddr0 rfl fld33_2) ?_ | refine run_read rfl (by decide) (fun _ => nofun) (rd_fieldAddr rfl fld33_2) ?_
    refine run_store rfl rfl rfl (by repeat (first | with_reducible exact Sel.head | apply Sel.tail)) row31 rfl rfl (by simp only [List.set_cons_succ, List.set_cons_zero]; exact rfl) ?_
    refine run_nil ?_
    refine St.keep (β' := [(0, _), (2, _), (3, _), (11, _), (12, _)]) ⟨rfl, rfl, rfl, rfl, rfl, trivial⟩ ?_
    refine St.blk_n ?_
    refine St.then_n ?_
    refine do_region ?_
    first | refine run_read rfl (by decide) (fun _ => nofun) ((rd_add rfl rfl).eq (congrArg (Value.int .i64) (IntWalk.i64_in _ (by omega)))) ?_ | refine run_read rfl (by decide) (fun _ => nofun) (rd_add rfl rfl) ?_
    refine run_read rfl (by decide) (fun _ => nofun) (rd_move rfl) ?_
    refine run_nil ?_
    refine St.then_n ?_
    exact loop_back (L ++ [⟨nm, am⟩], s7, A2, c2) ⟨by simp; omega, h7, by dsimp only; rw [List.length_append, List.length_singleton, heq]; simp⟩ (by simp; omega) ⟨rfl, rfl, rfl, rfl, by simp; rfl, trivial⟩ (by dsimp only; rw [List.length_append, List.length_singleton, List.flatMap_append, show [(⟨nm, am⟩ : GRow)].flatMap rowC = [.string (strOf nm), .int .i64 am] from rfl]; exact (by repeat (first | exact Pick.nil | apply Pick.cons (by repeat (first | with_reducible exact Sel.head | apply Sel.tail)))))
  · refine do_exit ?_
    refine St.then_x ?_
    refine St.then_x ?_
    refine St.blk_s ?_
    refine St.then_n ?_
    refine do_seq ?_
    refine do_region ?_
    refine run_read rfl (by decide) (fun _ => nofun) (rd_load_row (vs := [_, _, _]) rfl row33 rfl (cells_pts (by repeat (first | with_reducible exact Sel.head | apply Sel.tail)) rfl)) ?_
    first | refine run_store_all rfl rfl rfl (by repeat (first | with_reducible exact Sel.head | apply Sel.tail)) row33 rfl rfl rfl ?_ | refine run_store_mid rfl rfl rfl (by repeat (first | with_reducible exact Sel.head | apply Sel.tail)) row33 rfl rfl rfl (by simp only [setL, List.length_cons, List.length_nil, Nat.reduceAdd, List.take_succ_cons, List.take_zero, List.drop_succ_cons, List.drop_zero, List.cons_append, List.nil_append, List.append_nil]; exact rfl) ?_
    refine run_nil ?_
    refine St.keep (β' := [(2, _)]) ⟨rfl, trivial⟩ ?_
    refine St.then_n ?_
    refine do_ret ?_
    refine do_ret1 Try.results93 (res_cell_row (vs := [_, _, _]) rfl row33 rfl (cells_pts (by repeat (first | with_reducible exact Sel.head | apply Sel.tail)) rfl)) ?_
    intro w hw
    have hz : n - L.length = 0 := by omega
    rw [hz] at heq
    simp only [rRows, List.append_nil, Prod.mk.injEq] at heq
    obtain ⟨rfl, rfl⟩ := heq
    exact ⟨(A, c), trivial, rfl, hw.sub (by repeat (first | exact Pick.nil | apply Pick.cons (by repeat (first | with_reducible exact Sel.head | apply Sel.tail))))⟩
end
end Go.Proofs.Ytglcmlicfmmlpaa
