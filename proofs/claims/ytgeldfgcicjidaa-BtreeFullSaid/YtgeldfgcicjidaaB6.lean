/-
  The pager's pages: how many are free, reading one, writing one.
-/
import Derived.Test.YtgeldfgcicjidaaB5
namespace Go.Proofs.Ytgeldfgcicjidaa
open Go.RowKit
set_option linter.unusedSimpArgs false
set_option linter.unusedVariables false

theorem fre_len (S : PS) : S.fre.length ≤ S.n := by
  have := List.length_filter_le S.free (List.range S.n)
  rwa [List.length_range] at this
theorem free_spec (F : HP) (d p : Nat) (S : PS) (hn : S.n ≤ 4096) (hs : S.is.length = 4096) :
    Spec Try.prog 13 [.pointer (some ⟨p, 0, none⟩)] [pagerO d p S] F (fun _ : Unit => True) (fun _ => .int .i64 S.fre.length) (fun _ => [pagerO d p S]) := by
  intro ω w hh
  refine enterM Try.func13 rfl Try.ntmps13 rfl hh ?_
  simp only [List.cons_append, List.nil_append, argsB]
  have hfl := fre_len S
  refine sr ?_
  refine rr (rd_assign rfl) ?_
  refine nx ?_
  refine do_seq ?_
  refine sr ?_
  refine rr (rd_move rfl) ?_
  refine rr (rd_ptr_eq_nil Try.underlying26 rfl rfl) ?_
  refine nx ?_
  refine do_cond_f rfl ?_
  refine do_skip ?_
  refine St.then_n ?_
  refine sr ?_
  refine r_al zero3 fun b3 => ?_
  refine r_st row3 ?_
  refine nx ?_
  refine do_seq ?_
  refine sr ?_
  refine rr (rd_move rfl) ?_
  refine rc (hs := empty_spec _ (.pointer (some ⟨p, 0, none⟩)) rfl) (k := ?_)
  rintro c -
  try simp only [List.cons_append, List.nil_append]
  refine run_nil ?_
  refine St.kp [(2, _), (3, _), (7, _)] ?_
  refine St.then_n ?_
  refine do_block ?_
  refine St.sel (P := pts b3 3 [.int .i64 0]) (by repeat (first | with_reducible exact Sel.head | apply Sel.tail)) (St.ent (Q := pts b3 3 [.int .i64 ((0 : Nat) : Int)]) (fun _ h => h) ?_)
  refine St.pack (Ps := [pts c 26 [.pointer (some ⟨p, 0, none⟩)], pagerO d p S]) (by repeat (first | exact Pick.nil | apply Pick.cons (by repeat (first | with_reducible exact Sel.head | apply Sel.tail)))) ?_
  refine do_range rfl (by kernel_rfl) (fun i => [pts b3 3 [.int .i64 (i : Nat)]]) (fun _ => [fun _ => False])
    (empty_iter c d p S hn hs) (by repeat (first | exact Pick.nil | apply Pick.cons (by repeat (first | with_reducible exact Sel.head | apply Sel.tail))))
    (fun i vs (_ : Unit) => i < S.fre.length)
    (fun i vs y => [(3, .pointer (some ⟨b3, 0, none⟩))])
    (fun i vs y => [pts b3 3 [.int .i64 (i : Nat)], freIT c d p S])
    (fun _ _ ⟨_, _, h⟩ => by rw [h]; rfl) (by decide) ?_ ?_ (fun Dm1 i hi => ?_) (fun _ _ => St.false (.tail .head))
  · rintro l FR i vs ⟨q, hq, rfl⟩ hL1
    simp only [List.cons_append, List.nil_append]
    refine do_skip ?_
    refine St.then_n ?_
    exact fun a w hw hb => ⟨(), (List.getElem?_eq_some_iff.1 hq).1, hw.sub (by repeat (first | exact Pick.nil | apply Pick.cons (by repeat (first | with_reducible exact Sel.head | apply Sel.tail)))), hb.sub ⟨rfl, trivial⟩⟩
  · rintro l FR i vs ⟨⟩ - hi hL1
    simp only [List.cons_append, List.nil_append]
    refine do_block ?_
    refine do_region ?_
    refine rr (rd_ld rfl row3) ?_
    refine rr (rd_addi rfl rfl) ?_
    refine r_st row3 ?_
    refine run_nil ?_
    refine St.blk_n ?_
    exact fun a w hw _ => (show Holds ω [pts b3 3 [.int .i64 ((i : Int) + 1)], freIT c d p S, FR] w from hw.sb)
  simp only [List.cons_append, List.nil_append]
  subst hi
  refine St.sl (P := freIT c d p S) (St.flat ?_)
  simp only [List.cons_append, List.nil_append]
  refine St.blk_n ?_
  refine St.then_n ?_
  refine sr ?_
  refine rr (rd_ld rfl row3) ?_
  refine rr (rd_assign rfl) ?_
  refine nx ?_
  refine do_ret ?_
  refine do_retM1 [Dm1] rfl (by repeat (first | exact Pick.nil | apply Pick.cons (by repeat (first | with_reducible exact Sel.head | apply Sel.tail)))) Try.results13 (res_tmp rfl) ?_
  intro w hw
  exact ⟨(), trivial, rfl, hw.sb⟩
/-- A page's sector. -/
def PS.sct (S : PS) (i : Nat) : List UInt8 := sec S.dk.now (S.fr + 2 + i)
set_option maxRecDepth 100000 in
theorem pgRead_spec (F : HP) (d p i k : Nat) (S : PS) (hS : S.ok k) (hi : i < S.n) (ho : openOk (S.sct i) = true) :
    Spec Try.prog 74 [.pointer (some ⟨p, 0, none⟩), .int .i64 i] [pagerO d p S] F (fun x : Value × HP => VwB x.2 x.1 ((S.sct i).drop 4)) (fun x => .tuple #[x.1, .int .i64 0]) (fun x => [x.2, pagerO d p S]) := by
  intro ω w hh
  refine enter Try.func74 rfl Try.ntmps74 rfl hh ?_
  simp only [List.cons_append, List.nil_append, argsB]
  obtain ⟨h1, h2, h3, h4, h5, h6, h7, h8⟩ := hS
  have hsl : (S.sct i).length = 256 := sec_len (by have := i256 (i := S.fr + 2 + i) (k := k) (by omega); rwa [h2])
  refine sr ?_
  refine rr (rd_assign rfl) ?_
  refine rr (rd_assign rfl) ?_
  refine nx ?_
  refine do_seq ?_
  refine do_block ?_
  refine sr ?_
  refine rr (rd_move rfl) ?_
  refine rr (rd_ptr_eq_nil Try.underlying26 rfl rfl) ?_
  refine rr (rd_assign rfl) ?_
  refine run_nil ?_
  refine St.kp [(0, _), (1, _), (10, _)] ?_
  refine St.then_n ?_
  refine do_cond_f rfl ?_
  refine sr ?_
  refine rr (rd_move rfl) ?_
  refine rr (rd_move rfl) ?_
  refine rc (hs := there_spec _ d p i S hi (by omega)) (k := ?_)
  rintro ⟨⟩ -
  try simp only [List.cons_append, List.nil_append]
  refine rr (rd_not rfl) ?_
  refine rr (rd_assign rfl) ?_
  refine run_nil ?_
  refine St.kp [(0, _), (1, _), (13, _)] ?_
  refine St.then_n ?_
  refine do_cond_f rfl ?_
  refine do_skip ?_
  refine St.blk_n ?_
  refine St.then_n ?_
  refine do_seq ?_
  refine do_draw [[1, 2, 3, 11, 12, 13, 14, 15, 16], [2, 3, 11, 12, 13, 14, 15, 16], [3, 11, 12, 13, 14, 15, 16], [11, 12, 13, 14, 15, 16], [5, 6, 7, 8, 10, 11, 12, 13, 14, 15, 16], [6, 7, 8, 10, 11, 12, 13, 14, 15, 16], [7, 8, 10, 11, 12, 13, 14, 15, 16], [8, 10, 11, 12, 13, 14, 15, 16], [10, 11, 12, 13, 14, 15, 16], [10, 11, 12, 13, 14, 15, 16], [11, 12, 13, 14, 15, 16], [12, 13, 14, 15, 16], [13, 14, 15, 16], [15, 16], [16], [16], []] (by kernel_rfl) rfl ?_
  refine ta 0 rfl (rd_move rfl) ?_
  refine St.sl (P := pagerO d p S) (St.pg_open fun mv => ?_)
  refine ta 1 rfl (rd_nilCheck rfl) ?_
  refine ta 2 rfl (rd_fa rfl fld85_0) ?_
  refine ta 3 rfl (rd_ld rfl row25) ?_
  refine ta 4 rfl (rd_move rfl) ?_
  refine ta 5 rfl (rd_nilCheck rfl) ?_
  refine ta 6 rfl (rd_fa rfl fld85_1) ?_
  refine ta 7 rfl (rd_ld rfl row3) ?_
  refine ta 8 rfl (rd_addi rfl rfl) ?_
  refine ta 9 rfl (rd_move rfl) ?_
  refine ta 10 rfl (rd_addi rfl rfl) ?_
  refine tr 11 ?_
  refine rc (hs := diskRead_spec _ d k (S.fr + 2 + i) S.dk h1 h2 h3 (by omega)) (k := ?_)
  rintro v1 -
  rw [show sec S.dk.now (S.fr + 2 + i) = S.sct i from rfl]
  refine St.vw vw_bytes .head (fun A1 c1 hv _ _ _ => ?_)
  rw [hsl] at hv
  subst hv
  try simp only [List.cons_append, List.nil_append]
  refine nx ?_
  refine any_next (by apply bd 10; apply bd 9; apply bd 8; apply bd 7; apply bd 6; apply bd 5; apply bd 4; apply bd 3; apply bd 2; apply bd 1; apply bd 0; exact .nil) ?_
  refine ta 12 rfl (rd_move rfl) ?_
  refine ta 13 rfl (rd_extract rfl rfl) ?_
  refine ta 14 rfl (rd_extract rfl rfl) ?_
  refine ta 15 rfl (rd_assign rfl) ?_
  refine ta 16 rfl (rd_assign rfl) ?_
  refine any_nil (by kernel_rfl) ?_
  refine St.pg_shut S mv ?_
  refine St.kp [(6, _), (7, _)] ?_
  refine St.then_n ?_
  refine do_seq ?_
  refine sr ?_
  refine rr (rd_move rfl) ?_
  refine rr ((rd_ne rfl rfl).eq (show _ = Value.bool false by simp)) ?_
  refine nx ?_
  refine do_cond_f rfl ?_
  refine do_skip ?_
  refine St.then_n ?_
  refine sr ?_
  refine rr (rd_move rfl) ?_
  refine rc (hs := opened_spec _ A1 c1 (S.sct i) hsl (Vw.sep vw_bytes (by repeat (first | with_reducible exact Sel.head | apply Sel.tail)))) (k := ?_)
  rintro ⟨⟩ -
  rw [ho]
  try simp only [List.cons_append, List.nil_append]
  refine rr (rd_move rfl) ?_
  refine rr (rd_extract rfl rfl) ?_
  refine rr (rd_extract rfl rfl) ?_
  refine rr (rd_assign rfl) ?_
  refine rr (rd_assign rfl) ?_
  refine run_nil ?_
  refine St.kp [(8, _), (9, _)] ?_
  refine St.then_n ?_
  refine do_seq ?_
  refine sr ?_
  refine rr (rd_move rfl) ?_
  refine rr (rd_not rfl) ?_
  refine nx ?_
  refine do_cond_f rfl ?_
  refine do_skip ?_
  refine St.then_n ?_
  refine sr ?_
  refine rr (rd_move rfl) ?_
  refine rr (rd_assign rfl) ?_
  refine rr (rd_assign rfl) ?_
  refine run_nil ?_
  refine St.kp [(4, _), (5, _)] ?_
  refine St.then_n ?_
  refine do_ret ?_
  refine do_ret2 Try.results74 (res_tmp rfl) (res_tmp rfl) ?_
  intro w hw
  have h4 : VwB (bytesO (.slice A1 256 c1) (S.sct i)) (.slice (subA A1 c1 4 1) 252 (c1 - 4)) ((S.sct i).drop 4) := by
    have h5 : Vw (bytesO (.slice A1 256 c1) (S.sct i)) (.slice A1 256 c1) 1 256 ((S.sct i).map bcell) := by
      have := vw_bytes (v := .slice A1 256 c1) (bs := S.sct i)
      unfold VwB at this; rwa [hsl] at this
    have := Vw.sub (k := 1) h5 (i := 4) (j := 256) (by decide) (by omega) (by omega)
    unfold VwB
    rwa [List.length_drop, hsl, List.map_drop, ← List.take_of_length_le (l := ((S.sct i).map bcell).drop 4) (i := 252 * 1) (by simp; omega)]
  exact ⟨(.slice (subA A1 c1 4 1) 252 (c1 - 4), bytesO (.slice A1 256 c1) (S.sct i)), h4, rfl, hw.sb⟩
/-- A page is written. -/
def PS.wr (S : PS) (q : Nat) (b : List UInt8) : PS :=
  { S with is := S.is.set q 2, dk := { S.dk with now := setB S.dk.now (S.fr + 2 + q) (sealB b), l := S.dk.l ++ [(S.fr + 2 + q, sealB b)] } }
theorem pgC_len {d : Nat} {S : PS} {mv : Value} (h : S.is.length = 4096) : (pgC d S mv).length = 4104 := by
  unfold pgC
  simp only [List.length_append, List.length_map, List.length_cons, List.length_nil, h]
theorem pg_set {d : Nat} {S : PS} {mv : Value} {q : Nat} (h : q < S.is.length) (c : UInt8) : (pgC d S mv).set (3 + q) (bcell c) = pgC d { S with is := S.is.set q c } mv := by
  unfold pgC
  rw [List.set_append_right _ _ (by simp), List.set_append_left _ _ (by simp; omega)]
  simp only [List.length_cons, List.length_nil, Nat.zero_add, Nat.add_sub_cancel_left, List.map_set]
theorem fre_lt {S : PS} {q : Nat} (h : q ∈ S.fre) : q < S.n := List.mem_range.1 (List.mem_filter.1 h).1
set_option maxRecDepth 100000 in
set_option maxHeartbeats 1000000 in
theorem pgFull_spec (F : HP) (d p k : Nat) (S : PS) (hS : S.ok k) (hf : S.fre = []) (v : Value) (b : List UInt8) (hF : VwB F v b) (hb : b.length ≤ 252) :
    Spec Try.prog 14 [.pointer (some ⟨p, 0, none⟩), v] [pagerO d p S] F (fun _ : Unit => True) (fun _ => .tuple #[.int .i64 0, .int .i64 4]) (fun _ => [pagerO d p S]) := by
  intro ω w hh
  refine enterM Try.func14 rfl Try.ntmps14 rfl hh ?_
  simp only [List.cons_append, List.nil_append, argsB]
  obtain ⟨h1, h2, h3, h4, h5, h6, h7, h8⟩ := hS
  refine St.vw hF (.tail .head) (fun A c hv _ _ _ => ?_)
  subst hv
  refine sr ?_
  refine r_b1 fun b2 => ?_
  refine r_b1 fun b3 => ?_
  refine r_al zero3 fun b4 => ?_
  refine r_al zero30 fun b5 => ?_
  refine nx ?_
  refine do_seq ?_
  refine do_block ?_
  refine sr ?_
  refine rr (rd_ld rfl row26) ?_
  refine rr (rd_ptr_eq_nil Try.underlying26 rfl rfl) ?_
  refine rr (rd_assign rfl) ?_
  refine run_nil ?_
  refine St.kp [(2, _), (3, _), (4, _), (5, _), (8, _)] ?_
  refine St.then_n ?_
  refine do_cond_f rfl ?_
  refine sr ?_
  refine St.sl (P := pagerO d p S) (St.pg_open fun mv => ?_)
  refine rr (rd_ld rfl row26) ?_
  refine rr (rd_nilCheck rfl) ?_
  refine rr (rd_fa rfl fld85_5) ?_
  refine rr (rd_ld rfl row4 (cells_pts1 (g := p) (v := .bool false) (by repeat (first | with_reducible exact Sel.head | apply Sel.tail)) ((pg_tail h5 4).trans (by rw [h8]; rfl)))) ?_
  refine rr (rd_assign rfl) ?_
  refine run_nil ?_
  refine St.kp [(2, _), (3, _), (4, _), (5, _), (11, _)] ?_
  refine St.then_n ?_
  refine do_cond_f rfl ?_
  refine sr ?_
  refine St.pg_shut (d := d) (p := p) S mv ?_
  refine rr (rd_ld rfl row44) ?_
  refine rr (rd_len Try.underlying44 rfl) ?_
  refine rr ((rd_gt rfl rfl).eq (show _ = Value.bool false from congrArg _ (decide_eq_false (by omega)))) ?_
  refine rr (rd_assign rfl) ?_
  refine run_nil ?_
  refine St.kp [(2, _), (3, _), (4, _), (5, _), (16, _)] ?_
  refine St.then_n ?_
  refine do_cond_f rfl ?_
  refine do_skip ?_
  refine St.blk_n ?_
  refine St.then_n ?_
  refine do_seq ?_
  refine sr ?_
  refine rr (rd_ld rfl row26) ?_
  refine rc (hs := empty_spec _ (.pointer (some ⟨p, 0, none⟩)) rfl) (k := ?_)
  rintro c0 -
  try simp only [List.cons_append, List.nil_append]
  refine nx ?_
  refine do_block ?_
  refine St.pack (Ps := [pts c0 26 [.pointer (some ⟨p, 0, none⟩)], pagerO d p S]) (by repeat (first | exact Pick.nil | apply Pick.cons (by repeat (first | with_reducible exact Sel.head | apply Sel.tail)))) ?_
  refine do_range rfl (by kernel_rfl) (fun _ => []) (fun _ => [fun _ => False]) (empty_iter c0 d p S (by omega) h5) (by repeat (first | exact Pick.nil | apply Pick.cons (by repeat (first | with_reducible exact Sel.head | apply Sel.tail)))) (fun _ _ (_ : Unit) => True) (fun _ _ _ => []) (fun _ _ _ => [])
    (fun _ _ ⟨_, _, h⟩ => by rw [h]; rfl) (by decide) (fun _ _ _ _ ⟨_, h, _⟩ => by rw [hf] at h; cases h) (fun _ _ _ _ _ ⟨_, h, _⟩ => by rw [hf] at h; cases h) (fun D i hi => ?_) (fun _ _ => St.false (.tail .head))
  simp only [List.cons_append, List.nil_append]
  refine St.sl (P := freIT c0 d p S) (St.flat ?_)
  simp only [List.cons_append, List.nil_append]
  refine St.blk_n ?_
  refine St.then_n ?_
  refine sr ?_
  refine r_st row3 ?_
  refine r_st row30 ?_
  refine run_nil ?_
  refine St.kp [(4, _), (5, _)] ?_
  refine St.then_n ?_
  refine do_ret ?_
  refine do_retM2 [D] rfl (by repeat (first | exact Pick.nil | apply Pick.cons (by repeat (first | with_reducible exact Sel.head | apply Sel.tail)))) Try.results14 (res_cell rfl row3 (cells_pts1 (by repeat (first | with_reducible exact Sel.head | apply Sel.tail)) rfl)) (res_cell rfl row30 (cells_pts1 (by repeat (first | with_reducible exact Sel.head | apply Sel.tail)) rfl)) ?_
  intro w hw
  exact ⟨(), trivial, rfl, hw.sb⟩
set_option maxRecDepth 100000 in
set_option maxHeartbeats 1000000 in
theorem pgWrite_spec (F : HP) (d p k : Nat) (S : PS) (hS : S.ok k) (q : Nat) (tl : List Nat) (hf : S.fre = q :: tl) (hl : S.dk.l.length ≤ 1073741824) (v : Value) (b : List UInt8) (hF : VwB F v b) (hb : b.length ≤ 252) :
    Spec Try.prog 14 [.pointer (some ⟨p, 0, none⟩), v] [pagerO d p S] F (fun _ : Unit => True) (fun _ => .tuple #[.int .i64 (q : Int), .int .i64 0]) (fun _ => [pagerO d p (S.wr q b)]) := by
  intro ω w hh
  refine enterM Try.func14 rfl Try.ntmps14 rfl hh ?_
  simp only [List.cons_append, List.nil_append, argsB]
  have hqn : q < S.n := fre_lt (by rw [hf]; exact List.mem_cons_self)
  obtain ⟨h1, h2, h3, h4, h5, h6, h7, h8⟩ := hS
  refine St.vw hF (.tail .head) (fun A c hv _ _ _ => ?_)
  subst hv
  refine sr ?_
  refine r_b1 fun b2 => ?_
  refine r_b1 fun b3 => ?_
  refine r_al zero3 fun b4 => ?_
  refine r_al zero30 fun b5 => ?_
  refine nx ?_
  refine do_seq ?_
  refine do_block ?_
  refine sr ?_
  refine rr (rd_ld rfl row26) ?_
  refine rr (rd_ptr_eq_nil Try.underlying26 rfl rfl) ?_
  refine rr (rd_assign rfl) ?_
  refine run_nil ?_
  refine St.kp [(2, _), (3, _), (4, _), (5, _), (8, _)] ?_
  refine St.then_n ?_
  refine do_cond_f rfl ?_
  refine sr ?_
  refine St.sl (P := pagerO d p S) (St.pg_open fun mv => ?_)
  refine rr (rd_ld rfl row26) ?_
  refine rr (rd_nilCheck rfl) ?_
  refine rr (rd_fa rfl fld85_5) ?_
  refine rr (rd_ld rfl row4 (cells_pts1 (g := p) (v := .bool false) (by repeat (first | with_reducible exact Sel.head | apply Sel.tail)) ((pg_tail h5 4).trans (by rw [h8]; rfl)))) ?_
  refine rr (rd_assign rfl) ?_
  refine run_nil ?_
  refine St.kp [(2, _), (3, _), (4, _), (5, _), (11, _)] ?_
  refine St.then_n ?_
  refine do_cond_f rfl ?_
  refine sr ?_
  refine St.pg_shut (d := d) (p := p) S mv ?_
  refine rr (rd_ld rfl row44) ?_
  refine rr (rd_len Try.underlying44 rfl) ?_
  refine rr ((rd_gt rfl rfl).eq (show _ = Value.bool false from congrArg _ (decide_eq_false (by omega)))) ?_
  refine rr (rd_assign rfl) ?_
  refine run_nil ?_
  refine St.kp [(2, _), (3, _), (4, _), (5, _), (16, _)] ?_
  refine St.then_n ?_
  refine do_cond_f rfl ?_
  refine do_skip ?_
  refine St.blk_n ?_
  refine St.then_n ?_
  refine do_seq ?_
  refine sr ?_
  refine rr (rd_ld rfl row26) ?_
  refine rc (hs := empty_spec _ (.pointer (some ⟨p, 0, none⟩)) rfl) (k := ?_)
  rintro c0 -
  try simp only [List.cons_append, List.nil_append]
  refine nx ?_
  refine do_block ?_
  refine St.pack (Ps := [pts c0 26 [.pointer (some ⟨p, 0, none⟩)], pagerO d p S]) (by repeat (first | exact Pick.nil | apply Pick.cons (by repeat (first | with_reducible exact Sel.head | apply Sel.tail)))) ?_
  refine do_range rfl (by kernel_rfl)
    (fun | 0 => [pts b2 26 [.pointer (some ⟨p, 0, none⟩)], pts b3 44 [.slice A b.length c], pts b4 3 [.int .i64 0], pts b5 30 [.int .i64 0], F] | _ + 1 => [fun _ => False])
    (fun | .ret => [pts b4 3 [.int .i64 (q : Int)], pts b5 30 [.int .i64 0], pagerO d p (S.wr q b), F] | _ => [fun _ => False])
    (empty_iter c0 d p S (by omega) h5) (by repeat (first | exact Pick.nil | apply Pick.cons (by repeat (first | with_reducible exact Sel.head | apply Sel.tail))))
    (fun i vs (_ : Unit) => i = 0 ∧ vs = [.int .i64 (q : Int)])
    (fun i vs _ => [(2, .pointer (some ⟨b2, 0, none⟩)), (3, .pointer (some ⟨b3, 0, none⟩)), (4, .pointer (some ⟨b4, 0, none⟩)), (5, .pointer (some ⟨b5, 0, none⟩)), (6, .int .i64 (q : Int))])
    (fun i vs _ => [pts b2 26 [.pointer (some ⟨p, 0, none⟩)], pts b3 44 [.slice A b.length c], pts b4 3 [.int .i64 0], pts b5 30 [.int .i64 0], F, freIT c0 d p S])
    (fun _ _ ⟨_, _, h⟩ => by rw [h]; rfl) (by decide) ?_ ?_ (fun Dm1 i hi => ?_) (fun Dm1 cc => ?_)
  · rintro l FR i vs ⟨x1, hx1, rfl⟩ hL1
    rcases Nat.eq_zero_or_pos i with rfl | hi0
    case inr =>
      obtain ⟨i, rfl⟩ := Nat.exists_eq_succ_of_ne_zero (Nat.ne_of_gt hi0)
      exact St.false .head
    rw [hf] at hx1
    obtain rfl : q = x1 := Option.some.inj hx1
    simp only [List.cons_append, List.nil_append]
    refine do_region ?_
    refine rr (rd_assign rfl) ?_
    refine run_nil ?_
    refine St.kp [(2, _), (3, _), (4, _), (5, _), (6, _)] ?_
    refine St.then_n ?_
    exact fun a w hw hb => ⟨(), by simp, hw.sub (by repeat (first | exact Pick.nil | apply Pick.cons (by repeat (first | with_reducible exact Sel.head | apply Sel.tail)))), hb.sub ⟨rfl, rfl, rfl, rfl, rfl, trivial⟩⟩
  · rintro l FR i vs ⟨⟩ - ⟨rfl, rfl⟩ hL1
    simp only [List.cons_append, List.nil_append]
    refine St.sl (P := freIT c0 d p S) (St.flat ?_)
    simp only [List.cons_append, List.nil_append]
    refine St.sl (P := pagerO d p S) (St.pg_open fun mv => ?_)
    refine do_block ?_
    refine do_seq ?_
    refine do_seq ?_
    refine do_draw [[1, 2, 3, 13, 14], [2, 3, 13, 14], [3, 13, 14], [13, 14], [5, 6, 7, 8, 10, 13, 14], [6, 7, 8, 10, 13, 14], [7, 8, 10, 13, 14], [8, 10, 13, 14], [10, 13, 14], [10, 13, 14], [13, 14], [12, 13, 14], [13, 14], [14], []] (by kernel_rfl) rfl ?_
    refine ta 0 rfl (rd_ld rfl row26) ?_
    refine ta 1 rfl (rd_nilCheck rfl) ?_
    refine ta 2 rfl (rd_fa rfl fld85_0) ?_
    refine ta 3 rfl (rd_ld rfl row25) ?_
    refine ta 4 rfl (rd_ld rfl row26) ?_
    refine ta 5 rfl (rd_nilCheck rfl) ?_
    refine ta 6 rfl (rd_fa rfl fld85_1) ?_
    refine ta 7 rfl (rd_ld rfl row3) ?_
    refine ta 8 rfl (rd_addi rfl rfl) ?_
    refine ta 9 rfl (rd_move rfl) ?_
    refine ta 10 rfl (rd_addi rfl rfl) ?_
    refine ta 11 rfl (rd_ld rfl row44) ?_
    refine tr 12 ?_
    refine rc (hs := sealed_spec _ _ b (Vw.sep hF (by repeat (first | with_reducible exact Sel.head | apply Sel.tail))) hb) (k := ?_)
    rintro gs -
    try simp only [List.cons_append, List.nil_append]
    refine nx ?_
    refine any_next (by apply bd 11; apply bk 10 rfl (rd_addi rfl rfl); apply bk 9 rfl (rd_move rfl); apply bk 8 rfl (rd_addi rfl rfl); apply bk 7 rfl (rd_ld rfl row3); apply bk 6 rfl (rd_fa rfl fld85_1); apply bk 5 rfl (rd_nilCheck rfl); apply bk 4 rfl (rd_ld rfl row26); apply bk 3 rfl (rd_ld rfl row25); apply bk 2 rfl (rd_fa rfl fld85_0); apply bk 1 rfl (rd_nilCheck rfl); apply bk 0 rfl (rd_ld rfl row26); exact .nil) ?_
    refine tr 13 ?_
    refine rc (hs := diskWrite_spec' _ d k (S.fr + 2 + q) S.dk _ (sealB b) h6 h7 (Vw.sep (by have := vw_bytes (v := .slice (some ⟨gs, 0, none⟩) 256 256) (bs := sealB b); exact this) (by repeat (first | with_reducible exact Sel.head | apply Sel.tail))) (seal_len hb) h1 h2 h3 (by omega) hl) (k := ?_)
    rintro ⟨⟩ -
    rw [show ({ S.dk with now := setB S.dk.now (S.fr + 2 + q) (sealB b), l := S.dk.l ++ [(S.fr + 2 + q, sealB b)] } : DS) = (S.wr q b).dk from rfl]
    try simp only [List.cons_append, List.nil_append]
    refine nx ?_
    refine any_next (by apply bd 10; apply bd 9; apply bd 8; apply bd 7; apply bd 6; apply bd 5; apply bd 4; apply bd 3; apply bd 2; apply bd 1; apply bd 0; exact .nil) ?_
    refine ta 14 rfl (rd_assign rfl) ?_
    refine any_nil (by kernel_rfl) ?_
    refine St.kp [(2, _), (4, _), (5, _), (6, _), (7, _)] ?_
    refine St.then_n ?_
    refine sr ?_
    refine rr (rd_move rfl) ?_
    refine rr ((rd_ne rfl rfl).eq (show _ = Value.bool false by simp)) ?_
    refine nx ?_
    refine do_cond_f rfl ?_
    refine do_skip ?_
    refine St.then_n ?_
    refine sr ?_
    refine rr (rd_ld rfl row26) ?_
    refine rr (rd_move rfl) ?_
    refine rr (rd_nilCheck rfl) ?_
    refine rr (rd_fa rfl fld85_3) ?_
    refine rr ((rd_arrIx Try.underlying83 ei5 rfl rfl (by omega)).eq (show _ = Value.pointer (some ⟨p, 3 + q, none⟩) by rw [Nat.mul_one])) ?_
    refine r_st row5 (cs' := pgC d (S.wr q b) mv) ?_ (hle := Nat.ble_eq_true_of_le (by rw [pgC_len h5]; omega)) (hs := (pg_set (by omega) 2).trans rfl)
    rw [show S.mb = (S.wr q b).mb from rfl]
    refine St.pg_shut (d := d) (p := p) (S.wr q b) mv ?_
    refine run_nil ?_
    refine St.kp [(4, _), (5, _), (6, _)] ?_
    refine St.then_n ?_
    refine sr ?_
    refine rr (rd_move rfl) ?_
    refine r_st row3 ?_
    refine r_st row30 ?_
    refine nx ?_
    refine do_ret ?_
    refine St.blk_r ?_
    exact fun a w hw hb => (show Holds ω ([pts b4 3 [.int .i64 (q : Int)], pts b5 30 [.int .i64 0], pagerO d p (S.wr q b), F] ++ [FR]) w from hw.sb)
  rw [hf] at hi
  subst hi
  exact St.false (.tail .head)
  cases cc
  case ret =>
    simp only [List.cons_append, List.nil_append]
    refine do_ret ?_
    refine St.blk_r ?_
    refine St.then_r ?_
    refine do_retM2 [Dm1] rfl (by repeat (first | exact Pick.nil | apply Pick.cons (by repeat (first | with_reducible exact Sel.head | apply Sel.tail)))) Try.results14 (res_cell rfl row3 (cells_pts1 (by repeat (first | with_reducible exact Sel.head | apply Sel.tail)) rfl)) (res_cell rfl row30 (cells_pts1 (by repeat (first | with_reducible exact Sel.head | apply Sel.tail)) rfl)) ?_
    intro w hw
    exact ⟨(), trivial, rfl, hw.sb⟩
  all_goals exact St.false (.tail .head)
end Go.Proofs.Ytgeldfgcicjidaa
