/-
  Nodes on pages; a root of items that are on pages.
-/
import Derived.Test.YtgeldfgcicjidaaT6
namespace Go.Proofs.Ytgeldfgcicjidaa
open Go.RowKit
set_option linter.unusedSimpArgs false
set_option linter.unusedVariables false

abbrev encs (N : List Nm) : List (List UInt8) := N.map fun y => encN y.leaf (ps y.l)
def wrV (ok : Bool) (A : Option Addr) (n c : Nat) : Value := match ok with | true => .slice A n c | false => .slice none 0 0
def wrE (ok : Bool) : Nat := match ok with | true => 0 | false => 4
def wrH (ok : Bool) (X : HP) : HP := match ok with | true => X | false => Sep []
theorem nd_len {leaf : Bool} {l : List It} (h : NdOk leaf l) : (encN leaf l).length ≤ 252 := Nat.le_trans (encN_len h.ok h.len) h.size
set_option maxHeartbeats 4000000 in
theorem written_spec (F : HP) (t p d k : Nat) (root : Int) (S : PS) (hS : S.good k) (N : List Nm) (A : Option Addr) (n c : Nat) (hn : N.length = n) (hl : n ≤ 1048576) (hV : Vw F (.slice A n c) 2 n (N.flatMap ndC))
    (hrow : ∀ y ∈ N, Vw F y.v 3 y.l.length (y.l.flatMap imC)) (hval : ∀ y ∈ N, okV F y.l) (hnd : ∀ y ∈ N, NdOk y.leaf (ps y.l)) :
    Spec Try.prog 26 [.pointer (some ⟨t, 0, none⟩), .slice A n c] [treeO t p root, pagerO d p S] F (fun _ : Option Addr × Nat => True) (fun x => .tuple #[wrV (wrAll S (encs N)).2.2 x.1 n x.2, .int .i64 (wrE (wrAll S (encs N)).2.2)])
      (fun x => [wrH (wrAll S (encs N)).2.2 (ownI (.slice x.1 n x.2) n (upM N (wrAll S (encs N)).2.1)), treeO t p root, pagerO d p (wrAll S (encs N)).1]) := by
  intro ω w hh
  refine enter Try.func26 rfl Try.ntmps26 rfl hh ?_
  simp only [List.cons_append, List.nil_append, argsB, treeO]
  have hel : (encs N).length = n := by rw [List.length_map, hn]
  have hle : ∀ b ∈ encs N, b.length ≤ 252 := fun b hb => by
    obtain ⟨y, hy, rfl⟩ := List.mem_map.1 hb
    exact nd_len (hnd y hy)
  refine sr ?_
  refine rr (rd_assign rfl) ?_
  refine rr (rd_assign rfl) ?_
  refine nx ?_
  refine sr ?_
  refine rr (rd_assign rfl) ?_
  refine nx ?_
  refine do_seq ?_
  refine sr ?_
  refine rr (rd_move rfl) ?_
  refine rr (rd_len Try.underlying74 rfl) ?_
  refine rr (rd_move rfl) ?_
  refine nx ?_
  refine do_block ?_
  refine St.nilQ (f := imC) (T := 69) (k := 3) ?_
  refine do_lp (fun y : Nat × PS × List Nat × (Option Addr × Nat) => y.1 ≤ n ∧ wrAll S ((encs N).take y.1) = (y.2.1, y.2.2.1, true))
    (fun y => [(0, .pointer (some ⟨t, 0, none⟩)), (6, .slice y.2.2.2.1 y.1 y.2.2.2.2), (11, .slice A n c), (12, .int .i64 n), (13, .int .i64 y.1)])
    (fun y => [ownI (.slice y.2.2.2.1 y.1 y.2.2.2.2) y.1 (upM N y.2.2.1), pts t 71 [.pointer (some ⟨p, 0, none⟩), .int .i64 root], pagerO d p y.2.1, F])
    (fun y => n - y.1) (0, S, [], (none, 0)) ⟨Nat.zero_le _, rfl⟩ ?_ (hΓ := by rw [show upM N (0, S, ([] : List Nat), ((none : Option Addr), 0)).2.2.1 = [] by cases N <;> rfl]; exact (by repeat (first | exact Pick.nil | apply Pick.cons (by repeat (first | with_reducible exact Sel.head | apply Sel.tail)))))
  rintro ⟨i, S', P, ⟨A1, c1⟩⟩ ⟨hi, hW⟩
  dsimp only at hi hW ⊢
  refine sr ?_
  refine rr (rd_lt rfl rfl) ?_
  refine nx ?_
  refine do_seq ?_
  first | refine do_condp rfl (fun h14 => ?_) (fun h14 => ?_) | refine do_cond rfl (fun h14 => ?_) (fun h14 => ?_)
  · have hx := List.getElem?_eq_getElem (l := N) (i := i) (by omega)
    have hym := List.mem_of_getElem? hx
    generalize N[i]'_ = y at hx hym
    have hpi := flat_at (f := ndC) ndC_len hx
    have hyd := hnd y hym
    have hyr := hrow y hym
    have hyv := hval y hym
    have hex : (encs N)[i]? = some (encN y.leaf (ps y.l)) := by rw [List.getElem?_map, hx]; rfl
    have htk := take_get' hex
    have hgk := wrAll_ok hS ((encs N).take i) (fun b hb => hle b (List.mem_of_mem_take hb))
    rw [hW] at hgk
    have hg := hgk.ext.good hS
    have hPl : P.length = i := by have := hgk.yes rfl; rw [List.length_take] at this; dsimp only at this; omega
    have hPn : upM N P = upM N P := rfl
    obtain ⟨x0, l0, hl0⟩ : ∃ x0 l0, y.l = x0 :: l0 := by
      cases hq : y.l with
      | nil => exact absurd (by rw [hq]; rfl) hyd.ne
      | cons a b => exact ⟨a, b, rfl⟩
    have hy64 : y.l.length ≤ 64 := by have := hyd.len; rwa [List.length_map] at this
    obtain ⟨yl, yA, yc, yL⟩ := y
    dsimp only at hl0 hy64 hyr hyv hyd hex htk
    have hy0 : 0 < yL.length := by rw [hl0]; exact Nat.succ_pos _
    refine St.vw_some hV (by repeat (first | with_reducible exact Sel.head | apply Sel.tail)) (by omega) (fun g of hg _ _ => ?_)
    subst hg
    refine do_skip ?_
    refine St.then_n ?_
    refine do_seq ?_
    refine do_block ?_
    refine sr ?_
    refine rr ((rd_indexAddr Try.underlying74 ei105 rfl rfl (by omega) (by omega)).eq (show _ = Value.pointer (some ⟨g, of + i * 2, none⟩) by simp)) ?_
    refine rr (rd_ldr _ rfl row105 (Vw.cells (k := 2) (vs := [.bool yl, .slice yA yL.length yc]) hV (by repeat (first | with_reducible exact Sel.head | apply Sel.tail)) (by omega) hpi)) ?_
    refine r_al zero105 fun b8 => ?_
    first | refine r_sa row105 ?_ | refine r_sm row105 ?_
    refine nx ?_
    refine do_seq ?_
    refine do_draw [[1, 2, 3, 6, 7, 8, 9, 10, 11], [2, 3, 6, 7, 8, 9, 10, 11], [3, 6, 7, 8, 9, 10, 11], [6, 7, 8, 9, 10, 11], [5, 6, 7, 8, 9, 10, 11], [6, 7, 8, 9, 10, 11], [7, 8, 9, 10, 11], [8, 9, 10, 11], [10, 11], [11], [11], []] (by kernel_rfl) rfl ?_
    refine ta 0 rfl (rd_move rfl) ?_
    refine ta 1 rfl (rd_nilCheck rfl) ?_
    refine ta 2 rfl (rd_fa rfl fld71_0) ?_
    refine ta 3 rfl (rd_ld rfl row26) ?_
    refine ta 4 rfl (rd_ldr [_, _] rfl row105) ?_
    refine tr 5 ?_
    refine rc (hs := bytes_spec _ yl yA yL.length yc yL (Vw.sep hyr (by repeat (first | with_reducible exact Sel.head | apply Sel.tail))) rfl (okV.sep hyv (by repeat (first | with_reducible exact Sel.head | apply Sel.tail))) hy64 hyd.ok) (k := ?_)
    rintro v2 -
    refine St.vw vw_bytes .head (fun A2 c2 hv2 _ _ _ => ?_)
    subst hv2
    try simp only [List.cons_append, List.nil_append]
    refine nx ?_
    refine any_next (by apply bd 4; apply bk 3 rfl (rd_ld rfl row26); apply bk 2 rfl (rd_fa rfl fld71_0); apply bk 1 rfl (rd_nilCheck rfl); apply bk 0 rfl (rd_move rfl); exact .nil) ?_
    refine tr 6 ?_
    refine rc (hs := pgW_spec _ d p k S' hg _ (encN yl (ps yL)) (Vw.sep vw_bytes (by repeat (first | with_reducible exact Sel.head | apply Sel.tail))) (nd_len hyd)) (k := ?_)
    rintro ⟨⟩ -
    try simp only [List.cons_append, List.nil_append]
    refine nx ?_
    refine any_next (by apply bd 3; apply bd 2; apply bd 1; apply bd 0; exact .nil) ?_
    refine ta 7 rfl (rd_move rfl) ?_
    refine ta 8 rfl (rd_extract rfl rfl) ?_
    refine ta 9 rfl (rd_extract rfl rfl) ?_
    refine ta 10 rfl (rd_assign rfl) ?_
    refine ta 11 rfl (rd_assign rfl) ?_
    refine any_nil (by kernel_rfl) ?_
    refine St.kp [(0, _), (6, _), (8, _), (9, _), (10, _), (11, _), (12, _), (13, _)] ?_
    refine St.then_n ?_
    refine do_seq ?_
    refine sr ?_
    refine rr (rd_move rfl) ?_
    refine rr (rd_ne rfl rfl) ?_
    refine nx ?_
    first | refine do_condp rfl (fun h28 => ?_) (fun h28 => ?_) | refine do_cond rfl (fun h28 => ?_) (fun h28 => ?_)
    · have hfr : S'.fre = [] := by
        cases hf : S'.fre with
        | nil => rfl
        | cons q tl => unfold pgW at h28; rw [hf] at h28; exact absurd rfl h28
      have hW2 : wrAll S (encs N) = (S', P, false) := by
        rw [← List.take_append_drop (i + 1) (encs N)]
        refine wrAll_stop ?_
        rw [htk, wrAll_snoc, hW]
        unfold wrStep
        rw [hfr]
      have hpw : pgW S' (encN yl (ps yL)) = (S', 0, 4) := by unfold pgW; rw [hfr]
      rw [hpw]
      refine sr ?_
      refine rr (rd_move rfl) ?_
      refine rr (rd_assign rfl) ?_
      refine rr (rd_assign rfl) ?_
      refine run_nil ?_
      refine St.kp [(4, _), (5, _)] ?_
      refine St.then_n ?_
      refine do_ret ?_
      refine St.then_r ?_
      refine St.blk_r ?_
      refine St.then_r ?_
      refine St.then_r ?_
      refine St.blk_r ?_
      refine St.then_r ?_
      refine do_ret2 Try.results26 (res_tmp rfl) (res_tmp rfl) ?_
      intro w hw
      refine ⟨(none, 0), trivial, by rw [hW2]; rfl, ?_⟩
      rw [hW2]
      exact (Holds.flat (Γ := [])).2 hw.sb
    · obtain ⟨q, tl, hfr⟩ : ∃ q tl, S'.fre = q :: tl := by
        cases hf : S'.fre with
        | nil => unfold pgW at h28; rw [hf] at h28; exact absurd (show (4 : Int) ≠ 0 by decide) h28
        | cons q tl => exact ⟨q, tl, rfl⟩
      have hpw : pgW S' (encN yl (ps yL)) = (S'.wr q (encN yl (ps yL)), q, 0) := by unfold pgW; rw [hfr]
      rw [hpw]
      dsimp only
      refine St.vw_some hyr (by repeat (first | with_reducible exact Sel.head | apply Sel.tail)) hy0 (fun gy oy hgy _ _ => ?_)
      subst hgy
      refine do_skip ?_
      refine St.then_n ?_
      refine do_region ?_
      refine rr (rd_move rfl) ?_
      refine rr (rd_fa rfl fld105_1) ?_
      refine rr (rd_ld rfl row67) ?_
      refine rr ((rd_indexAddr Try.underlying67 ei69 rfl rfl (by decide) (by omega)).eq (show _ = Value.pointer (some ⟨gy, oy + 0, none⟩) by simp)) ?_
      refine rr (rd_fa (off' := oy + 0) rfl fld69_0 rfl) ?_
      refine rr (rd_ld rfl row9 (Vw.cells1 (v := .string (strOf (headK (ps yL)))) hyr (by repeat (first | with_reducible exact Sel.head | apply Sel.tail)) hy0 (by rw [hl0]; rfl))) ?_
      refine rr (rd_move rfl) ?_
      refine rr (rd_bd [_, _, _] zero69 plc69) ?_
      refine r_bs1 (f := imC) ⟨headK (ps yL), none, 0, [], q⟩ (imC_len _) Try.underlying67 ei69 (by decide) (fun b38 => ?_)
      refine r_apQ (f := imC) (L := upM N P) (M := [⟨headK (ps yL), none, 0, [], q⟩]) (n := i) imC_len imC_one Try.underlying67 ei69 (X := ownI (.slice (some ⟨b38, 0, none⟩) 1 1) 1 [⟨headK (ps yL), none, 0, [], q⟩]) vw_Q rfl (by omega) (by omega) (by omega) (fun v5 _ => ?_)
      refine St.vw vw_Q .head (fun A5 c5 hv5 _ _ _ => ?_)
      subst hv5
      rw [← upM_snoc q hPl hx]
      refine rr (rd_assign rfl) ?_
      refine run_nil ?_
      refine St.kp [(0, _), (6, _), (11, _), (12, _), (13, _)] ?_
      refine St.blk_n ?_
      refine St.then_n ?_
      refine do_region ?_
      refine rr (rd_addi rfl rfl) ?_
      refine rr (rd_move rfl) ?_
      refine nx ?_
      exact loop_bk (i + 1, S'.wr q (encN yl (ps yL)), P ++ [q], (A5, c5)) ⟨by dsimp only; omega, by dsimp only; rw [htk, wrAll_snoc, hW]; unfold wrStep; rw [hfr]⟩ (hμ := by dsimp only; omega)
  · obtain rfl : i = n := by omega
    rw [← hel, List.take_length] at hW
    refine do_exit ?_
    refine St.then_x ?_
    refine St.then_x ?_
    refine St.blk_s ?_
    refine St.then_n ?_
    refine sr ?_
    refine rr (rd_move rfl) ?_
    refine rr (rd_assign rfl) ?_
    refine rr (rd_assign rfl) ?_
    refine run_nil ?_
    refine St.kp [(4, _), (5, _)] ?_
    refine St.then_n ?_
    refine do_ret ?_
    refine do_ret2 Try.results26 (res_tmp rfl) (res_tmp rfl) ?_
    intro w hw
    exact ⟨(A1, c1), trivial, by rw [hW]; rfl, by rw [hW]; dsimp only [wrH]; exact hw.sb⟩
theorem vw_row {N : List Nm} {y : Nm} (h : y ∈ N) : Vw (sepA ndO N) y.v 3 y.l.length (y.l.flatMap imC) := fun h0 hs => by
  obtain ⟨i, hi⟩ := List.getElem?_of_mem h
  obtain ⟨h1, l1, hq⟩ := sepA_at hi hs
  exact (vw_Q (f := imC) h1 hq).mono l1
def rootF (l : List It) : Int := match l with | [] => -1 | x :: _ => x.c
/-- A root of items that are on pages: page on page, as long as there are several. -/
def growF : Nat → PS → List It → PS × Int × Bool
  | 0, S, l => (S, rootF l, true)
  | f + 1, S, l => if 1 < l.length then (match wrAll S ((partsB false l).map (encN false)) with | (S1, P, true) => growF f S1 (upP (partsB false l) P) | (S1, _, false) => (S1, 0, false)) else (S, rootF l, true)
theorem growF_root {f : Nat} {S : PS} {l : List It} (h : ¬ 1 < l.length) : growF f S l = (S, rootF l, true) := by
  cases f with
  | zero => rfl
  | succ f => rw [growF, if_neg h]
theorem headK_ok {leaf : Bool} {l : List It} (h : NdOk leaf l) : 1 ≤ (headK l).length ∧ (headK l).length ≤ 24 := by
  cases l with
  | nil => exact absurd rfl h.ne
  | cons x l => obtain ⟨h1, h2, _, _⟩ := h.ok x List.mem_cons_self; exact ⟨h1, h2⟩
theorem upP_ok {leaf : Bool} : ∀ {P : List (List It)} {pages : List Nat}, (∀ l ∈ P, NdOk leaf l) → (∀ q ∈ pages, q < 4096) → ∀ x ∈ upP P pages, x.ok
  | [], _, _, _, x, hx => by simp [upP] at hx
  | _ :: _, [], _, _, x, hx => by simp [upP] at hx
  | l :: P, q :: pages, h1, h2, x, hx => by
    unfold upP at hx
    rw [List.zipWith_cons_cons] at hx
    rcases List.mem_cons.1 hx with rfl | hx
    · obtain ⟨k1, k2⟩ := headK_ok (h1 l List.mem_cons_self)
      exact ⟨k1, k2, Nat.zero_le _, h2 q List.mem_cons_self⟩
    · exact upP_ok (fun y hy => h1 y (List.mem_cons_of_mem _ hy)) (fun y hy => h2 y (List.mem_cons_of_mem _ hy)) x hx
theorem upP_shp : ∀ (P : List (List It)) (pages : List Nat), Shp false (upP P pages)
  | [], _, x, hx => by simp [upP] at hx
  | _ :: _, [], x, hx => by simp [upP] at hx
  | l :: P, q :: pages, x, hx => by
    unfold upP at hx
    rw [List.zipWith_cons_cons] at hx
    rcases List.mem_cons.1 hx with rfl | hx
    · exact rfl
    · exact upP_shp P pages x hx
theorem nilV_shp {L : List Im} (h : nilV L) : Shp false (ps L) := fun x hx => by
  obtain ⟨y, hy, rfl⟩ := List.mem_map.1 hx
  exact (h y hy).2.2
/-- What parts makes of items, in plain words. -/
theorem parts_ps {leaf : Bool} {N : List Nm} {L : List Im} (h : N.map (·.l) = parts (szM leaf) L) : (N.map fun y => ps y.l) = partsB leaf (ps L) := by
  have := parts_map (sz := szM leaf) (sz' := sizeI leaf) (f := Im.p) (fun _ => rfl) L
  unfold partsB ps
  rw [this, ← h, List.map_map]
  rfl
theorem parts_encs {leaf : Bool} {N : List Nm} {L : List Im} (h : N.map (·.l) = parts (szM leaf) L) (hl : ∀ y ∈ N, y.leaf = leaf) : encs N = (partsB leaf (ps L)).map (encN leaf) := by
  rw [← parts_ps h, List.map_map]
  exact List.map_congr_left fun y hy => by rw [hl y hy]; rfl
theorem parts_mem {leaf : Bool} {N : List Nm} {L : List Im} (h : N.map (·.l) = parts (szM leaf) L) {y : Nm} (hy : y ∈ N) : ∀ x ∈ y.l, x ∈ L := by
  have h1 : (parts (szM leaf) L).flatten = L := by
    by_cases hL : L = []
    · subst hL; rfl
    · have hfl : ∀ M : List Im, (pkL (pkS (szM leaf) M)).flatten = M := fun M => by
        refine snoc_ind (p := fun M => (pkL (pkS (szM leaf) M)).flatten = M) rfl (fun M x ih => ?_) M
        rw [pkS_snoc]
        cases hq : pkS (szM leaf) M with
        | none => rw [hq] at ih; simp [pkStep, pkL] at ih ⊢; exact ih
        | some q =>
          obtain ⟨C, c, s⟩ := q
          rw [hq] at ih
          unfold pkStep
          dsimp only
          unfold pkL at ih
          dsimp only at ih
          split
          · simp only [pkL]; rw [List.flatten_append, ih]; simp
          · simp only [pkL]; rw [List.flatten_append] at ih ⊢; rw [← ih]; simp
      exact hfl L
  intro x hx
  rw [← h1, ← h]
  exact List.mem_flatten.2 ⟨y.l, List.mem_map_of_mem hy, hx⟩
set_option maxHeartbeats 4000000 in
theorem grown_spec (F : HP) (t p d k : Nat) (root : Int) (S : PS) (hS : S.good k) (f : Nat) (L : List Im) (A : Option Addr) (n c : Nat) (hn : L.length = n) (hl : n ≤ 1048576) (hf : n ≤ f) (hnil : nilV L) (hok : ∀ x ∈ ps L, x.ok) (hV : Vw F (.slice A n c) 3 n (L.flatMap imC)) :
    Spec Try.prog 28 [.pointer (some ⟨t, 0, none⟩), .slice A n c] [treeO t p root, pagerO d p S] F (fun _ : Unit => True) (fun _ => .tuple #[.int .i64 (growF f S (ps L)).2.1, .int .i64 (wrE (growF f S (ps L)).2.2)])
      (fun _ => [treeO t p root, pagerO d p (growF f S (ps L)).1]) := by
  intro ω w hh
  refine enter Try.func28 rfl Try.ntmps28 rfl hh ?_
  simp only [List.cons_append, List.nil_append, argsB]
  obtain ⟨R, hR⟩ : ∃ R, growF f S (ps L) = R := ⟨_, rfl⟩
  rw [hR]
  refine sr ?_
  refine rr (rd_assign rfl) ?_
  refine rr (rd_assign rfl) ?_
  refine nx ?_
  refine do_seq ?_
  refine do_block ?_
  refine St.pack (Ps := [F]) (by repeat (first | exact Pick.nil | apply Pick.cons (by repeat (first | with_reducible exact Sel.head | apply Sel.tail)))) ?_
  refine do_lp (fun y : Nat × PS × List Im × (Option Addr × Nat) × HP => growF y.1 y.2.1 (ps y.2.2.1) = R ∧ y.2.1.good k ∧ y.2.2.1.length ≤ y.1 ∧ y.2.2.1.length ≤ 1048576 ∧ nilV y.2.2.1 ∧ (∀ x ∈ ps y.2.2.1, x.ok) ∧ Vw y.2.2.2.2 (.slice y.2.2.2.1.1 y.2.2.1.length y.2.2.2.1.2) 3 y.2.2.1.length (y.2.2.1.flatMap imC) ∧ ∀ h, y.2.2.2.2 h → Sep [F] h)
    (fun y => [(0, .pointer (some ⟨t, 0, none⟩)), (1, .slice y.2.2.2.1.1 y.2.2.1.length y.2.2.2.1.2)])
    (fun y => [treeO t p root, pagerO d p y.2.1, y.2.2.2.2])
    (fun y => y.1) (f, S, L, (A, c), Sep [F]) ⟨hR, hS, by dsimp only; omega, by dsimp only; omega, hnil, hok, by dsimp only; rw [hn]; exact hV.sep .head, fun _ h => h⟩ ?_ (hβ := by rw [← hn]; exact ⟨rfl, rfl, trivial⟩)
  rintro ⟨f, S, L, ⟨A, c⟩, X⟩ ⟨hR, hS, hf, hl, hnil, hok, hV, hX⟩
  dsimp only at hR hS hf hl hnil hok hV hX ⊢
  have hpl : (ps L).length = L.length := List.length_map ..
  refine do_seq ?_
  refine sr ?_
  refine rr (rd_move rfl) ?_
  refine rr (rd_len Try.underlying67 rfl) ?_
  refine rr (rd_gt rfl rfl) ?_
  refine nx ?_
  first | refine do_condp rfl (fun h10 => ?_) (fun h10 => ?_) | refine do_cond rfl (fun h10 => ?_) (fun h10 => ?_)
  · obtain ⟨f, rfl⟩ : ∃ f', f = f' + 1 := ⟨f - 1, by omega⟩
    rw [growF, if_pos (by omega)] at hR
    refine do_skip ?_
    refine St.then_n ?_
    refine do_block ?_
    refine sr ?_
    refine rr (rd_move rfl) ?_
    refine rr (rd_move rfl) ?_
    refine rc (hs := parts_spec _ false A L.length c L (Vw.sep hV (by repeat (first | with_reducible exact Sel.head | apply Sel.tail))) rfl hl (fun x hx => hok x.p (List.mem_map_of_mem hx))) (k := ?_)
    rintro ⟨⟨A1, c1⟩, N⟩ ⟨hN, hNl⟩
    dsimp only at hN hNl ⊢
    have hpb := partsB_mid hok
    obtain ⟨hp1, hp2⟩ := partsB_ok (leaf := false) hok (nilV_shp hnil)
    have hNp := parts_ps hN
    have hNe := parts_encs hN hNl
    have hNn : N.length = (partsB false (ps L)).length := by rw [← hNp, List.length_map]
    have hnd : ∀ y ∈ N, NdOk y.leaf (ps y.l) := fun y hy => by rw [hNl y hy]; exact hp2 _ (hNp ▸ List.mem_map_of_mem (f := fun y : Nm => ps y.l) hy)
    have hny : ∀ y ∈ N, nilV y.l := fun y hy x hx => hnil x (parts_mem hN hy x hx)
    try simp only [List.cons_append, List.nil_append]
    refine rc (hs := written_spec _ t p d k root S hS N A1 N.length c1 rfl (by omega) (Vw.sep (vw_Q (f := ndC)) (by repeat (first | with_reducible exact Sel.head | apply Sel.tail))) (fun y hy => Vw.sep (vw_row hy) (by repeat (first | with_reducible exact Sel.head | apply Sel.tail))) (fun y hy => (hny y hy).ok _) hnd) (k := ?_)
    rintro ⟨A2, c2⟩ -
    dsimp only
    have hWk := wrAll_ok hS (encs N) (fun b hb => by obtain ⟨y, hy, rfl⟩ := List.mem_map.1 hb; exact nd_len (hnd y hy))
    rw [hNe] at hWk ⊢
    obtain ⟨⟨S1, P, ok⟩, hW⟩ : ∃ r, wrAll S ((partsB false (ps L)).map (encN false)) = r := ⟨_, rfl⟩
    rw [hW] at hWk ⊢
    dsimp only
    try simp only [List.cons_append, List.nil_append]
    refine rr (rd_move rfl) ?_
    refine rr (rd_extract rfl rfl) ?_
    refine rr (rd_extract rfl rfl) ?_
    refine rr (rd_assign rfl) ?_
    refine rr (rd_assign rfl) ?_
    refine run_nil ?_
    refine St.kp [(0, _), (6, _), (7, _)] ?_
    refine St.then_n ?_
    refine do_seq ?_
    refine sr ?_
    refine rr (rd_move rfl) ?_
    refine rr (rd_ne rfl rfl) ?_
    refine nx ?_
    first | refine do_condp rfl (fun h19 => ?_) (fun h19 => ?_) | refine do_cond rfl (fun h19 => ?_) (fun h19 => ?_)
    · have hokf : ok = false := by cases ok; rfl; exact absurd (show ((wrE true : Nat) : Int) = 0 from rfl) h19
      subst hokf
      rw [hW] at hR
      dsimp only at hR
      refine sr ?_
      refine rr (rd_move rfl) ?_
      refine rr (rd_assign rfl) ?_
      refine rr (rd_assign rfl) ?_
      refine run_nil ?_
      refine St.kp [(4, _), (5, _)] ?_
      refine St.then_n ?_
      refine do_ret ?_
      refine St.then_r ?_
      refine St.blk_r ?_
      refine St.then_r ?_
      refine St.blk_r ?_
      refine St.then_r ?_
      refine do_ret2 Try.results28 (res_tmp rfl) (res_tmp rfl) ?_
      intro w hw
      subst hR
      have h1 : Holds ω [X, treeO t p root, pagerO d p S1] w := hw.sb
      have h2 : Holds ω [F, treeO t p root, pagerO d p S1] w := Holds.flat.1 (h1.ent hX)
      exact ⟨(), trivial, rfl, h2.sb⟩
    · have hokf : ok = true := by cases ok; exact absurd (show ((wrE false : Nat) : Int) ≠ 0 by decide) h19; rfl
      subst hokf
      rw [hW] at hR
      dsimp only [wrH, wrV] at hR ⊢
      refine do_skip ?_
      refine St.then_n ?_
      refine do_region ?_
      refine rr (rd_move rfl) ?_
      refine rr (rd_assign rfl) ?_
      refine run_nil ?_
      refine St.kp [(0, _), (1, _)] ?_
      refine St.blk_n ?_
      refine St.then_n ?_
      have hPl : P.length = N.length := by have := hWk.yes rfl; rw [List.length_map, ← hNn] at this; exact this
      have hul : (upM N P).length = N.length := by rw [upM_len (by omega), hPl]
      have hup : ps (upM N P) = upP (partsB false (ps L)) P := by rw [upM_ps, hNp]
      have hPq : ∀ q ∈ P, q < 4096 := fun q hq => by
        obtain ⟨j, hj⟩ := List.getElem?_of_mem hq
        have hj2 := (List.getElem?_eq_some_iff.1 hj).1
        have h1 := (hWk.pg j q _ hj (List.getElem?_eq_getElem (by rw [List.length_map, ← hNn]; omega))).1
        have h2 := hS.1.nk
        have h3 := hS.1.k4
        omega
      have hXX : ∀ h, Sep [ownI (.slice A2 (upM N P).length c2) (upM N P).length (upM N P), X] h → Sep [F] h := fun h hh => Sep.flat.1 ((Sep.drop hh).ent hX)
      rw [← hul]
      refine St.pack (Ps := [ownI (.slice A2 (upM N P).length c2) (upM N P).length (upM N P), X]) (by repeat (first | exact Pick.nil | apply Pick.cons (by repeat (first | with_reducible exact Sel.head | apply Sel.tail)))) ?_
      exact loop_bk (f, S1, upM N P, (A2, c2), Sep [ownI (.slice A2 (upM N P).length c2) (upM N P).length (upM N P), X]) ⟨by dsimp only; rw [hup]; exact hR, hWk.ext.good hS, by dsimp only; omega, by dsimp only; omega, upM_nil N P, by dsimp only; rw [hup]; exact upP_ok hp2 hPq, Vw.sep (vw_Q (f := imC)) .head, hXX⟩ (hμ := by dsimp only; omega)
  · rw [growF_root (by omega)] at hR
    subst hR
    refine do_exit ?_
    refine St.then_x ?_
    refine St.then_x ?_
    refine St.blk_s ?_
    refine St.then_n ?_
    refine do_seq ?_
    refine sr ?_
    refine rr (rd_move rfl) ?_
    refine rr (rd_len Try.underlying67 rfl) ?_
    refine rr (rd_eq rfl rfl) ?_
    refine run_nil ?_
    refine St.kp [(1, _), (24, _)] ?_
    refine St.then_n ?_
    first | refine do_condp rfl (fun h24 => ?_) (fun h24 => ?_) | refine do_cond rfl (fun h24 => ?_) (fun h24 => ?_)
    · obtain rfl : L = [] := List.eq_nil_of_length_eq_zero (by omega)
      refine sr ?_
      refine rr (rd_assign rfl) ?_
      refine rr (rd_assign rfl) ?_
      refine nx ?_
      refine do_ret ?_
      refine St.then_r ?_
      refine do_ret2 Try.results28 (res_tmp rfl) (res_tmp rfl) ?_
      intro w hw
      have h1 : Holds ω [X, treeO t p root, pagerO d p S] w := hw.sb
      have h2 : Holds ω [F, treeO t p root, pagerO d p S] w := Holds.flat.1 (h1.ent hX)
      exact ⟨(), trivial, rfl, h2.sb⟩
    · obtain ⟨x, rfl⟩ : ∃ x, L = [x] := List.length_eq_one_iff.1 (by omega)
      refine St.vw_some hV (by repeat (first | with_reducible exact Sel.head | apply Sel.tail)) (Nat.succ_pos _) (fun g of hg _ _ => ?_)
      subst hg
      refine do_skip ?_
      refine St.then_n ?_
      refine sr ?_
      refine rr (rd_move rfl) ?_
      refine rr ((rd_indexAddr Try.underlying67 ei69 rfl rfl (by decide) (by simp)).eq (show _ = Value.pointer (some ⟨g, of + 0, none⟩) by simp)) ?_
      refine rr (rd_fa (off' := of + 2) rfl fld69_2 rfl) ?_
      refine rr (rd_ld rfl row3 (Vw.cells1 (i := 2) (v := .int .i64 x.c) hV (by repeat (first | with_reducible exact Sel.head | apply Sel.tail)) (Nat.succ_pos _) rfl)) ?_
      refine rr (rd_assign rfl) ?_
      refine rr (rd_assign rfl) ?_
      refine run_nil ?_
      refine St.kp [(4, _), (5, _)] ?_
      refine St.then_n ?_
      refine do_ret ?_
      refine do_ret2 Try.results28 (res_tmp rfl) (res_tmp rfl) ?_
      intro w hw
      have h1 : Holds ω [X, treeO t p root, pagerO d p S] w := hw.sb
      have h2 : Holds ω [F, treeO t p root, pagerO d p S] w := Holds.flat.1 (h1.ent hX)
      exact ⟨(), trivial, rfl, h2.sb⟩
end Go.Proofs.Ytgeldfgcicjidaa
