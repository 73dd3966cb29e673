/-
  A change of one key: the program's.
-/
import Derived.Test.YtgeldfgcicjidaaT11
namespace Go.Proofs.Ytgeldfgcicjidaa
open Go.RowKit
set_option linter.unusedSimpArgs false
set_option linter.unusedVariables false

/-- What a function value does to a leaf's items; C: what it has captured. -/
def ByOk (bf : FuncId) (cap : List Value) (C : HP) (g : List KV → List KV) (pre : List KV → Prop) : Prop :=
  ∀ (F X : HP) (A : Option Addr) (n c : Nat) (L : List Im) (l : List KV), Vw F (.slice A n c) 3 n (L.flatMap imC) → L.length = n → n ≤ 64 → ps L = l.map lfI → KSrt l → okV X L → pre l →
    Spec Try.prog bf ([.slice A n c] ++ cap) [C, X] F (fun y : (Option Addr × Nat) × List Im × HP => ps y.2.1 = (g l).map lfI ∧ okV y.2.2 y.2.1) (fun y => .slice y.1.1 (g l).length y.1.2) (fun y => [ownI (.slice y.1.1 (g l).length y.1.2) (g l).length y.2.1, y.2.2, C])
theorem set_eq {α : Type} {l : List α} {i : Nat} (a : α) (h : i < l.length) : l.set i a = l.take i ++ a :: l.drop (i + 1) := List.set_eq_take_append_cons_drop .. |>.trans (if_pos h)
set_option maxHeartbeats 4000000 in
theorem putBy_ok (b1 b2 : Nat) (key vb : List UInt8) (VA : Option Addr) (vc : Nat) (V : HP) (hV : VwB V (.slice VA vb.length vc) vb) (hvl : vb.length ≤ 80) :
    ByOk 34 [.pointer (some ⟨b1, 0, none⟩), .pointer (some ⟨b2, 0, none⟩)] (Sep [pts b1 9 [.string (strOf key)], pts b2 44 [.slice VA vb.length vc], V]) (putL key vb) (fun _ => True) := by
  intro F X A n c L l hI hn hl hps hs hX _ ω w hh
  refine enter Try.func34 rfl Try.ntmps34 rfl hh ?_
  simp only [List.cons_append, List.nil_append, argsB]
  refine St.flat ?_
  simp only [List.cons_append, List.nil_append]
  have hsI : Srt (ps L) := by rw [hps]; exact hs.it
  have hll : l.length = n := by have := congrArg List.length hps; rw [List.length_map, List.length_map] at this; omega
  have hple := posK_le l key
  have hpos : pos (ps L) key = posK l key := by rw [hps]; rfl
  have hfnd : fnd (ps L) key = fndK l key := by rw [hps]; rfl
  obtain ⟨i, hi⟩ : ∃ i, posK l key = i := ⟨_, rfl⟩
  obtain ⟨fd, hfd⟩ : ∃ fd, fndK l key = fd := ⟨_, rfl⟩
  have hput : putL key vb l = l.take i ++ (key, vb) :: l.drop (if fd = true then i + 1 else i) := by unfold putL; rw [hi, hfd]
  rw [hi] at hpos hple
  rw [hfd] at hfnd
  obtain ⟨G, hG⟩ : ∃ G, (l.take i ++ (key, vb) :: l.drop (if fd = true then i + 1 else i)) = G := ⟨_, rfl⟩
  rw [hput, hG]
  refine sr ?_
  refine rr (rd_assign rfl) ?_
  refine nx ?_
  refine sr ?_
  refine rr (rd_move rfl) ?_
  refine rr (rd_ld rfl row9) ?_
  refine rc (hs := find_spec _ A n c L key (Vw.sep hI (by repeat (first | with_reducible exact Sel.head | apply Sel.tail))) hn (by omega) hsI) (k := ?_)
  rintro ⟨⟩ -
  rw [hpos, hfnd]
  try simp only [List.cons_append, List.nil_append]
  refine rr (rd_move rfl) ?_
  refine rr (rd_extract rfl rfl) ?_
  refine rr (rd_extract rfl rfl) ?_
  refine rr (rd_assign rfl) ?_
  refine rr (rd_assign rfl) ?_
  refine run_nil ?_
  refine St.kp [(0, _), (1, _), (2, _), (5, _), (6, _)] ?_
  refine St.then_n ?_
  refine do_seq ?_
  refine do_cut (fun _ : Nat × (Option Addr × Nat) => True) (fun y => [(0, .slice A n c), (5, .int .i64 i), (6, .bool fd), (7, .pointer (some ⟨y.1, 0, none⟩))]) (fun y => [pts y.1 69 [.string (strOf key), .slice y.2.1 vb.length y.2.2, .int .i64 0], bytesO (.slice y.2.1 vb.length y.2.2) vb, pts b1 9 [.string (strOf key)], pts b2 44 [.slice VA vb.length vc], V, X, F]) (fun K hK => ?_) ?_
  · skip
    · refine do_draw [[3, 5], [2, 3, 5], [3, 5], [5], [5], []] (by kernel_rfl) rfl ?_
      refine ta 0 rfl (rd_ld rfl row9) ?_
      refine ta 1 rfl (rd_ld rfl row44) ?_
      refine any_run2 (i := 2) (j := 4) (by kernel_rfl) rfl rfl ?_ ?_
      · refine rc (hs := cloneB_spec _ _ vb (Vw.sep hV (by repeat (first | with_reducible exact Sel.head | apply Sel.tail))) (by omega)) (k := ?_)
        rintro v1 -
        refine St.vw vw_bytes .head (fun A1 c1 hv _ _ _ => ?_)
        subst hv
        try simp only [List.cons_append, List.nil_append]
        refine nx ?_
        refine any_next (by apply bd 1; apply bk 0 rfl (rd_ld rfl row9); exact .nil) ?_
        refine ta 3 rfl (rd_bd [_, _, _] zero69 plc69) ?_
        refine tr 4 ?_
        refine r_al zero69 fun b7 => ?_
        refine nx ?_
        refine any_next (by apply bk 3 rfl (rd_bd [_, _, _] zero69 plc69); apply bk 0 rfl (rd_ld rfl row9); exact .nil) ?_
        refine tr 5 ?_
        first | refine r_sa row69 ?_ | refine r_sm row69 ?_
        refine nx ?_
        refine any_next (by apply bd 3; apply bd 0; exact .nil) ?_
        refine any_nil (by kernel_rfl) ?_
        refine St.then_n ?_
        exact St.sb (St.kq [(0, _), (5, _), (6, _), (7, _)] (h := hK (b7, (A1, c1)) trivial))
      rotate_left
      refine r_al zero69 fun b7 => ?_
      refine nx ?_
      refine any_next (by apply bk 1 rfl (rd_ld rfl row44); apply bk 0 rfl (rd_ld rfl row9); exact .nil) ?_
      refine tr 2 ?_
      refine rc (hs := cloneB_spec _ _ vb (Vw.sep hV (by repeat (first | with_reducible exact Sel.head | apply Sel.tail))) (by omega)) (k := ?_)
      rintro v1 -
      refine St.vw vw_bytes .head (fun A1 c1 hv _ _ _ => ?_)
      subst hv
      try simp only [List.cons_append, List.nil_append]
      refine nx ?_
      refine any_next (by apply bd 1; apply bk 0 rfl (rd_ld rfl row9); exact .nil) ?_
      refine ta 3 rfl (rd_bd [_, _, _] zero69 plc69) ?_
      refine tr 5 ?_
      first | refine r_sa row69 ?_ | refine r_sm row69 ?_
      refine nx ?_
      refine any_next (by apply bd 3; apply bd 0; exact .nil) ?_
      refine any_nil (by kernel_rfl) ?_
      refine St.then_n ?_
      exact St.sb (St.kq [(0, _), (5, _), (6, _), (7, _)] (h := hK (b7, (A1, c1)) trivial))
  rintro ⟨b7, ⟨A1, c1⟩⟩ -
  dsimp only
  refine do_seq ?_
  refine sr ?_
  refine rr (rd_move rfl) ?_
  refine nx ?_
  first | refine do_condp rfl (fun h18 => ?_) (fun h18 => ?_) | refine do_cond rfl (fun h18 => ?_) (fun h18 => ?_)
  · subst h18
    obtain ⟨x0, hx0, hxk⟩ := fndK_iff.1 hfd
    rw [hi] at hx0
    have hil := (List.getElem?_eq_some_iff.1 hx0).1
    refine sr ?_
    refine rr (rd_move rfl) ?_
    refine rc (hs := cloneI_spec _ A n c L (Vw.sep hI (by repeat (first | with_reducible exact Sel.head | apply Sel.tail))) hn (by omega)) (k := ?_)
    rintro ⟨A2, c2⟩ -
    dsimp only
    simp only [List.cons_append, List.nil_append]
    refine St.Q_some (by omega) (fun g1 c3 hg _ _ => ?_)
    simp only [Value.slice.injEq] at hg
    obtain ⟨rfl, -, rfl⟩ := hg
    try simp only [List.cons_append, List.nil_append]
    refine rr (rd_assign rfl) ?_
    refine run_nil ?_
    refine St.kp [(0, _), (5, _), (7, _)] ?_
    refine St.then_n ?_
    refine sr ?_
    refine rr (rd_move rfl) ?_
    refine rr (rd_move rfl) ?_
    refine rr (rd_ldr [_, _, _] rfl row69) ?_
    refine rr ((rd_indexAddr Try.underlying67 ei69 rfl rfl (by omega) (by omega)).eq (show _ = Value.pointer (some ⟨g1, 0 + i * 3, none⟩) by simp)) ?_
    refine r_stQ (L := L) (n := n) (c := c2) (T := 69) imC_len imC_one ⟨key, A1, c1, vb, 0⟩ i row69 (by omega) ?_
    refine run_nil ?_
    refine St.kp [(0, _)] ?_
    refine St.then_n ?_
    refine sr ?_
    refine rr (rd_move rfl) ?_
    refine rr (rd_assign rfl) ?_
    refine nx ?_
    refine do_ret ?_
    refine St.then_r ?_
    refine St.pack (Ps := [X, bytesO (.slice A1 vb.length c1) vb]) (by repeat (first | exact Pick.nil | apply Pick.cons (by repeat (first | with_reducible exact Sel.head | apply Sel.tail)))) ?_
    refine St.pack (Ps := [pts b1 9 [.string (strOf key)], pts b2 44 [.slice VA vb.length vc], V]) (by repeat (first | exact Pick.nil | apply Pick.cons (by repeat (first | with_reducible exact Sel.head | apply Sel.tail)))) ?_
    refine do_ret1 Try.results34 (res_tmp rfl) ?_
    intro w hw
    have hnl : G.length = n := by rw [← hG]; simp; omega
    refine ⟨((some ⟨g1, 0, none⟩, c2), L.set i ⟨key, A1, c1, vb, 0⟩, Sep [X, bytesO (.slice A1 vb.length c1) vb]), ⟨?_, fun x hx => ?_⟩, by rw [hnl], by rw [hnl]; exact hw.sb⟩
    · rw [show ps (L.set i ⟨key, A1, c1, vb, 0⟩) = (ps L).set i (lfI (key, vb)) by unfold ps; rw [List.map_set]; rfl, hps, ← List.map_set, set_eq _ hil, ← hG]
      rfl
    · rcases List.mem_or_eq_of_mem_set hx with hx | rfl
      · exact Vw.sep (hX x hx) .head
      · exact Vw.sep vw_bytes (.tail .head)
  · subst h18
    refine do_skip ?_
    refine St.then_n ?_
    refine do_seq ?_
    refine do_cut (fun _ : Option Addr × Nat => True) (fun y => [(4, .slice y.1 (n + 1) y.2)]) (fun y => [ownI (.slice y.1 (n + 1) y.2) (n + 1) (ins1 i ⟨key, A1, c1, vb, 0⟩ L), bytesO (.slice A1 vb.length c1) vb, pts b1 9 [.string (strOf key)], pts b2 44 [.slice VA vb.length vc], V, X, F]) (fun K hK => ?_) ?_
    · skip
      · refine do_draw [[1, 5, 6], [5, 6], [5, 6], [4, 5, 6], [5, 6], [6], []] (by kernel_rfl) rfl ?_
        refine ta 0 rfl (rd_move rfl) ?_
        refine ta 2 rfl (rd_move rfl) ?_
        refine ta 3 rfl (rd_ldr [_, _, _] rfl row69) ?_
        refine any_run2 (i := 1) (j := 4) (by kernel_rfl) rfl rfl ?_ ?_
        · refine rc (hs := cloneI_spec _ A n c L (Vw.sep hI (by repeat (first | with_reducible exact Sel.head | apply Sel.tail))) hn (by omega)) (k := ?_)
          rintro ⟨A2, c2⟩ -
          try simp only [List.cons_append, List.nil_append]
          refine nx ?_
          refine any_next (by apply bk 3 rfl (rd_ldr [_, _, _] rfl row69); apply bk 2 rfl (rd_move rfl); apply bd 0; exact .nil) ?_
          refine tr 4 ?_
          refine r_bs1 (f := imC) ⟨key, A1, c1, vb, 0⟩ (imC_len _) Try.underlying67 ei69 (by decide) (fun b30 => ?_)
          refine nx ?_
          refine any_next (by apply bd 3; apply bk 2 rfl (rd_move rfl); exact .nil) ?_
          refine tr 5 ?_
          refine rc (hs := insert_spec _ A2 n c2 b30 i L ⟨key, A1, c1, vb, 0⟩ (by omega) hn (by omega)) (k := ?_)
          rintro ⟨A3, c3⟩ -
          try simp only [List.cons_append, List.nil_append]
          refine nx ?_
          refine any_next (by apply bd 2; exact .nil) ?_
          refine ta 6 rfl (rd_assign rfl) ?_
          refine any_nil (by kernel_rfl) ?_
          refine St.then_n ?_
          exact St.sb (St.kq [(4, _)] (h := hK (A3, c3) trivial))
        rotate_left
        refine r_bs1 (f := imC) ⟨key, A1, c1, vb, 0⟩ (imC_len _) Try.underlying67 ei69 (by decide) (fun b30 => ?_)
        refine nx ?_
        refine any_next (by apply bd 3; apply bk 2 rfl (rd_move rfl); apply bk 0 rfl (rd_move rfl); exact .nil) ?_
        refine tr 1 ?_
        refine rc (hs := cloneI_spec _ A n c L (Vw.sep hI (by repeat (first | with_reducible exact Sel.head | apply Sel.tail))) hn (by omega)) (k := ?_)
        rintro ⟨A2, c2⟩ -
        try simp only [List.cons_append, List.nil_append]
        refine nx ?_
        refine any_next (by apply bk 2 rfl (rd_move rfl); apply bd 0; exact .nil) ?_
        refine tr 5 ?_
        refine rc (hs := insert_spec _ A2 n c2 b30 i L ⟨key, A1, c1, vb, 0⟩ (by omega) hn (by omega)) (k := ?_)
        rintro ⟨A3, c3⟩ -
        try simp only [List.cons_append, List.nil_append]
        refine nx ?_
        refine any_next (by apply bd 2; exact .nil) ?_
        refine ta 6 rfl (rd_assign rfl) ?_
        refine any_nil (by kernel_rfl) ?_
        refine St.then_n ?_
        exact St.sb (St.kq [(4, _)] (h := hK (A3, c3) trivial))
    rintro ⟨A3, c3⟩ -
    dsimp only
    refine do_ret ?_
    refine St.pack (Ps := [X, bytesO (.slice A1 vb.length c1) vb]) (by repeat (first | exact Pick.nil | apply Pick.cons (by repeat (first | with_reducible exact Sel.head | apply Sel.tail)))) ?_
    refine St.pack (Ps := [pts b1 9 [.string (strOf key)], pts b2 44 [.slice VA vb.length vc], V]) (by repeat (first | exact Pick.nil | apply Pick.cons (by repeat (first | with_reducible exact Sel.head | apply Sel.tail)))) ?_
    refine do_ret1 Try.results34 (res_tmp rfl) ?_
    intro w hw
    have hnl : G.length = n + 1 := by rw [← hG]; simp; omega
    refine ⟨((A3, c3), ins1 i ⟨key, A1, c1, vb, 0⟩ L, Sep [X, bytesO (.slice A1 vb.length c1) vb]), ⟨?_, fun x hx => ?_⟩, by rw [hnl], by rw [hnl]; exact hw.sb⟩
    · rw [show ps (ins1 i ⟨key, A1, c1, vb, 0⟩ L) = (ps L).take i ++ lfI (key, vb) :: (ps L).drop i by simp [ps, ins1, lfI], hps, ← List.map_take, ← List.map_drop, ← hG]
      simp
    · rcases List.mem_append.1 hx with hx | hx
      · exact Vw.sep (hX x (List.mem_of_mem_take hx)) .head
      · rcases List.mem_cons.1 hx with rfl | hx
        · exact Vw.sep vw_bytes (.tail .head)
        · exact Vw.sep (hX x (List.mem_of_mem_drop hx)) .head
/-- What comes of a change. -/
def ChR (S : PS) (k dep r : Nat) (g : List KV → List KV) (l : List KV) (y : (Option Addr × Nat) × Bool × PS × List Im × List (Nat × List KV)) : Prop :=
  (y.2.1 = true → ChOk S y.2.2.1 k dep r g l y.2.2.2.2 ∧ ps y.2.2.2.1 = y.2.2.2.2.map mdI ∧ nilV y.2.2.2.1) ∧ (y.2.1 = false → Ext S y.2.2.1 k ∧ y.2.2.1.fre = [] ∧ S.fre.length < 3 * (dep + 1))
abbrev chQ (t p d : Nat) (root : Int) (C : HP) (y : (Option Addr × Nat) × Bool × PS × List Im × List (Nat × List KV)) : List HP := [wrH y.2.1 (ownI (.slice y.1.1 y.2.2.2.1.length y.1.2) y.2.2.2.1.length y.2.2.2.1), treeO t p root, pagerO d p y.2.2.1, C]
abbrev chV (y : (Option Addr × Nat) × Bool × PS × List Im × List (Nat × List KV)) : Value := .tuple #[wrV y.2.1 y.1.1 y.2.2.2.1.length y.1.2, .int .i64 (wrE y.2.1)]
set_option maxHeartbeats 4000000 in
theorem change_leaf (bf : FuncId) (cap : List Value) (C : HP) (key : List UInt8) (g : List KV → List KV) (pre : List KV → Prop) (hg : GOk key g pre) (hby : ByOk bf cap C g pre) (hb : hasBody Try.prog bf = true)
    (F : HP) (t p d k : Nat) (root : Int) (S : PS) (hS : S.good k) (r i : Nat) (l : List KV) (hT : IsT S 0 r i l) (hs : KSrt l) (hp : pre l) :
    Spec Try.prog 57 [.pointer (some ⟨t, 0, none⟩), .int .i64 i, .string (strOf key), .func (.func bf) #[] cap.toArray] [treeO t p root, pagerO d p S, C] F (ChR S k 0 r g l) chV (chQ t p d root C) := by
  intro ω w hh
  refine enter Try.func57 rfl Try.ntmps57 rfl hh ?_
  simp only [List.cons_append, List.nil_append, argsB]
  have hT0 := hT
  have hok := hg.ok l hT.ok
  obtain ⟨hr, hN⟩ := hT
  have hl64 := hN.nd.len
  rw [List.length_map] at hl64
  have hgl := hg.len l
  refine sr ?_
  refine rr (rd_assign rfl) ?_
  refine rr (rd_assign rfl) ?_
  refine nx ?_
  refine sr ?_
  refine rr (rd_move rfl) ?_
  refine rr (rd_move rfl) ?_
  refine rc (hs := read_spec _ t p d i k root S hS.1 true (l.map lfI) hN) (k := ?_)
  rintro ⟨⟨A1, c1⟩, L1, X1⟩ ⟨hL1, hX1⟩
  dsimp only at hL1 hX1 ⊢
  have hn1 : L1.length = (l.map lfI).length := by rw [← hL1, List.length_map]
  rw [← hn1]
  try simp only [List.cons_append, List.nil_append]
  refine rr (rd_move rfl) ?_
  refine rr (rd_extract rfl rfl) ?_
  refine rr (rd_extract rfl rfl) ?_
  refine r_al zero105 fun b10 => ?_
  first | refine r_sa row105 ?_ | refine r_sm row105 ?_
  refine rr (rd_assign rfl) ?_
  refine run_nil ?_
  refine St.kp [(0, _), (2, _), (3, _), (10, _), (11, _)] ?_
  refine St.then_n ?_
  refine do_seq ?_
  refine sr ?_
  refine rr (rd_move rfl) ?_
  refine rr ((rd_ne rfl rfl).eq (show _ = Value.bool false by simp)) ?_
  refine nx ?_
  refine do_cond_f rfl ?_
  refine do_skip ?_
  refine St.then_n ?_
  refine sr ?_
  refine rr (rd_fa rfl fld105_1) ?_
  refine rr (rd_ld rfl row67) ?_
  refine rr (rd_assign rfl) ?_
  refine run_nil ?_
  refine St.kp [(0, _), (2, _), (3, _), (10, _), (12, _)] ?_
  refine St.then_n ?_
  refine do_seq ?_
  refine sr ?_
  refine rr (rd_fa rfl fld105_0) ?_
  refine rr (rd_ld rfl row4) ?_
  refine nx ?_
  refine do_cond_t rfl ?_
  refine do_region ?_
  refine rr (rd_move rfl) ?_
  refine rr (rd_move rfl) ?_
  refine rcv (f := bf) (cap := cap) (hs := hby _ X1 A1 L1.length c1 L1 l (Vw.sep (vw_Q (f := imC)) (by repeat (first | with_reducible exact Sel.head | apply Sel.tail))) rfl (by rw [hn1, List.length_map]; exact hl64) hL1 hs hX1 hp) (k := ?_) (hf := hb)
  rintro ⟨⟨A2, c2⟩, L2, X2⟩ ⟨hL2, hX2⟩
  dsimp only at hL2 hX2 ⊢
  simp only [List.cons_append, List.nil_append]
  have hn2 : L2.length = (g l).length := by have := congrArg List.length hL2; rwa [List.length_map, List.length_map] at this
  have hok2 : ∀ x ∈ L2, x.p.ok := fun x hx => by
    have h1 : x.p ∈ (g l).map lfI := hL2 ▸ List.mem_map_of_mem hx
    obtain ⟨y, hy, hxy⟩ := List.mem_map.1 h1
    rw [← hxy]; exact lfI_ok.2 (hok y hy)
  refine rr (rd_assign rfl) ?_
  refine run_nil ?_
  refine St.kp [(0, _), (10, _), (12, _)] ?_
  refine St.then_n ?_
  refine sr ?_
  refine rr (rd_move rfl) ?_
  refine rr (rd_move rfl) ?_
  refine rr (rd_fa rfl fld105_0) ?_
  refine rr (rd_ld rfl row4) ?_
  refine rc (hs := parts_spec _ true A2 (g l).length c2 L2 (Vw.sep (vw_Q (f := imC)) (by repeat (first | with_reducible exact Sel.head | apply Sel.tail))) hn2 (by omega) hok2) (k := ?_)
  rintro ⟨⟨A3, c3⟩, N⟩ ⟨hN3, hNl⟩
  dsimp only at hN3 hNl ⊢
  have hNp := parts_ps hN3
  have hNe := parts_encs hN3 hNl
  rw [hL2] at hNp hNe
  have hp2 := (partsB_ok (leaf := true) (l := (g l).map lfI) (fun x hx => by obtain ⟨y, hy, rfl⟩ := List.mem_map.1 hx; exact lfI_ok.2 (hok y hy)) (fun x hx => by obtain ⟨y, hy, rfl⟩ := List.mem_map.1 hx; rfl)).2
  have hpb := partsB_leaf (l := (g l).map lfI) (fun x hx => by obtain ⟨y, hy, rfl⟩ := List.mem_map.1 hx; exact lfI_ok.2 (hok y hy))
  rw [List.length_map] at hpb
  have hNn : N.length = (partsB true ((g l).map lfI)).length := by rw [← hNp, List.length_map]
  have hnd : ∀ y ∈ N, NdOk y.leaf (ps y.l) := fun y hy => by rw [hNl y hy]; exact hp2 _ (hNp ▸ List.mem_map_of_mem (f := fun y : Nm => ps y.l) hy)
  try simp only [List.cons_append, List.nil_append]
  refine rc (hs := written_spec _ t p d k root S hS N A3 N.length c3 rfl (by omega) (Vw.sep (vw_Q (f := ndC)) (by repeat (first | with_reducible exact Sel.head | apply Sel.tail))) (fun y hy => Vw.sep (vw_row hy) (by repeat (first | with_reducible exact Sel.head | apply Sel.tail))) (fun y hy x hx => Vw.sep (hX2 x (parts_mem hN3 hy x hx)) (by repeat (first | with_reducible exact Sel.head | apply Sel.tail))) hnd) (k := ?_)
  rintro ⟨A4, c4⟩ -
  dsimp only
  have hWk := wrAll_ok hS (encs N) (fun b hb => by obtain ⟨y, hy, rfl⟩ := List.mem_map.1 hb; exact nd_len (hnd y hy))
  rw [hNe] at hWk ⊢
  obtain ⟨⟨S1, P, ok⟩, hW⟩ : ∃ r, wrAll S ((partsB true ((g l).map lfI)).map (encN true)) = r := ⟨_, rfl⟩
  rw [hW] at hWk ⊢
  dsimp only
  try simp only [List.cons_append, List.nil_append]
  refine rr (rd_extract rfl rfl) ?_
  refine rr (rd_extract rfl rfl) ?_
  refine rr (rd_assign rfl) ?_
  refine rr (rd_assign rfl) ?_
  refine run_nil ?_
  refine St.kp [(8, _), (9, _)] ?_
  refine St.then_n ?_
  refine do_ret ?_
  refine do_ret2 Try.results57 (res_tmp rfl) (res_tmp rfl) ?_
  intro w hw
  have h3 := leaf3 hT0 hg
  cases ok with
  | false =>
    obtain ⟨n1, n2⟩ := hWk.no rfl
    have n3 := hWk.cnt
    dsimp only at n1 n2 n3
    rw [List.length_map] at n2
    rw [n1, List.length_nil] at n3
    exact ⟨((A4, c4), false, S1, [], []), ⟨(fun h => by cases h), fun _ => ⟨hWk.ext, n1, by omega⟩⟩, rfl, by dsimp only [wrH] at hw ⊢; exact hw.sb⟩
  | true =>
    obtain ⟨K, u1, u2, u3⟩ := ch_leaf hS hT0 hg hW
    have hPl : P.length = N.length := by have := hWk.yes rfl; rw [List.length_map, ← hNn] at this; exact this
    have hul : (upM N P).length = N.length := by rw [upM_len (by omega), hPl]
    refine ⟨((A4, c4), true, S1, upM N P, K), ⟨fun _ => ⟨u2, by rw [upM_ps, hNp, u1], upM_nil N P⟩, (fun h => by cases h)⟩, by simp only [chV, wrV, hul], ?_⟩
    dsimp only [wrH] at hw ⊢
    rw [hul]
    exact hw.sb
theorem vwLL3 {F : HP} {v : Value} {a b c : Value × List Im} (h : Vw F v 1 3 [a.1, b.1, c.1]) (ha : Vw F a.1 3 a.2.length (a.2.flatMap imC)) (hb : Vw F b.1 3 b.2.length (b.2.flatMap imC)) (hc : Vw F c.1 3 c.2.length (c.2.flatMap imC)) : VwLL F v [a, b, c] := ⟨h, fun y hy => by
  rcases List.mem_cons.1 hy with rfl | hy
  · exact ha
  · rcases List.mem_cons.1 hy with rfl | hy
    · exact hb
    · rw [List.mem_singleton.1 hy]; exact hc⟩
set_option maxHeartbeats 8000000 in
theorem change_mid (bf : FuncId) (cap : List Value) (C : HP) (key : List UInt8) (g : List KV → List KV) (pre : List KV → Prop) (hg : GOk key g pre) (dep : Nat)
    (ih : ∀ (F : HP) (t p d k : Nat) (root : Int) (S : PS), S.good k → ∀ (r i : Nat) (l : List KV), IsT S dep r i l → KSrt l → pre l → Spec Try.prog 57 [.pointer (some ⟨t, 0, none⟩), .int .i64 i, .string (strOf key), .func (.func bf) #[] cap.toArray] [treeO t p root, pagerO d p S, C] F (ChR S k dep r g l) chV (chQ t p d root C))
    (F : HP) (t p d k : Nat) (root : Int) (S : PS) (hS : S.good k) (r i : Nat) (l : List KV) (hT : IsT S (dep + 1) r i l) (hs : KSrt l) (hp : pre l) :
    Spec Try.prog 57 [.pointer (some ⟨t, 0, none⟩), .int .i64 i, .string (strOf key), .func (.func bf) #[] cap.toArray] [treeO t p root, pagerO d p S, C] F (ChR S k (dep + 1) r g l) chV (chQ t p d root C) := by
  intro ω w hh
  refine enter Try.func57 rfl Try.ntmps57 rfl hh ?_
  simp only [List.cons_append, List.nil_append, argsB]
  obtain ⟨K0, hr, hN, hK, hl⟩ := hT
  have hne : ∀ x ∈ K0, x.2 ≠ [] := fun x hx => by obtain ⟨r', h⟩ := hK x hx; exact h.ne
  have hl64 := hN.nd.len
  have hneK := hN.nd.ne
  rw [List.length_map] at hl64
  have hsr := kv_heads (hl ▸ hs) hne
  obtain ⟨j, hj⟩ : ∃ j, belowF (K0.map mdI) key = j := ⟨_, rfl⟩
  have hjl : j < K0.length := by have := belowF_lt (key := key) hneK; rwa [hj, List.length_map] at this
  have hx := List.getElem?_eq_getElem (l := K0) (i := j) hjl
  generalize K0[j]'_ = x at hx
  obtain ⟨b1, b2⟩ := below_loc (hl ▸ hs) hne hj hx
  obtain ⟨r1, hx1⟩ := hK x (List.mem_of_getElem? hx)
  have hK0 : kvs K0 = kvs (K0.take j) ++ x.2 ++ kvs (K0.drop (j + 1)) := by
    have : K0 = K0.take j ++ x :: K0.drop (j + 1) := by
      conv => lhs; rw [← List.take_append_drop j K0, List.drop_eq_getElem_cons hjl]
      rw [(List.getElem?_eq_some_iff.1 hx).2]
    conv => lhs; rw [this]
    rw [kvs_append, kvs_cons, List.append_assoc]
  have hs1 : KSrt x.2 := by
    have h1 : x.2.Sublist l := by
      rw [hl, hK0]
      exact List.Sublist.trans (List.sublist_append_right _ _) (List.sublist_append_left _ _)
    exact List.Pairwise.sublist h1 hs
  have hp1 : pre x.2 := (hg.loc (kvs (K0.take j)) x.2 (kvs (K0.drop (j + 1))) (hne x (List.mem_of_getElem? hx)) b1 b2).2 (by rw [← hK0, ← hl]; exact hp)
  refine sr ?_
  refine rr (rd_assign rfl) ?_
  refine rr (rd_assign rfl) ?_
  refine nx ?_
  refine sr ?_
  refine rr (rd_move rfl) ?_
  refine rr (rd_move rfl) ?_
  refine rc (hs := read_spec _ t p d i k root S hS.1 false (K0.map mdI) hN) (k := ?_)
  rintro ⟨⟨A1, c1⟩, L1, X1⟩ ⟨hL1, hX1⟩
  dsimp only at hL1 hX1 ⊢
  have hn1 : L1.length = K0.length := by have := congrArg List.length hL1; rwa [List.length_map, List.length_map] at this
  rw [List.length_map, ← hn1]
  try simp only [List.cons_append, List.nil_append]
  refine rr (rd_move rfl) ?_
  refine rr (rd_extract rfl rfl) ?_
  refine rr (rd_extract rfl rfl) ?_
  refine r_al zero105 fun b10 => ?_
  first | refine r_sa row105 ?_ | refine r_sm row105 ?_
  refine rr (rd_assign rfl) ?_
  refine run_nil ?_
  refine St.kp [(0, _), (2, _), (3, _), (10, _), (11, _)] ?_
  refine St.then_n ?_
  refine do_seq ?_
  refine sr ?_
  refine rr (rd_move rfl) ?_
  refine rr ((rd_ne rfl rfl).eq (show _ = Value.bool false by simp)) ?_
  refine nx ?_
  refine do_cond_f rfl ?_
  refine do_skip ?_
  refine St.then_n ?_
  refine sr ?_
  refine rr (rd_fa rfl fld105_1) ?_
  refine rr (rd_ld rfl row67) ?_
  refine rr (rd_assign rfl) ?_
  refine run_nil ?_
  refine St.kp [(0, _), (2, _), (3, _), (10, _), (12, _)] ?_
  refine St.then_n ?_
  refine do_seq ?_
  refine sr ?_
  refine rr (rd_fa rfl fld105_0) ?_
  refine rr (rd_ld rfl row4) ?_
  refine nx ?_
  refine do_cond_f rfl ?_
  refine sr ?_
  refine rr (rd_ldr [_, _] rfl row105) ?_
  refine rr (rd_move rfl) ?_
  refine rc (hs := below_spec _ false A1 L1.length c1 L1 key (Vw.sep (vw_Q (f := imC)) (by repeat (first | with_reducible exact Sel.head | apply Sel.tail))) rfl (by omega) (by rw [hL1]; exact hsr)) (k := ?_)
  rintro ⟨⟩ -
  rw [hL1, hj]
  try simp only [List.cons_append, List.nil_append]
  refine rr (rd_assign rfl) ?_
  refine run_nil ?_
  refine St.sl (P := ownI (.slice A1 L1.length c1) L1.length L1) (St.Q_some (by omega) (fun g1 c3 hg1 hc3 hm3 => ?_))
  simp only [Value.slice.injEq] at hg1
  obtain ⟨rfl, -, rfl⟩ := hg1
  have hxL := List.getElem?_eq_getElem (l := L1) (i := j) (by omega)
  generalize L1[j]'_ = xm at hxL
  have hxp : xm.p = mdI x := by
    have h1 := ps_at hxL
    rw [hL1, List.getElem?_map, hx] at h1
    exact (Option.some.inj h1).symm
  have hxc : xm.c = x.1 := congrArg It.c hxp
  refine St.kp [(0, _), (2, _), (3, _), (10, _), (12, _), (13, _)] ?_
  refine St.then_n ?_
  refine sr ?_
  refine rr (rd_move rfl) ?_
  refine rr (rd_move rfl) ?_
  refine rr (rd_move rfl) ?_
  refine rr ((rd_indexAddr Try.underlying67 ei69 rfl rfl (by omega) (by omega)).eq (show _ = Value.pointer (some ⟨g1, 0 + j * 3, none⟩) by simp)) ?_
  refine rr (rd_fa (off' := 0 + j * 3 + 2) rfl fld69_2 rfl) ?_
  refine rr (rd_ld rfl row3 (cellQ (L := L1) (i := j) (j := 2) (T := 69) (c := c1) (n := L1.length) imC_len (x := xm) (u := .int .i64 x.1) hxL (by decide) (by rw [← hxc]; rfl))) ?_
  refine rr (rd_move rfl) ?_
  refine rr (rd_move rfl) ?_
  refine rc (hs := ih _ t p d k root S hS r1 x.1 x.2 hx1 hs1 hp1) (k := ?_)
  rintro ⟨⟨A4, c4⟩, ok1, S1, L4, K1⟩ hR
  dsimp only [chV, chQ]
  try simp only [List.cons_append, List.nil_append]
  refine rr (rd_move rfl) ?_
  refine rr (rd_extract rfl rfl) ?_
  refine rr (rd_extract rfl rfl) ?_
  refine rr (rd_assign rfl) ?_
  refine rr (rd_assign rfl) ?_
  refine run_nil ?_
  refine St.kp [(0, _), (10, _), (12, _), (13, _), (14, _), (15, _)] ?_
  refine St.then_n ?_
  refine do_seq ?_
  refine sr ?_
  refine rr (rd_move rfl) ?_
  refine rr (rd_ne rfl rfl) ?_
  refine nx ?_
  first | refine do_condp rfl (fun h48 => ?_) (fun h48 => ?_) | refine do_cond rfl (fun h48 => ?_) (fun h48 => ?_)
  · have hok1 : ok1 = false := by cases ok1; rfl; exact absurd (show ((wrE true : Nat) : Int) = 0 from rfl) h48
    subst hok1
    obtain ⟨f1, f2, f3⟩ := hR.2 rfl
    try dsimp only at f1 f2 f3
    refine sr ?_
    refine rr (rd_move rfl) ?_
    refine rr (rd_assign rfl) ?_
    refine rr (rd_assign rfl) ?_
    refine run_nil ?_
    refine St.kp [(8, _), (9, _)] ?_
    refine St.then_n ?_
    refine do_ret ?_
    refine St.then_r ?_
    refine St.then_r ?_
    refine do_ret2 Try.results57 (res_tmp rfl) (res_tmp rfl) ?_
    intro w hw
    exact ⟨((none, 0), false, S1, [], []), ⟨(fun h => by cases h), fun _ => ⟨f1, f2, by (try dsimp only); omega⟩⟩, rfl, by (try dsimp only [wrH] at hw); (try dsimp only [wrH]); exact hw.sb⟩
  · have hok1 : ok1 = true := by cases ok1; exact absurd (show ((wrE false : Nat) : Int) ≠ 0 by decide) h48; rfl
    subst hok1
    obtain ⟨ch1, hL4, hn4⟩ := hR.1 rfl
    dsimp only at ch1 hL4 hn4
    dsimp only [wrH, wrV]
    have hk3 := ch1.k3
    have hl4 : L4.length = K1.length := by have := congrArg List.length hL4; rwa [List.length_map, List.length_map] at this
    have hg1 := ch1.ext.good hS
    have hvT : Vw (ownI (.slice (some ⟨g1, 0, none⟩) L1.length c1) L1.length L1) (.slice (subA (some ⟨g1, 0, none⟩) c1 0 3) (j - 0) (c1 - 0)) 3 (L1.take j).length ((L1.take j).flatMap imC) := by
      rw [show (L1.take j).length = j - 0 by rw [List.length_take]; omega, show (L1.take j).flatMap imC = ((L1.flatMap imC).drop (0 * 3)).take ((j - 0) * 3) by rw [Nat.zero_mul, List.drop_zero, Nat.sub_zero, flat_take imC_len]]
      exact Vw.sub (k := 3) (vw_Q (f := imC)) (i := 0) (j := j) (by decide) (Nat.zero_le _) (by omega)
    have hvD : Vw (ownI (.slice (some ⟨g1, 0, none⟩) L1.length c1) L1.length L1) (.slice (subA (some ⟨g1, 0, none⟩) c1 (j + 1) 3) (L1.length - (j + 1)) (c1 - (j + 1))) 3 (L1.drop (j + 1)).length ((L1.drop (j + 1)).flatMap imC) := by
      rw [List.length_drop, show (L1.drop (j + 1)).flatMap imC = ((L1.flatMap imC).drop ((j + 1) * 3)).take ((L1.length - (j + 1)) * 3) by rw [flat_drop imC_len, List.take_of_length_le (by rw [flat_len imC_len, List.length_drop]; exact Nat.le_refl _)]]
      exact Vw.sub (k := 3) (vw_Q (f := imC)) (i := j + 1) (j := L1.length) (by decide) (by omega) (Nat.le_refl _)
    obtain ⟨LN, hLN⟩ : ∃ LN, L1.take j ++ (L4 ++ L1.drop (j + 1)) = LN := ⟨_, rfl⟩
    have hpsN : ps LN = (K0.take j ++ K1 ++ K0.drop (j + 1)).map mdI := by
      rw [← hLN]
      show List.map Im.p _ = _
      rw [List.map_append, List.map_append, List.map_take, List.map_drop, List.map_append, List.map_append, List.map_take, List.map_drop, ← hL4, ← hL1, List.append_assoc]
    have hits : itsOf [((.slice (subA (some ⟨g1, 0, none⟩) c1 0 3) (j - 0) (c1 - 0) : Value), L1.take j), (.slice A4 L4.length c4, L4), (.slice (subA (some ⟨g1, 0, none⟩) c1 (j + 1) 3) (L1.length - (j + 1)) (c1 - (j + 1)), L1.drop (j + 1))] = LN := by rw [← hLN]; simp [itsOf]
    have hnew : ∀ y ∈ K0.take j ++ K1 ++ K0.drop (j + 1), ∃ r, IsT S1 dep r y.1 y.2 := fun y hy => by
      rcases List.mem_append.1 hy with hy | hy
      · rcases List.mem_append.1 hy with hy | hy
        · obtain ⟨r', h⟩ := hK y (List.mem_of_mem_take hy); exact ⟨r', h.ext ch1.ext⟩
        · exact ch1.kids y hy
      · obtain ⟨r', h⟩ := hK y (List.mem_of_mem_drop hy); exact ⟨r', h.ext ch1.ext⟩
    have hokN := mdI_ok hg1.1 hnew
    have hXN : okV X1 LN := fun x hx => by
      rw [← hLN] at hx
      rcases List.mem_append.1 hx with h | h
      · exact hX1 x (List.mem_of_mem_take h)
      · rcases List.mem_append.1 h with h | h
        · exact hn4.ok _ x h
        · exact hX1 x (List.mem_of_mem_drop h)
    have hlN : LN.length ≤ 66 := by
      rw [← hLN]
      simp only [List.length_append, List.length_take, List.length_drop]; omega
    refine do_skip ?_
    refine St.then_n ?_
    refine do_draw [[2, 8, 9, 10], [2, 8, 9, 10], [8, 9, 10], [8, 9, 10], [7, 8, 9, 10], [6, 7, 8, 9, 10], [7, 8, 9, 10], [8, 9, 10], [9, 10], [10], []] (by kernel_rfl) rfl ?_
    refine ta 0 rfl (rd_move rfl) ?_
    refine ta 1 rfl (rd_move rfl) ?_
    refine ta 2 rfl ((rd_slice (i := 0) (j := j) Try.underlying67 ei69 rfl rfl rfl (by omega) (by omega) (by omega)).eq (show _ = Value.slice (subA (some ⟨g1, 0, none⟩) c1 0 3) (j - 0) (c1 - 0) from rfl)) ?_
    refine ta 3 rfl (rd_move rfl) ?_
    refine ta 4 rfl (rd_move rfl) ?_
    refine ta 5 rfl (rd_move rfl) ?_
    refine ta 6 rfl (rd_addi rfl rfl) ?_
    refine ta 7 rfl ((rd_slice (i := (j : Int) + 1) (j := L1.length) Try.underlying67 ei69 rfl rfl rfl (by omega) (by omega) (by omega)).eq (show _ = Value.slice (subA (some ⟨g1, 0, none⟩) c1 (j + 1) 3) (L1.length - (j + 1)) (c1 - (j + 1)) from rfl)) ?_
    refine tr 8 ?_
    refine run_buildSlice (l := [(Operand.tmp 52), (Operand.tmp 53), (Operand.tmp 57)]) rfl (by decide) Try.underlying154 ei67 rfl rfl (by decide) (by decide) (fun b58 => ?_)
    simp only [joinL, cells_agg, cells_int, cells_bcell, cells_bool, cells_string, cells_pointer, cells_slice, cells_map, cells_func, List.cons_append, List.nil_append, List.append_nil]
    refine nx ?_
    refine any_next (by apply bd 7; apply bd 6; apply bd 5; apply bd 4; apply bd 3; apply bd 2; apply bd 1; apply bd 0; exact .nil) ?_
    refine tr 9 ?_
    refine rc (hs := concatI_spec _ (.slice (some ⟨b58, 0, none⟩) 3 3) [((.slice (subA (some ⟨g1, 0, none⟩) c1 0 3) (j - 0) (c1 - 0) : Value), L1.take j), (.slice A4 L4.length c4, L4), (.slice (subA (some ⟨g1, 0, none⟩) c1 (j + 1) 3) (L1.length - (j + 1)) (c1 - (j + 1)), L1.drop (j + 1))] (vwLL3 (Vw.sep (vw_pts (off := 0) (Nat.le_refl _) (by decide) rfl rfl) (by repeat (first | with_reducible exact Sel.head | apply Sel.tail))) (hvT.sep (by repeat (first | with_reducible exact Sel.head | apply Sel.tail))) (Vw.sep (vw_Q (f := imC)) (by repeat (first | with_reducible exact Sel.head | apply Sel.tail))) (hvD.sep (by repeat (first | with_reducible exact Sel.head | apply Sel.tail)))) (by rw [hits]; omega)) (k := ?_)
    rintro ⟨A5, c5⟩ -
    rw [hits]
    try simp only [List.cons_append, List.nil_append]
    refine nx ?_
    refine any_next (by exact .nil) ?_
    refine ta 10 rfl (rd_assign rfl) ?_
    refine any_nil (by kernel_rfl) ?_
    refine St.kp [(0, _), (10, _), (12, _)] ?_
    refine St.then_n ?_
    refine sr ?_
    refine rr (rd_move rfl) ?_
    refine rr (rd_move rfl) ?_
    refine rr (rd_fa rfl fld105_0) ?_
    refine rr (rd_ld rfl row4) ?_
    refine rc (hs := parts_spec _ false A5 LN.length c5 LN (Vw.sep (vw_Q (f := imC)) (by repeat (first | with_reducible exact Sel.head | apply Sel.tail))) rfl (by omega) (fun x hx => hokN _ (hpsN ▸ List.mem_map_of_mem hx))) (k := ?_)
    rintro ⟨⟨A6, c6⟩, N⟩ ⟨hN3, hNl⟩
    dsimp only at hN3 hNl ⊢
    have hNp := parts_ps hN3
    have hNe := parts_encs hN3 hNl
    rw [hpsN] at hNp hNe
    have hp2 := (partsB_ok (leaf := false) hokN (mdI_shp _)).2
    have hNn : N.length = (partsB false ((K0.take j ++ K1 ++ K0.drop (j + 1)).map mdI)).length := by rw [← hNp, List.length_map]
    have h3 := mid3 hg1.1 hN.nd hjl hk3 hnew
    have hnd : ∀ y ∈ N, NdOk y.leaf (ps y.l) := fun y hy => by rw [hNl y hy]; exact hp2 _ (hNp ▸ List.mem_map_of_mem (f := fun y : Nm => ps y.l) hy)
    try simp only [List.cons_append, List.nil_append]
    refine rc (hs := written_spec _ t p d k root S1 hg1 N A6 N.length c6 rfl (by omega) (Vw.sep (vw_Q (f := ndC)) (by repeat (first | with_reducible exact Sel.head | apply Sel.tail))) (fun y hy => Vw.sep (vw_row hy) (by repeat (first | with_reducible exact Sel.head | apply Sel.tail))) (fun y hy x hx => Vw.sep (hXN x (parts_mem hN3 hy x hx)) (by repeat (first | with_reducible exact Sel.head | apply Sel.tail))) hnd) (k := ?_)
    rintro ⟨A7, c7⟩ -
    dsimp only
    have hWk := wrAll_ok hg1 (encs N) (fun b hb => by obtain ⟨y, hy, rfl⟩ := List.mem_map.1 hb; exact nd_len (hnd y hy))
    rw [hNe] at hWk ⊢
    obtain ⟨⟨S2, P, ok⟩, hW⟩ : ∃ r, wrAll S1 ((partsB false ((K0.take j ++ K1 ++ K0.drop (j + 1)).map mdI)).map (encN false)) = r := ⟨_, rfl⟩
    rw [hW] at hWk ⊢
    dsimp only
    try simp only [List.cons_append, List.nil_append]
    refine rr (rd_extract rfl rfl) ?_
    refine rr (rd_extract rfl rfl) ?_
    refine rr (rd_assign rfl) ?_
    refine rr (rd_assign rfl) ?_
    refine run_nil ?_
    refine St.kp [(8, _), (9, _)] ?_
    refine St.then_n ?_
    refine do_ret ?_
    refine do_ret2 Try.results57 (res_tmp rfl) (res_tmp rfl) ?_
    intro w hw
    have hcnt := ch1.cnt
    cases ok with
    | false =>
      obtain ⟨n1, n2⟩ := hWk.no rfl
      have n3 := hWk.cnt
      dsimp only at n1 n2 n3
      rw [List.length_map] at n2
      rw [n1, List.length_nil] at n3
      exact ⟨((A7, c7), false, S2, [], []), ⟨(fun h => by cases h), fun _ => ⟨ch1.ext.trans hWk.ext, n1, by omega⟩⟩, rfl, by dsimp only [wrH] at hw ⊢; exact hw.sb⟩
    | true =>
      obtain ⟨K, u1, u2, u3⟩ := ch_mid hS hr hN.nd hK hl hs hg hj hx ch1 hW
      have hPl : P.length = N.length := by have := hWk.yes rfl; rw [List.length_map, ← hNn] at this; exact this
      have hul : (upM N P).length = N.length := by rw [upM_len (by omega), hPl]
      refine ⟨((A7, c7), true, S2, upM N P, K), ⟨fun _ => ⟨u2, by rw [upM_ps, hNp, u1], upM_nil N P⟩, (fun h => by cases h)⟩, by simp only [chV, wrV, hul], ?_⟩
      dsimp only [wrH] at hw ⊢
      rw [hul]
      exact hw.sb
theorem change_spec (bf : FuncId) (cap : List Value) (C : HP) (key : List UInt8) (g : List KV → List KV) (pre : List KV → Prop) (hg : GOk key g pre) (hby : ByOk bf cap C g pre) (hb : hasBody Try.prog bf = true) :
    ∀ (dep : Nat) (F : HP) (t p d k : Nat) (root : Int) (S : PS), S.good k → ∀ (r i : Nat) (l : List KV), IsT S dep r i l → KSrt l → pre l → Spec Try.prog 57 [.pointer (some ⟨t, 0, none⟩), .int .i64 i, .string (strOf key), .func (.func bf) #[] cap.toArray] [treeO t p root, pagerO d p S, C] F (ChR S k dep r g l) chV (chQ t p d root C)
  | 0, F, t, p, d, k, root, S, hS, r, i, l, hT, hs, hp => change_leaf bf cap C key g pre hg hby hb F t p d k root S hS r i l hT hs hp
  | dep + 1, F, t, p, d, k, root, S, hS, r, i, l, hT, hs, hp => change_mid bf cap C key g pre hg dep (change_spec bf cap C key g pre hg hby hb dep) F t p d k root S hS r i l hT hs hp
end Go.Proofs.Ytgeldfgcicjidaa
