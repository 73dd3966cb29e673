/-
  The law BtreeFull.
-/
import Derived.Test.YtgeldfgcicjidaaT21
namespace Go.Proofs.Ytgeldfgcicjidaa
open Go.RowKit
set_option linter.unusedSimpArgs false
set_option linter.unusedVariables false

section
variable {P : Program} {ω : Amb} {m : Nat} {ds : List Deferred} {Γ Γ' : List HP} {β : List (Nat × Value)} {t ty e T g n c : Nat} {pos : String} {af : Array Edge} {gd : Option (Nat × Bool)} {x : Operand} {r : Option Nat} {ops : Array Oper} {Q : Exit → Act → World → Prop} {rest : List Oper} {cs : List Value}
/-- A slice of bytes turned into its own type: its block gets a mark behind its last cell. -/
abbrev mrk (g T : Nat) (cs : List Value) : HP := blk g (.cells cs.toArray T (cs.length, cs.length + 1))
theorem r_convS {d : Nat} (ht : P.underlying t = some (.slice e)) (he : P.underlying e = some (.int .u8)) (kk : St ω m ds (mrk g T cs :: Γ') ((d, .slice (some ⟨g, 0, none⟩) n c) :: β) (Run P r ops Q rest))
    (hx : ev β x = some (.slice (some ⟨g, 0, none⟩) n c) := by exact rfl) (p : Sel (pts g T cs) Γ Γ' := by repeat (first | with_reducible exact Sel.head | apply Sel.tail)) (hw : wants ops β gd = some true := by exact rfl) (hd : d < m := by decide) :
    St ω m ds Γ β (Run P r ops Q (⟨some d, .convert t t x, ty, pos, af, gd⟩ :: rest)) := by
  refine St.sel p ?_
  intro a w hh hb
  have hh1 : Holds ω (blk g (.cells cs.toArray T (0, 0)) :: Γ') w := hh
  have hB : w.heap[g]? = some (.cells cs.toArray T (0, 0)) := hh1.block .head
  have hlt := heap_lt hB
  have hsh : w.shape? g = some (T, cs.toArray.size) := by unfold World.shape?; rw [hB]
  have hfz : w.freeze ⟨g, cs.toArray.size, none⟩ 1 = w.putObj g (.cells cs.toArray T (cs.length, cs.length + 1)) := by
    unfold World.freeze World.putObj
    rw [if_neg (by decide)]
    congr 1
    apply Array.ext
    · simp
    · intro i h1 h2
      rw [Array.getElem_modify, Array.getElem_setIfInBounds (by simpa using h2)]
      by_cases hi : g = i
      · subst hi
        rw [if_pos rfl, if_pos rfl]
        have : w.heap[g] = .cells cs.toArray T (0, 0) := by
          rw [Array.getElem?_eq_getElem hlt] at hB
          exact Option.some.inj hB
        rw [this]
        simp
      · rw [if_neg hi, if_neg hi]
  have hex : (execOp a.eval ⟨some d, .convert t t x, ty, pos, af, gd⟩).run P w = .ok (.value (.slice (some ⟨g, 0, none⟩) n c)) (w.putObj g (.cells cs.toArray T (cs.length, cs.length + 1))) := by
    rw [← hfz]
    simp [execOp, hb.eval hx, convert, run_underlying ht, run_underlying he, markStringish, hsh]
  exact wpListIn_ran (fun f => wd_fn r f) (wanted_of hb hw) ⟨by simp, .inl ⟨_, hex, rfl⟩⟩ (kk _ _ hh1.putObj (hb.put hd _))
end
theorem vwb_mrk (g T : Nat) (b : UInt8) (z : Int) (hz : bcell b = .int .u8 z) : VwB (mrk g T [.int .u8 z]) (.slice (some ⟨g, 0, none⟩) 1 1) [b] := fun h hh => by
  refine ⟨_, 1, rfl, Nat.le_refl 1, by decide, rfl, fun _ => ⟨g, 0, _, T, _, rfl, hh, fun j u hu => ?_⟩⟩
  rw [Nat.zero_add, ← hz]
  rw [show ([bcell b] : List Value).toArray[j]? = ([bcell b] : List Value)[j]? from List.getElem?_toArray ..]
  exact hu
/-- A call of a script in memory. -/
structure Ob where
  kind : Int
  k : List UInt8
  A : Option Addr
  cp : Nat
  b : List UInt8
  n : Int
  lA : Option Addr
  lc : Nat
  l : List Pm
def obC (x : Ob) : List Value := [.int .i64 x.kind, .string (strOf x.k), .slice x.A x.b.length x.cp, .int .i64 x.n, .slice x.lA x.l.length x.lc]
theorem obC_len (x : Ob) : (obC x).length = 5 := rfl
theorem rt_full {S : PS} {k dep r : Nat} {g : List KV → List KV} {l : List KV} {root : Int} {y : Bool × PS × Int} (h : RtR S k dep r g l root y) (hf : S.fre = []) (hg : g l ≠ []) : ∃ S', y = (false, S', root) ∧ Ext S S' k ∧ S'.fre = [] := by
  obtain ⟨ok, S', root'⟩ := y
  cases ok with
  | true => have := (h.1 rfl).dn hg; rw [hf] at this; exact absurd this (Nat.not_lt_zero _)
  | false => obtain ⟨h1, h2, -, h3⟩ := h.2 rfl; dsimp only at h1 h2 h3; subst h3; exact ⟨S', rfl, h1, h2⟩
theorem put_ne (key v : List UInt8) (l : List KV) : putL key v l ≠ [] := by unfold putL; simp
set_option maxHeartbeats 8000000 in
theorem btreeFull_law (w : World) (A : Option Addr) (n c : Nat) (L : List Pm) (hV : Vw (kept w) (.slice A n c) 3 n (L.flatMap prC)) (hX : ∀ x ∈ L, VwB (kept w) x.v x.b) (hn : L.length = n)
    (B : Option Addr) (nm cm : Nat) (M : List Ob) (hVM : Vw (kept w) (.slice B nm cm) 5 nm (M.flatMap obC)) (hXM : ∀ x ∈ M, VwB (kept w) (.slice x.A x.b.length x.cp) x.b) (hnM : M.length = nm) :
    Calls Try.prog 4 #[.slice A n c, .slice B nm cm] w fun e w' => e = .returned (.bool true) ∧ Fr nowhere w w' := by
  refine enter (vs := [.slice A n c, .slice B nm cm]) Try.func4 rfl Try.ntmps4 rfl (Holds.init w) ?_
  simp only [argsB]
  refine St.vw hVM (by repeat (first | with_reducible exact Sel.head | apply Sel.tail)) (fun A0 c0 hv0 _ hcm _ => ?_)
  cases hv0
  have hnmx : nm ≤ 9223372036854775807 := by simp only [maxLen] at hcm; omega
  refine sr ?_
  refine rr (rd_assign rfl) ?_
  refine nx ?_
  refine do_seq ?_
  refine do_seq ?_
  obtain ⟨rB, hrb⟩ : ∃ rB, riseB L = rB := ⟨_, rfl⟩
  refine do_cut (fun _ : Unit => True) (fun _ => [(0, .slice A n c), (1, .slice B nm cm), (20, .bool (!rB || decide ((30 : Int) < n)))]) (fun _ => [kept w]) (fun K hK => ?_) ?_
  · cases rB
    · refine do_region ?_
      refine rr (rd_move rfl) ?_
      refine rc (hs := rising_spec _ A n c L (Vw.sep hV (by repeat (first | with_reducible exact Sel.head | apply Sel.tail))) hn) (k := ?_)
      rintro ⟨⟩ -
      rw [hrb]
      try simp only [List.cons_append, List.nil_append]
      refine rr (rd_not rfl) ?_
      refine rr (rd_move rfl) ?_
      first | refine sk ?_ | (refine rr (rd_move rfl) ?_)
      first | refine sk ?_ | (refine rr (rd_len Try.underlying22 rfl) ?_)
      first | refine sk ?_ | (refine rr (rd_gt rfl rfl) ?_)
      refine rr (rd_pick rfl rfl) ?_
      refine run_nil ?_
      refine St.kp [(0, _), (1, _), (20, _)] ?_
      refine St.then_n ?_
      exact St.sb (St.kq [(0, _), (1, _), (20, _)] (h := hK () trivial))
    · refine do_region ?_
      refine rr (rd_move rfl) ?_
      refine rc (hs := rising_spec _ A n c L (Vw.sep hV (by repeat (first | with_reducible exact Sel.head | apply Sel.tail))) hn) (k := ?_)
      rintro ⟨⟩ -
      rw [hrb]
      try simp only [List.cons_append, List.nil_append]
      refine rr (rd_not rfl) ?_
      refine rr (rd_move rfl) ?_
      first | refine sk ?_ | (refine rr (rd_move rfl) ?_)
      first | refine sk ?_ | (refine rr (rd_len Try.underlying22 rfl) ?_)
      first | refine sk ?_ | (refine rr (rd_gt rfl rfl) ?_)
      refine rr (rd_pick rfl rfl) ?_
      refine run_nil ?_
      refine St.kp [(0, _), (1, _), (20, _)] ?_
      refine St.then_n ?_
      exact St.sb (St.kq [(0, _), (1, _), (20, _)] (h := hK () trivial))
  rintro ⟨⟩ -
  first | refine do_condp rfl (fun h20 => ?_) (fun h20 => ?_) | refine do_cond rfl (fun h20 => ?_) (fun h20 => ?_)
  · refine sr ?_
    refine rc (hs := known_spec _) (k := ?_)
    rintro ⟨⟩ -
    try simp only [List.cons_append, List.nil_append]
    refine rr (rd_assign rfl) ?_
    refine run_nil ?_
    refine St.kp [(4, _)] ?_
    refine St.then_n ?_
    refine do_ret ?_
    refine St.then_r ?_
    refine do_ret1 Try.results4 (res_tmp rfl) ?_
    intro w hw
    exact ⟨rfl, hw.to_fr (by repeat (first | with_reducible exact Sel.head | apply Sel.tail))⟩
  · have h22 : rB = true ∧ n ≤ 30 := by
      cases rB
      · simp at h20
      · simp at h20; exact ⟨rfl, by omega⟩
    have hR := riseB_t.1 (hrb.trans h22.1)
    have hn30 := h22.2
    refine do_skip ?_
    refine St.then_n ?_
    refine sr ?_
    refine rc (hs := pages_spec _ 60 (by decide) (by decide)) (k := ?_)
    rintro ⟨d, p⟩ -
    try simp only [List.cons_append, List.nil_append]
    refine rr (rd_move rfl) ?_
    refine rr (rd_extract rfl rfl) ?_
    refine rr (rd_extract rfl rfl) ?_
    refine rr (rd_assign rfl) ?_
    refine rr (rd_assign rfl) ?_
    refine run_nil ?_
    refine St.kp [(0, _), (1, _), (6, _)] ?_
    refine St.then_n ?_
    refine do_seq ?_
    refine sr ?_
    refine rr (rd_move rfl) ?_
    refine rr (rd_ptr_eq_nil Try.underlying26 rfl rfl) ?_
    refine nx ?_
    refine do_cond_f rfl ?_
    refine do_skip ?_
    refine St.then_n ?_
    refine sr ?_
    refine rr (rd_move rfl) ?_
    refine rr (rd_move rfl) ?_
    refine rc (hs := load_spec _ p d 62 (pg0 60) (pg0_good (by decide)) A n c L (Vw.sep hV (by repeat (first | with_reducible exact Sel.head | apply Sel.tail))) (fun x hx => Vw.sep (hX x hx) (by repeat (first | with_reducible exact Sel.head | apply Sel.tail))) hn hR (by omega) (by rw [pg0_fre _ (by decide)]; omega)) (k := ?_)
    rintro ⟨t, S1, rt⟩ hLd
    dsimp only at hLd ⊢
    have hg1 := hLd.ext.good (pg0_good (by decide))
    have hf1 := ext_fre hLd.ext
    rw [pg0_fre _ (by decide)] at hf1
    obtain ⟨dep, r, hT, -⟩ := hLd.tree
    have hms := hR.srt
    have hml : (L.map Pm.kv).length = n := by rw [List.length_map, hn]
    try simp only [List.cons_append, List.nil_append]
    refine rr (rd_move rfl) ?_
    refine rr (rd_extract rfl rfl) ?_
    refine rr (rd_extract rfl rfl) ?_
    refine rr (rd_assign rfl) ?_
    refine rr (rd_assign rfl) ?_
    refine run_nil ?_
    refine St.kp [(0, _), (1, _), (6, _), (7, _), (8, _)] ?_
    refine St.then_n ?_
    refine do_seq ?_
    refine sr ?_
    refine rr (rd_move rfl) ?_
    refine rr ((rd_ne rfl rfl).eq (show _ = Value.bool false from rfl)) ?_
    refine rr (rd_move rfl) ?_
    first | refine sk ?_ | (refine rr (rd_move rfl) ?_)
    first | refine sk ?_ | (refine rr (rd_ptr_eq_nil Try.underlying29 rfl rfl) ?_)
    refine rr (rd_pick rfl rfl) ?_
    refine run_nil ?_
    refine St.kp [(0, _), (1, _), (6, _), (7, _), (39, _)] ?_
    refine St.then_n ?_
    refine do_cond_f rfl ?_
    refine do_skip ?_
    refine St.then_n ?_
    refine do_seq ?_
    refine sr ?_
    refine rr (rd_assign rfl) ?_
    refine nx ?_
    refine do_block ?_
    refine do_lp (fun y : Nat × PS => y.1 ≤ 60 ∧ Ext S1 y.2 62 ∧ y.2.fre.length + y.1 ≤ 60) (fun y => [(0, .slice A n c), (1, .slice B nm cm), (6, .pointer (some ⟨p, 0, none⟩)), (7, .pointer (some ⟨t, 0, none⟩)), (9, .int .i64 y.1)]) (fun y => [treeO t p rt, pagerO d p y.2, kept w]) (fun y => 60 - y.1) (0, S1) ⟨Nat.zero_le _, Ext.refl _ _, hf1⟩ ?_
    rintro ⟨i, S2⟩ ⟨hi, he2, hf2⟩
    dsimp only at hi he2 hf2 ⊢
    have hg2 := he2.good hg1
    have hN2 : S2.n ≤ 4096 := by have := hg2.1.nk; have := hg2.1.k4; omega
    obtain ⟨tI, htI⟩ : ∃ tI, decide ((i : Int) < 60) = tI := ⟨_, rfl⟩
    refine do_seq ?_
    refine do_seq ?_
    refine do_cut (fun _ : Unit => True) (fun _ => [(0, .slice A n c), (1, .slice B nm cm), (6, .pointer (some ⟨p, 0, none⟩)), (7, .pointer (some ⟨t, 0, none⟩)), (9, .int .i64 i), (46, .bool (tI && decide ((0 : Int) < S2.fre.length)))]) (fun _ => [treeO t p rt, pagerO d p S2, kept w]) (fun K hK => ?_) ?_
    · cases tI
      · refine do_region ?_
        refine rr (rd_move rfl) ?_
        refine rr ((rd_lt rfl rfl).eq (congrArg Value.bool htI)) ?_
        refine rr (rd_move rfl) ?_
        first | refine sk ?_ | (refine rr (rd_move rfl) ?_)
        first
          | refine sk ?_
          | (refine rc (hs := free_spec _ d p S2 hN2 hg2.1.is4) (k := ?_)
             rintro ⟨⟩ -
             try simp only [List.cons_append, List.nil_append])
        first | refine sk ?_ | (refine rr (rd_gt rfl rfl) ?_)
        refine rr (rd_pick rfl rfl) ?_
        refine nx ?_
        exact St.sb (St.kq [(0, _), (1, _), (6, _), (7, _), (9, _), (46, _)] (h := hK () trivial))
      · refine do_region ?_
        refine rr (rd_move rfl) ?_
        refine rr ((rd_lt rfl rfl).eq (congrArg Value.bool htI)) ?_
        refine rr (rd_move rfl) ?_
        first | refine sk ?_ | (refine rr (rd_move rfl) ?_)
        first
          | refine sk ?_
          | (refine rc (hs := free_spec _ d p S2 hN2 hg2.1.is4) (k := ?_)
             rintro ⟨⟩ -
             try simp only [List.cons_append, List.nil_append])
        first | refine sk ?_ | (refine rr (rd_gt rfl rfl) ?_)
        refine rr (rd_pick rfl rfl) ?_
        refine nx ?_
        exact St.sb (St.kq [(0, _), (1, _), (6, _), (7, _), (9, _), (46, _)] (h := hK () trivial))
    rintro ⟨⟩ -
    first | refine do_condp rfl (fun h46 => ?_) (fun h46 => ?_) | refine do_cond rfl (fun h46 => ?_) (fun h46 => ?_)
    · have hfp : i < 60 ∧ 0 < S2.fre.length := by rw [← htI] at h46; simp at h46; omega
      obtain ⟨q, tl, hq⟩ : ∃ q tl, S2.fre = q :: tl := by
        cases hh2 : S2.fre with
        | nil => rw [hh2] at hfp; exact absurd hfp.2 (Nat.lt_irrefl 0)
        | cons q tl => exact ⟨q, tl, rfl⟩
      have hew := Ext.wr (b := [120]) hg2.1 hq (by decide)
      have hwf : (S2.wr q [120]).fre.length + (i + 1) ≤ 60 := by
        have h3 := fre_lt (S := S2) (by rw [hq]; exact List.mem_cons_self)
        rw [fre_wr (by have := hg2.1.is4; omega) hq]
        rw [hq, List.length_cons] at hf2; omega
      refine do_skip ?_
      refine St.then_n ?_
      refine do_seq ?_
      refine do_block ?_
      refine sr ?_
      refine rr (rd_move rfl) ?_
      refine run_buildSlice (l := [(Operand.const (Value.int IntKind.u8 120))]) rfl (by decide) Try.underlying44 ei5 rfl rfl (by decide) (by decide) (fun b51 => ?_)
      simp only [joinL, cells_agg, cells_int, cells_bcell, cells_bool, cells_string, cells_pointer, cells_slice, cells_map, cells_func, List.cons_append, List.nil_append, List.append_nil]
      refine r_convS Try.underlying44 Try.underlying5 (T := 5) (cs := [.int .u8 120]) ?_
      refine rc (hs := pgWrite_spec _ d p 62 S2 hg2.1 q tl hq (by have := hg2.2; omega) (.slice (some ⟨b51, 0, none⟩) 1 1) [120] (Vw.sep (vwb_mrk b51 5 120 120 rfl) (by repeat (first | with_reducible exact Sel.head | apply Sel.tail))) (by decide)) (k := ?_)
      rintro ⟨⟩ -
      try simp only [List.cons_append, List.nil_append]
      refine rr (rd_move rfl) ?_
      refine rr (rd_extract rfl rfl) ?_
      refine rr (rd_extract rfl rfl) ?_
      refine rr (rd_assign rfl) ?_
      refine rr (rd_assign rfl) ?_
      refine run_nil ?_
      refine St.kp [(0, _), (1, _), (6, _), (7, _), (9, _), (11, _)] ?_
      refine St.then_n ?_
      refine sr ?_
      refine rr (rd_move rfl) ?_
      refine rr ((rd_ne rfl rfl).eq (show _ = Value.bool false from rfl)) ?_
      refine nx ?_
      refine do_cond_f rfl ?_
      refine do_skip ?_
      refine St.blk_n ?_
      refine St.then_n ?_
      refine do_region ?_
      refine rr (rd_move rfl) ?_
      refine rr (rd_addi rfl rfl) ?_
      refine rr (rd_assign rfl) ?_
      refine run_nil ?_
      refine St.kp [(0, _), (1, _), (6, _), (7, _), (9, _)] ?_
      refine St.then_n ?_
      exact loop_bk (i + 1, S2.wr q [120]) ⟨by dsimp only; omega, he2.trans hew, hwf⟩ (hμ := by dsimp only; omega)
    · have hf0 : S2.fre = [] := by
        cases hq2 : S2.fre with
        | nil => rfl
        | cons q tl =>
          rw [hq2, List.length_cons] at hf2
          rw [hq2, List.length_cons, ← htI, decide_eq_true (by omega), decide_eq_true (by omega)] at h46
          cases h46
      refine do_exit ?_
      refine St.then_x ?_
      refine St.then_x ?_
      refine St.blk_s ?_
      refine St.then_n ?_
      refine do_seq ?_
      refine sr ?_
      refine rr (rd_assign rfl) ?_
      refine nx ?_
      refine do_block ?_
      refine do_lp (fun y : Nat × PS => y.1 ≤ nm ∧ Ext S1 y.2 62 ∧ y.2.fre = []) (fun y => [(0, .slice A n c), (1, .slice B nm cm), (6, .pointer (some ⟨p, 0, none⟩)), (7, .pointer (some ⟨t, 0, none⟩)), (12, .int .i64 y.1)]) (fun y => [treeO t p rt, pagerO d p y.2, kept w]) (fun y => nm - y.1) (0, S2) ⟨Nat.zero_le _, he2, hf0⟩ ?_
      rintro ⟨j, S3⟩ ⟨hj, he3, hf3⟩
      dsimp only at hj he3 hf3 ⊢
      have hg3 := he3.good hg1
      have hN3 : S3.n ≤ 4096 := by have := hg3.1.nk; have := hg3.1.k4; omega
      obtain ⟨tJ, htJ⟩ : ∃ tJ, decide ((j : Int) < nm) = tJ := ⟨_, rfl⟩
      refine do_seq ?_
      refine do_seq ?_
      refine do_cut (fun _ : Unit => True) (fun _ => [(0, .slice A n c), (1, .slice B nm cm), (6, .pointer (some ⟨p, 0, none⟩)), (7, .pointer (some ⟨t, 0, none⟩)), (12, .int .i64 j), (65, .bool (tJ && decide ((j : Int) < 20)))]) (fun _ => [treeO t p rt, pagerO d p S3, kept w]) (fun K hK => ?_) ?_
      · cases tJ
        · refine do_region ?_
          refine rr (rd_move rfl) ?_
          refine rr (rd_move rfl) ?_
          refine rr (rd_len Try.underlying40 rfl) ?_
          refine rr ((rd_lt rfl rfl).eq (congrArg Value.bool htJ)) ?_
          refine rr (rd_move rfl) ?_
          first | refine sk ?_ | (refine rr (rd_move rfl) ?_)
          first | refine sk ?_ | (refine rr (rd_lt rfl rfl) ?_)
          refine rr (rd_pick rfl rfl) ?_
          refine run_nil ?_
          refine St.kp [(0, _), (1, _), (6, _), (7, _), (12, _), (63, _), (64, _), (65, _)] ?_
          refine St.then_n ?_
          exact St.sb (St.kq [(0, _), (1, _), (6, _), (7, _), (12, _), (65, _)] (h := hK () trivial))
        · refine do_region ?_
          refine rr (rd_move rfl) ?_
          refine rr (rd_move rfl) ?_
          refine rr (rd_len Try.underlying40 rfl) ?_
          refine rr ((rd_lt rfl rfl).eq (congrArg Value.bool htJ)) ?_
          refine rr (rd_move rfl) ?_
          first | refine sk ?_ | (refine rr (rd_move rfl) ?_)
          first | refine sk ?_ | (refine rr (rd_lt rfl rfl) ?_)
          refine rr (rd_pick rfl rfl) ?_
          refine run_nil ?_
          refine St.kp [(0, _), (1, _), (6, _), (7, _), (12, _), (63, _), (64, _), (65, _)] ?_
          refine St.then_n ?_
          exact St.sb (St.kq [(0, _), (1, _), (6, _), (7, _), (12, _), (65, _)] (h := hK () trivial))
      rintro ⟨⟩ -
      first | refine do_condp rfl (fun h65 => ?_) (fun h65 => ?_) | refine do_cond rfl (fun h65 => ?_) (fun h65 => ?_)
      · have hjl : j < nm := by rw [← htJ] at h65; simp at h65; omega
        have hx := List.getElem?_eq_getElem (l := M) (i := j) (by omega)
        have hxm := List.mem_of_getElem? hx
        generalize M[j]'_ = x at hx hxm
        have hxv := hXM x hxm
        obtain ⟨xkind, xk, xA, xc, xb, xn, xlA, xlc, xl⟩ := x
        dsimp only at hxv
        obtain ⟨oB, hoB⟩ : ∃ oB, decide (0 < xk.length ∧ xk.length ≤ 24 ∧ xb.length ≤ 80) = oB := ⟨_, rfl⟩
        refine St.vw_some hVM (by repeat (first | with_reducible exact Sel.head | apply Sel.tail)) (by omega) (fun g of hg _ _ => ?_)
        subst hg
        refine do_skip ?_
        refine St.then_n ?_
        refine do_seq ?_
        refine do_block ?_
        refine do_seq ?_
        refine do_cut (fun S4 : PS => Ext S3 S4 62 ∧ S4.fre = []) (fun _ => [(0, .slice A n c), (1, .slice (some ⟨g, of, none⟩) nm cm), (6, .pointer (some ⟨p, 0, none⟩)), (7, .pointer (some ⟨t, 0, none⟩)), (12, .int .i64 j), (93, .bool false)]) (fun S4 => [treeO t p rt, pagerO d p S4, kept w]) (fun K hK => ?_) ?_
        · cases oB
          · refine do_draw [[2, 3, 4, 10, 11, 12, 13, 14, 15, 16, 17, 18, 19, 20, 21, 22, 23, 24, 25], [2, 3, 4, 10, 11, 12, 13, 14, 15, 16, 17, 18, 19, 20, 21, 22, 23, 24, 25], [3, 4, 10, 11, 12, 13, 14, 15, 16, 17, 18, 19, 20, 21, 22, 23, 24, 25], [4, 10, 11, 12, 13, 14, 15, 16, 17, 18, 19, 20, 21, 22, 23, 24, 25], [10, 11, 12, 13, 14, 15, 16, 17, 18, 19, 20, 21, 22, 23, 24, 25], [7, 8, 9, 10, 11, 12, 13, 14, 15, 16, 17, 18, 19, 20, 21, 22, 23, 24, 25], [7, 8, 9, 10, 11, 12, 13, 14, 15, 16, 17, 18, 19, 20, 21, 22, 23, 24, 25], [8, 9, 10, 11, 12, 13, 14, 15, 16, 17, 18, 19, 20, 21, 22, 23, 24, 25], [9, 10, 11, 12, 13, 14, 15, 16, 17, 18, 19, 20, 21, 22, 23, 24, 25], [10, 11, 12, 13, 14, 15, 16, 17, 18, 19, 20, 21, 22, 23, 24, 25], [11, 12, 13, 14, 15, 16, 17, 18, 19, 20, 21, 22, 23, 24, 25], [12, 13, 14, 15, 16, 17, 18, 19, 20, 21, 22, 23, 24, 25], [23, 24, 25], [15, 16, 17, 23, 24, 25], [15, 16, 17, 23, 24, 25], [16, 17, 23, 24, 25], [17, 23, 24, 25], [23, 24, 25], [20, 21, 22, 23, 24, 25], [20, 21, 22, 23, 24, 25], [21, 22, 23, 24, 25], [22, 23, 24, 25], [23, 24, 25], [24, 25], [25], []] (by kernel_rfl) rfl ?_
            refine ta 0 rfl (rd_move rfl) ?_
            refine ta 1 rfl (rd_move rfl) ?_
            refine ta 2 rfl ((rd_indexAddr Try.underlying40 ei47 rfl rfl (by omega) (by omega)).eq (show _ = Value.pointer (some ⟨g, of + j * 5, none⟩) by simp)) ?_
            refine ta 3 rfl (rd_fa (off' := of + (j * 5 + 1)) rfl fld47_1 (by omega)) ?_
            refine ta 4 rfl (rd_ld rfl row9 (Vw.cells1 (k := 5) hVM (by repeat (first | with_reducible exact Sel.head | apply Sel.tail)) (by omega) (flat_cell obC_len hx (j := 1) (by decide) rfl))) ?_
            refine ta 5 rfl (rd_move rfl) ?_
            refine ta 6 rfl (rd_move rfl) ?_
            refine ta 7 rfl ((rd_indexAddr Try.underlying40 ei47 rfl rfl (by omega) (by omega)).eq (show _ = Value.pointer (some ⟨g, of + j * 5, none⟩) by simp)) ?_
            refine ta 8 rfl (rd_fa (off' := of + (j * 5 + 2)) rfl fld47_2 (by omega)) ?_
            refine ta 9 rfl (rd_ld rfl row44 (Vw.cells1 (k := 5) hVM (by repeat (first | with_reducible exact Sel.head | apply Sel.tail)) (by omega) (flat_cell obC_len hx (j := 2) (by decide) rfl))) ?_
            refine tr 10 ?_
            refine rc (hs := right_spec _ xk xA xb.length xc) (k := ?_)
            rintro ⟨⟩ -
            rw [hoB]
            try simp only [List.cons_append, List.nil_append]
            refine nx ?_
            refine any_next (by apply bd 9; apply bd 8; apply bd 7; apply bd 6; apply bd 5; apply bd 4; apply bd 3; apply bd 2; apply bd 1; apply bd 0; exact .nil) ?_
            refine ta 11 rfl (rd_move rfl) ?_
            first | refine ts 12 ?_ | refine ta 12 rfl (rd_move rfl) ?_
            first | refine ts 13 ?_ | refine ta 13 rfl (rd_move rfl) ?_
            first | refine ts 14 ?_ | refine ta 14 rfl (rd_move rfl) ?_
            first | refine ts 15 ?_ | refine ta 15 rfl ((rd_indexAddr Try.underlying40 ei47 rfl rfl (by omega) (by omega)).eq (show _ = Value.pointer (some ⟨g, of + j * 5, none⟩) by simp)) ?_
            first | refine ts 16 ?_ | refine ta 16 rfl (rd_fa (off' := of + (j * 5 + 1)) rfl fld47_1 (by omega)) ?_
            first | refine ts 17 ?_ | refine ta 17 rfl (rd_ld rfl row9 (Vw.cells1 (k := 5) hVM (by repeat (first | with_reducible exact Sel.head | apply Sel.tail)) (by omega) (flat_cell obC_len hx (j := 1) (by decide) rfl))) ?_
            first | refine ts 18 ?_ | refine ta 18 rfl (rd_move rfl) ?_
            first | refine ts 19 ?_ | refine ta 19 rfl (rd_move rfl) ?_
            first | refine ts 20 ?_ | refine ta 20 rfl ((rd_indexAddr Try.underlying40 ei47 rfl rfl (by omega) (by omega)).eq (show _ = Value.pointer (some ⟨g, of + j * 5, none⟩) by simp)) ?_
            first | refine ts 21 ?_ | refine ta 21 rfl (rd_fa (off' := of + (j * 5 + 2)) rfl fld47_2 (by omega)) ?_
            first | refine ts 22 ?_ | refine ta 22 rfl (rd_ld rfl row44 (Vw.cells1 (k := 5) hVM (by repeat (first | with_reducible exact Sel.head | apply Sel.tail)) (by omega) (flat_cell obC_len hx (j := 2) (by decide) rfl))) ?_
            refine tr 23 ?_
            first
              | refine sk ?_
              | (refine rc (hs := btPut_spec _ t p d 62 rt S3 hg3 dep r (L.map Pm.kv) (hT.ext he3) hms xk xb xA xc (Vw.sep hxv (by repeat (first | with_reducible exact Sel.head | apply Sel.tail))) (by obtain ⟨o1, o2, o3⟩ := of_decide_eq_true hoB; exact ⟨o1, o2, o3⟩)) (k := ?_)
                 rintro y91 hy91
                 obtain ⟨S4, rfl, he4, hf4⟩ := rt_full hy91 hf3 (put_ne _ _ _)
                 dsimp only
                 try simp only [List.cons_append, List.nil_append])
            refine nx ?_
            refine any_next (by (try (apply bd 22)); (try (apply bd 21)); (try (apply bd 20)); (try (apply bd 19)); (try (apply bd 18)); (try (apply bd 17)); (try (apply bd 16)); (try (apply bd 15)); (try (apply bd 14)); (try (apply bd 13)); (try (apply bd 12)); apply bd 11; exact .nil) ?_
            first | refine ts 24 ?_ | refine ta 24 rfl ((rd_ne rfl rfl).eq (show _ = Value.bool false from rfl)) ?_
            refine ta 25 rfl (rd_pick rfl rfl) ?_
            refine any_nil (by kernel_rfl) ?_
            refine St.then_n ?_
            first | exact St.sb (St.kq [(0, _), (1, _), (6, _), (7, _), (12, _), (93, _)] (h := hK S4 ⟨he4, hf4⟩)) | exact St.sb (St.kq [(0, _), (1, _), (6, _), (7, _), (12, _), (93, _)] (h := hK S3 ⟨Ext.refl _ _, hf3⟩))
          · refine do_draw [[2, 3, 4, 10, 11, 12, 13, 14, 15, 16, 17, 18, 19, 20, 21, 22, 23, 24, 25], [2, 3, 4, 10, 11, 12, 13, 14, 15, 16, 17, 18, 19, 20, 21, 22, 23, 24, 25], [3, 4, 10, 11, 12, 13, 14, 15, 16, 17, 18, 19, 20, 21, 22, 23, 24, 25], [4, 10, 11, 12, 13, 14, 15, 16, 17, 18, 19, 20, 21, 22, 23, 24, 25], [10, 11, 12, 13, 14, 15, 16, 17, 18, 19, 20, 21, 22, 23, 24, 25], [7, 8, 9, 10, 11, 12, 13, 14, 15, 16, 17, 18, 19, 20, 21, 22, 23, 24, 25], [7, 8, 9, 10, 11, 12, 13, 14, 15, 16, 17, 18, 19, 20, 21, 22, 23, 24, 25], [8, 9, 10, 11, 12, 13, 14, 15, 16, 17, 18, 19, 20, 21, 22, 23, 24, 25], [9, 10, 11, 12, 13, 14, 15, 16, 17, 18, 19, 20, 21, 22, 23, 24, 25], [10, 11, 12, 13, 14, 15, 16, 17, 18, 19, 20, 21, 22, 23, 24, 25], [11, 12, 13, 14, 15, 16, 17, 18, 19, 20, 21, 22, 23, 24, 25], [12, 13, 14, 15, 16, 17, 18, 19, 20, 21, 22, 23, 24, 25], [23, 24, 25], [15, 16, 17, 23, 24, 25], [15, 16, 17, 23, 24, 25], [16, 17, 23, 24, 25], [17, 23, 24, 25], [23, 24, 25], [20, 21, 22, 23, 24, 25], [20, 21, 22, 23, 24, 25], [21, 22, 23, 24, 25], [22, 23, 24, 25], [23, 24, 25], [24, 25], [25], []] (by kernel_rfl) rfl ?_
            refine ta 0 rfl (rd_move rfl) ?_
            refine ta 1 rfl (rd_move rfl) ?_
            refine ta 2 rfl ((rd_indexAddr Try.underlying40 ei47 rfl rfl (by omega) (by omega)).eq (show _ = Value.pointer (some ⟨g, of + j * 5, none⟩) by simp)) ?_
            refine ta 3 rfl (rd_fa (off' := of + (j * 5 + 1)) rfl fld47_1 (by omega)) ?_
            refine ta 4 rfl (rd_ld rfl row9 (Vw.cells1 (k := 5) hVM (by repeat (first | with_reducible exact Sel.head | apply Sel.tail)) (by omega) (flat_cell obC_len hx (j := 1) (by decide) rfl))) ?_
            refine ta 5 rfl (rd_move rfl) ?_
            refine ta 6 rfl (rd_move rfl) ?_
            refine ta 7 rfl ((rd_indexAddr Try.underlying40 ei47 rfl rfl (by omega) (by omega)).eq (show _ = Value.pointer (some ⟨g, of + j * 5, none⟩) by simp)) ?_
            refine ta 8 rfl (rd_fa (off' := of + (j * 5 + 2)) rfl fld47_2 (by omega)) ?_
            refine ta 9 rfl (rd_ld rfl row44 (Vw.cells1 (k := 5) hVM (by repeat (first | with_reducible exact Sel.head | apply Sel.tail)) (by omega) (flat_cell obC_len hx (j := 2) (by decide) rfl))) ?_
            refine tr 10 ?_
            refine rc (hs := right_spec _ xk xA xb.length xc) (k := ?_)
            rintro ⟨⟩ -
            rw [hoB]
            try simp only [List.cons_append, List.nil_append]
            refine nx ?_
            refine any_next (by apply bd 9; apply bd 8; apply bd 7; apply bd 6; apply bd 5; apply bd 4; apply bd 3; apply bd 2; apply bd 1; apply bd 0; exact .nil) ?_
            refine ta 11 rfl (rd_move rfl) ?_
            first | refine ts 12 ?_ | refine ta 12 rfl (rd_move rfl) ?_
            first | refine ts 13 ?_ | refine ta 13 rfl (rd_move rfl) ?_
            first | refine ts 14 ?_ | refine ta 14 rfl (rd_move rfl) ?_
            first | refine ts 15 ?_ | refine ta 15 rfl ((rd_indexAddr Try.underlying40 ei47 rfl rfl (by omega) (by omega)).eq (show _ = Value.pointer (some ⟨g, of + j * 5, none⟩) by simp)) ?_
            first | refine ts 16 ?_ | refine ta 16 rfl (rd_fa (off' := of + (j * 5 + 1)) rfl fld47_1 (by omega)) ?_
            first | refine ts 17 ?_ | refine ta 17 rfl (rd_ld rfl row9 (Vw.cells1 (k := 5) hVM (by repeat (first | with_reducible exact Sel.head | apply Sel.tail)) (by omega) (flat_cell obC_len hx (j := 1) (by decide) rfl))) ?_
            first | refine ts 18 ?_ | refine ta 18 rfl (rd_move rfl) ?_
            first | refine ts 19 ?_ | refine ta 19 rfl (rd_move rfl) ?_
            first | refine ts 20 ?_ | refine ta 20 rfl ((rd_indexAddr Try.underlying40 ei47 rfl rfl (by omega) (by omega)).eq (show _ = Value.pointer (some ⟨g, of + j * 5, none⟩) by simp)) ?_
            first | refine ts 21 ?_ | refine ta 21 rfl (rd_fa (off' := of + (j * 5 + 2)) rfl fld47_2 (by omega)) ?_
            first | refine ts 22 ?_ | refine ta 22 rfl (rd_ld rfl row44 (Vw.cells1 (k := 5) hVM (by repeat (first | with_reducible exact Sel.head | apply Sel.tail)) (by omega) (flat_cell obC_len hx (j := 2) (by decide) rfl))) ?_
            refine tr 23 ?_
            first
              | refine sk ?_
              | (refine rc (hs := btPut_spec _ t p d 62 rt S3 hg3 dep r (L.map Pm.kv) (hT.ext he3) hms xk xb xA xc (Vw.sep hxv (by repeat (first | with_reducible exact Sel.head | apply Sel.tail))) (by obtain ⟨o1, o2, o3⟩ := of_decide_eq_true hoB; exact ⟨o1, o2, o3⟩)) (k := ?_)
                 rintro y91 hy91
                 obtain ⟨S4, rfl, he4, hf4⟩ := rt_full hy91 hf3 (put_ne _ _ _)
                 dsimp only
                 try simp only [List.cons_append, List.nil_append])
            refine nx ?_
            refine any_next (by (try (apply bd 22)); (try (apply bd 21)); (try (apply bd 20)); (try (apply bd 19)); (try (apply bd 18)); (try (apply bd 17)); (try (apply bd 16)); (try (apply bd 15)); (try (apply bd 14)); (try (apply bd 13)); (try (apply bd 12)); apply bd 11; exact .nil) ?_
            first | refine ts 24 ?_ | refine ta 24 rfl ((rd_ne rfl rfl).eq (show _ = Value.bool false from rfl)) ?_
            refine ta 25 rfl (rd_pick rfl rfl) ?_
            refine any_nil (by kernel_rfl) ?_
            refine St.then_n ?_
            first | exact St.sb (St.kq [(0, _), (1, _), (6, _), (7, _), (12, _), (93, _)] (h := hK S4 ⟨he4, hf4⟩)) | exact St.sb (St.kq [(0, _), (1, _), (6, _), (7, _), (12, _), (93, _)] (h := hK S3 ⟨Ext.refl _ _, hf3⟩))
        rintro S4 ⟨he4, hf4⟩
        refine do_cond_f rfl ?_
        refine do_skip ?_
        refine St.blk_n ?_
        refine St.then_n ?_
        refine do_region ?_
        refine rr (rd_move rfl) ?_
        refine rr (rd_addi rfl rfl) ?_
        refine rr (rd_assign rfl) ?_
        refine nx ?_
        exact loop_bk (j + 1, S4) ⟨by dsimp only; omega, he3.trans he4, hf4⟩ (hμ := by dsimp only; omega)
      · refine do_exit ?_
        refine St.then_x ?_
        refine St.then_x ?_
        refine St.blk_s ?_
        refine St.then_n ?_
        refine sr ?_
        refine rr (rd_move rfl) ?_
        refine rc (hs := free_spec _ d p S3 hN3 hg3.1.is4) (k := ?_)
        rintro ⟨⟩ -
        rw [hf3]
        try simp only [List.cons_append, List.nil_append]
        refine rr ((rd_eq rfl rfl).eq (show _ = Value.bool true from rfl)) ?_
        refine rr (rd_move rfl) ?_
        first | refine sk ?_ | (refine rr (rd_move rfl) ?_)
        first
          | refine sk ?_
          | (refine rc (hs := all_spec _ t p d 62 rt S3 hg3 dep r (L.map Pm.kv) (hT.ext he3) hms [] [] (by rw [sel_all]; omega)) (k := ?_)
             rintro ⟨⟨A4, c4⟩, L4⟩ ⟨hL4, hd4⟩
             dsimp only at hL4 hd4 ⊢
             rw [sel_all] at hL4
             have hl4 : L4.length = n := by have := congrArg List.length hL4; rwa [List.length_map, List.length_map, hn] at this
             rw [hl4]
             try simp only [List.cons_append, List.nil_append])
        first | refine sk ?_ | (refine rr (rd_move rfl) ?_)
        first
          | refine sk ?_
          | (refine rc (hs := sameP_spec _ A4 A n c4 c L4 L (Vw.sep (vw_Q (f := prC)) (by repeat (first | with_reducible exact Sel.head | apply Sel.tail))) (fun x hx => Vw.sep (pr_vw hx) (by repeat (first | with_reducible exact Sel.head | apply Sel.tail))) (Vw.sep hV (by repeat (first | with_reducible exact Sel.head | apply Sel.tail))) (fun x hx => Vw.sep (hX x hx) (by repeat (first | with_reducible exact Sel.head | apply Sel.tail))) hl4 (q_eq hL4 hd4 hR.del)) (k := ?_)
             rintro ⟨⟩ -
             try simp only [List.cons_append, List.nil_append])
        refine rr (rd_pick rfl rfl) ?_
        refine rr (rd_move rfl) ?_
        first
          | refine sk ?_
          | (refine rc (hs := known_spec _) (k := ?_)
             rintro ⟨⟩ -
             try simp only [List.cons_append, List.nil_append])
        refine rr (rd_pick rfl rfl) ?_
        refine rr (rd_assign rfl) ?_
        refine run_nil ?_
        refine St.kp [(4, _)] ?_
        refine St.then_n ?_
        refine do_ret ?_
        refine do_ret1 Try.results4 (res_tmp rfl) ?_
        intro w hw
        exact ⟨rfl, hw.to_fr (by repeat (first | with_reducible exact Sel.head | apply Sel.tail))⟩
end Go.Proofs.Ytgeldfgcicjidaa
