/- What a shard asks, as a list: the loop over the iterator in the laws' helper. -/
import Derived.Test.YtglcmlicfmmlpaaTxnIter
namespace Go.Proofs.Ytglcmlicfmmlpaa
open Go.RowKit
attribute [local go_sem] Oper.semAt_some

theorem txnAsks_any (me n : Int) (v : Value) (A : Option Addr) (q c : Nat) (w : World) (hv : v = .slice A q c) :
    Calls Try.prog 66 #[.int .i64 me, .int .i64 n, v] w fun e w' => e = .returned (.func (.func 107) #[] #[.pointer (some ⟨w.heap.size + 1, 0, none⟩), .pointer (some ⟨w.heap.size + 2, 0, none⟩), .pointer (some ⟨w.heap.size, 0, none⟩)]) ∧
    w' = ((w.alloc (.cells #[.int .i64 me] 3)).alloc (.cells #[.int .i64 n] 3)).alloc (.cells #[.slice A q c] 37) := by
  subst hv
  go_enter Try.func66, Try.ntmps66
  go_wp2
  go_ret
  exact ⟨rfl, rfl⟩

theorem ei_ask : EI Try.prog 49 (.agg #[.int .i64 0, .int .i64 0, .int .i64 0, .string ⟨#[]⟩, .string ⟨#[]⟩, .int .i64 0, .string ⟨#[]⟩, .int .i64 0, .int .i64 0, .string ⟨#[]⟩, .string ⟨#[]⟩, .int .i64 0, .int .i64 0, .int .i64 0, .int .i64 0, .int .i64 0, .bool false, .slice none 0 0]) 18 200 := ei_of (by kernel_rfl) rfl (by omega)
def askCells (x : Int × Cmd) : List Value := [.int .i64 x.1, .int .i64 x.2.kind, .int .i64 x.2.op.kind, .string x.2.op.src, .string x.2.op.dst, .int .i64 x.2.op.amt, .string x.2.op.key, .int .i64 x.2.op.slot, .int .i64 x.2.op.shard, .string x.2.id, .string x.2.name, .int .i64 x.2.n, .int .i64 x.2.why, .int .i64 x.2.slot, .int .i64 x.2.epoch, .int .i64 x.2.at_, .bool x.2.last, .slice none 0 0]

theorem askCells_len (x : Int × Cmd) : (askCells x).length = 18 := rfl
theorem askCells_one (L : List (Int × Cmd)) : ∀ u ∈ L.flatMap askCells, u.oneCell' = true := by
  intro u hu
  obtain ⟨x, _, hx⟩ := List.mem_flatMap.1 hu
  simp [askCells] at hx
  rcases hx with rfl | rfl | rfl | rfl | rfl | rfl | rfl | rfl | rfl | rfl | rfl | rfl | rfl | rfl | rfl | rfl | rfl | rfl <;> rfl
theorem flatMap_take_snoc {α β : Type} (f : α → List β) (L : List α) (i : Nat) (x : α) (h : L[i]? = some x) : (L.take (i + 1)).flatMap f = (L.take i).flatMap f ++ f x := by
  rw [List.take_add_one, h]; simp
theorem bs_ask (x : Int × Cmd) (w : World) : (Instr.buildSlice 41 1 #[(0, askV x.1 x.2 (.slice none 0 0))]).run Try.prog w = .ok (.slice (some ⟨w.heap.size, 0, none⟩) 1 1) (w.alloc (.cells (askCells x).toArray 49)) := by kernel_rfl
theorem asksP_len (me n : Int) (T : List Txn) : (asksP me n T).length ≤ 3 * T.length := by
  have ho : ∀ k : Nat, (othersTo me k).length ≤ k := fun k => by
    unfold othersTo
    exact Nat.le_trans (List.length_filter_le _ _) (by simp)
  unfold asksP
  split
  · simp
  · have hk : (othersTo me n.toNat).length ≤ 3 := Nat.le_trans (ho _) (by omega)
    clear ho
    induction T with
    | nil => simp [asksL]
    | cons t l ih => simp only [asksL, List.length_append, List.length_map, List.length_cons]; omega
theorem items_get {L : List (Int × Cmd)} {i : Nat} {vs : Array Value} {W : World} (h : Items (L.map askItem) i vs W) : ∃ x, L[i]? = some x ∧ vs = askItem x := by
  unfold Items at h
  rw [List.getElem?_map] at h
  cases hq : L[i]? with
  | none => rw [hq] at h; cases h
  | some x => rw [hq] at h; exact ⟨x, rfl, (Option.some.inj h).symm⟩

theorem seq_not_nil (W : World) (a b c : Option Addr) : (binOp .eql 131 (.func (.func 107) #[] #[.pointer a, .pointer b, .pointer c]) .nilFunc).run Try.prog W = .ok (.bool false) W := by kernel_rfl

set_option maxRecDepth 100000 in
set_option maxHeartbeats 4000000 in
theorem asks_any (me n : Int) (T : List Txn) (A : Option Addr) (c : Nat) (cs : List Value) (w : World) (hsl : Sl w (fun b => b < w.heap.size) 7 (.slice A T.length c) T.length cs) (hcs : RowsL TxnR T cs) (hT : T.length ≤ 1000) :
    Calls Try.prog 13 #[.int .i64 me, .int .i64 n, .slice A T.length c] w fun e w' => ∃ B cb, e = .returned (.slice B (asksP me n T).length cb) ∧
      w'.ownsRow w.heap.size 49 18 (.slice B (asksP me n T).length cb) (asksP me n T).length ((asksP me n T).flatMap askCells) ∧ Fr nowhere w w' := by
  have hnf := seq_not_nil
  refine callsIn_wide (n := 5).1 ?_
  refine callsIn_of_wp_marks Try.func13 rfl trivial ?_
  simp only [Try.ntmps13, List.size_toArray, List.length_cons, List.length_nil, Nat.reduceAdd, Nat.reduceSub, Array.replicate_succ, Array.replicate_zero, List.push_toArray, List.append_toArray, List.nil_append, List.cons_append]
  have Hsl := Lib.hid hsl
  have hlen := asksP_len me n T
  clear hsl
  generalize hq : T.length = q at *
  have hiter := fun (m bS bL bM : Nat) (Fb : Nat → Prop) (W : World) h1 h2 h3 h4 h5 h6 h7 h8 => asks1_iter m bS bL bM me n T A c cs (fun b => b < w.heap.size) Fb W h1 h2 h3 h4 hcs h5 h6 h7 h8
  rw [hq] at hiter
  have Hiter := Lib.hid hiter
  generalize hL : asksP me n T = L at *
  have HL := Lib.hid hL
  clear hiter hL hq hcs
  gi_wp2
  refine ⟨trivial, callsIn_wide.2 ((txnAsks_any me n _ A q c _ rfl).mono ?_)⟩
  rintro e w1 ⟨rfl, hw1⟩
  have b0 : Blk w1 w.heap.size 41 #[.slice none 0 0] := by rw [hw1]; exact (((Blk.new w _ _).alloc _).alloc _).alloc _
  have b1 : Blk w1 (w.heap.size + 1) 3 #[.int .i64 me] := by rw [hw1]; exact ((Blk.newAt (by simp)).alloc _).alloc _
  have b2 : Blk w1 (w.heap.size + 2) 3 #[.int .i64 n] := by rw [hw1]; exact (Blk.newAt (by simp)).alloc _
  have b3 : Blk w1 (w.heap.size + 3) 37 #[.slice A q c] := by rw [hw1]; exact Blk.newAt (by simp)
  have hf1 : Fr nowhere w w1 := by rw [hw1]; (repeat (first | exact Fr.refl _ _ | assumption | refine Fr.setCell ?_ (by first | (right; omega) | (right; simp; done) | (right; simp; omega) | (left; simp; done) | (left; simp; omega) | (left; dsimp only; omega)) _ | refine Fr.alloc ?_ _ | refine Fr.drew ?_ | refine Fr.setRow ?_ (by first | (right; omega) | (right; simp; done) | (right; simp; omega) | (left; simp; done) | (left; simp; omega) | (left; dsimp only; omega)) _))
  have hz1 : w1.heap.size = w.heap.size + 4 := by rw [hw1]; simp
  have hs1 := Hsl.out.fr hf1 (fun _ _ _ => id)
  have H0 := Lib.hid (show _ ∧ _ ∧ _ ∧ _ ∧ _ from ⟨b0, b1, b2, b3, hs1⟩)
  clear hw1 b0 b1 b2 b3 hs1
  dsimp only
  rw [show (w.alloc _).heap.size + 2 = w.heap.size + 3 by simp, show (w.alloc _).heap.size + 1 = w.heap.size + 2 by simp, show (w.alloc _).heap.size = w.heap.size + 1 by simp]
  gi_wp2
  clear hnf
  obtain ⟨b0, b1, b2, b3, hs1⟩ := H0.out
  refine wpIn_range (Fb := fun b => b = w.heap.size) (K0 := fun b => b = w.heap.size) (X := Items (L.map askItem)) (S := fun i => i = L.length) rfl rfl (fun _ => trivial) (gf := 107) rfl (fun _ _ => by kernel_rfl)
    (Hiter.out _ (w.heap.size + 2) (w.heap.size + 3) (w.heap.size + 1) _ w1 b2 b3 b1 hs1 (by omega) (by omega) (by omega) (fun b h1 _ => by omega))
    ?_ ?_ (fun j K W' => ∃ B cb, (K = fun b => b = w.heap.size ∨ B.map (·.block) = some b) ∧ j ≤ L.length ∧ Blk W' w.heap.size 41 #[.slice B j cb] ∧ W'.ownsRow (w.heap.size + 1) 49 18 (.slice B j cb) j ((L.take j).flatMap askCells) ∧ Fr nowhere w W')
    (fun _ _ _ => False) ?_ ?_ ?_ ?_ ?_ ?_ ?_
  · rintro i vs W' h
    obtain ⟨x, _, rfl⟩ := items_get h
    rfl
  · rintro b rfl; exact ⟨rfl, by omega⟩
  · rintro i K A ⟨B, cb, rfl, _, h1, h2, h3⟩ b (rfl | h)
    · exact h1.lt
    · exact (h2.lt b (by rw [ownBlock_slice]; exact h)).2
  · rintro i K A C ⟨B, cb, rfl, h0, h1, h2, h3⟩ hf
    exact ⟨B, cb, rfl, h0, h1.kin hf (.inr (.inl rfl)), own_kin h2 hf (fun g hg => .inr (.inr (by rw [← ownBlock_slice]; exact hg))), h3.thenKin hf (by omega)⟩
  · exact fun _ _ _ _ h => h.elim
  · exact ⟨none, 0, by simp, Nat.zero_le _, b0, World.ownsRow_nil _ _ _ _, hf1⟩
  · rintro i K vs W' hW' _ ⟨B, cb, rfl, h0, h1, h2, h3⟩ hn1 hn2 hx
    obtain ⟨x, hxi, rfl⟩ := items_get hx
    have hnB : ∀ g, B.map (·.block) = some g → g ≠ w1.heap.size + 1 ∧ g < W'.heap.size ∧ w.heap.size + 1 ≤ g := fun g hg => by
      obtain ⟨cs', hb', hbase⟩ := own_blk h2 (g := g) (by rw [ownBlock_slice]; exact hg)
      exact ⟨fun e => hn1 (.inr (by rw [hg, e])), hb'.lt, hbase⟩
    have hz3 := h3.size
    have HnB := Lib.hid hnB
    have Hx := Lib.hid hxi
    have H123 := Lib.hid (show _ ∧ _ ∧ _ from ⟨h1, h2, h3⟩)
    clear hnB hx hxi h1 h2 h3 b0 b1 b2 b3 hs1 hn1 hn2
    dsimp only [askItem]
    gi_wp2_with (first | ((first | (with_reducible apply wpList_ran) | (with_reducible apply wpListIn_ran (fun _ => trivial)) | (with_reducible apply wp_ran) | (with_reducible apply wpIn_ran (fun _ => trivial))); (case r => ((with_reducible apply ran_st 49 rfl rfl 18 (by kernel_rfl)); (case hx => exact rfl); (case hy => exact rfl); (case hg => (first | ((apply Blk.out); (repeat (first | (with_reducible assumption) | ((with_reducible apply Blk.set_); (case' h => skip)) | ((with_reducible apply Blk.setRow); (case' h => skip)) | ((with_reducible apply Blk.far); (case' hp => (first | (simp; done) | (simp; omega) | omega)); (case' h => skip)) | ((with_reducible apply Blk.farRow); (case' hb => (first | (simp; done) | (simp; omega) | omega)); (case' h => skip)) | (with_reducible apply Blk.drew) | (with_reducible apply Blk.drewN) | ((with_reducible apply Blk.newAt); (first | rfl | (simp; done))) | ((apply Blk.newAt); (first | rfl | (simp; done))) | (with_reducible apply Blk.alloc) | assumption)); done) | (refine hpL0 ?hq; (case hq => (simp; done))) | (refine hpL1 ?hq; (case hq => (simp; done))) | (refine hpL2 ?hq; (case hq => (simp; done))) | (refine hpL3 ?hq; (case hq => (simp; done))) | (refine hpL4 ?hq; (case hq => (simp; done))) | (refine hpL5 ?hq; (case hq => (simp; done))) | (refine hpL6 ?hq; (case hq => (simp; done))))); (case hW => (first | (refine stL0 ?hq; (case hq => (simp; done))) | (refine stL1 ?hq; (case hq => (simp; done))) | (refine stL2 ?hq; (case hq => (simp; done))) | (refine stL3 ?hq; (case hq => (simp; done))) | (refine stL4 ?hq; (case hq => (simp; done))) | (refine stL5 ?hq; (case hq => (simp; done))) | (refine stL6 ?hq; (case hq => (simp; done))) | exact rfl)); (case hc => exact rfl); (case hold => exact rfl); (case h1 => kernel_rfl))); (try (case hw => rfl))))
    refine ⟨by (repeat (first | exact Fr.refl _ _ | assumption | refine Fr.setCell ?_ (by first | (right; omega) | (right; simp; done) | (right; simp; omega) | (left; simp; done) | (left; simp; omega) | (left; dsimp only; omega)) _ | refine Fr.alloc ?_ _ | refine Fr.drew ?_ | refine Fr.setRow ?_ (by first | (right; omega) | (right; simp; done) | (right; simp; omega) | (left; simp; done) | (left; simp; omega) | (left; dsimp only; omega)) _)), fun W2 hfW => ?_⟩
    intros
    obtain ⟨h1, h2, h3⟩ := H123.out
    have hfa : Fr nowhere W' (W'.alloc (.cells (askCells x).toArray 49)) := by (repeat (first | exact Fr.refl _ _ | assumption | refine Fr.setCell ?_ (by first | (right; omega) | (right; simp; done) | (right; simp; omega) | (left; simp; done) | (left; simp; omega) | (left; dsimp only; omega)) _ | refine Fr.alloc ?_ _ | refine Fr.drew ?_ | refine Fr.setRow ?_ (by first | (right; omega) | (right; simp; done) | (right; simp; omega) | (left; simp; done) | (left; simp; omega) | (left; dsimp only; omega)) _))
    have hfaW : Fr (fun b => b = w1.heap.size + 1) W' W2 := Fr.trans hfa.any hfW (fun _ _ e => e)
    have k1 : Blk W2 w.heap.size 41 #[.slice B i cb] := h1.fr hfaW (by omega)
    have k2 : W2.ownsRow (w.heap.size + 1) 49 18 (.slice B i cb) i ((L.take i).flatMap askCells) := own_same h2 (fun g hg _ hlt => hfaW.block g hlt (HnB.out g (by rw [← ownBlock_slice]; exact hg)).1)
    have k9 : Blk W2 W'.heap.size 49 (askCells x).toArray := (Blk.new W' _ _).fr hfW (by omega)
    have hzW := hfW.size
    simp only [World.size_alloc] at hzW
    obtain ⟨c0, f0⟩ := k1.facts1
    have K2 := Lib.hid k2
    have hil : i + 1 ≤ L.length := by
      have := (List.getElem?_eq_some_iff.1 Hx.out).1; omega
    have hL3 : L.length ≤ 3 * q := hlen
    have K1 := Lib.hid k1
    have hf2 : Fr nowhere w W2 := Fr.trans h3 hfaW (fun b _ e => by omega)
    clear h1 h2 h3 hfa k1 k2
    have hb1 : w.heap.size + 1 ≤ (W2.alloc (.cells (askCells x).toArray 49)).heap.size := by simp; omega
    have hc1 : ∀ o, (W2.alloc o).ownsRow (w.heap.size + 1) 49 18 (.slice B i cb) i ((L.take i).flatMap askCells) := fun o => own_same K2.out (fun g _ _ hlt => hp_new _ _ _ hlt)
    have Hc1 := Lib.hid hc1
    clear hc1
    gi_wp2_with (first | ((first | (with_reducible apply wpList_ran) | (with_reducible apply wpListIn_ran (fun _ => trivial)) | (with_reducible apply wp_ran) | (with_reducible apply wpIn_ran (fun _ => trivial))); (case r => ((with_reducible apply ran_ld 49 rfl 18 (by kernel_rfl) _ Try.underlying49 rfl); (case hx => exact rfl); (case hg => (first | ((apply Blk.out); (repeat (first | (with_reducible assumption) | ((with_reducible apply Blk.set_); (case' h => skip)) | ((with_reducible apply Blk.setRow); (case' h => skip)) | ((with_reducible apply Blk.far); (case' hp => (first | (simp; done) | (simp; omega) | omega)); (case' h => skip)) | ((with_reducible apply Blk.farRow); (case' hb => (first | (simp; done) | (simp; omega) | omega)); (case' h => skip)) | (with_reducible apply Blk.drew) | (with_reducible apply Blk.drewN) | ((with_reducible apply Blk.newAt); (first | rfl | (simp; done))) | ((apply Blk.newAt); (first | rfl | (simp; done))) | (with_reducible apply Blk.alloc) | assumption)); done) | (refine hpL0 ?hq; (case hq => (simp; done))) | (refine hpL1 ?hq; (case hq => (simp; done))) | (refine hpL2 ?hq; (case hq => (simp; done))) | (refine hpL3 ?hq; (case hq => (simp; done))) | (refine hpL4 ?hq; (case hq => (simp; done))) | (refine hpL5 ?hq; (case hq => (simp; done))) | (refine hpL6 ?hq; (case hq => (simp; done))))); (case hc => exact rfl))); (try (case hw => rfl))) | (((first | (with_reducible apply wpList_ran) | (with_reducible apply wpListIn_ran (fun _ => trivial)) | (with_reducible apply wp_ran) | (with_reducible apply wpIn_ran (fun _ => trivial))); (case r => ((with_reducible apply ran_bsl rfl (bs_ask x _)); (first | (case he => exact rfl) | exact rfl))); (try (case hw => rfl))); refine wpListIn_app (o := ⟨some 21, _, _, _, _, _⟩) (fun _ => trivial) rfl rfl (w.heap.size + 1) Try.underlying41 ei_ask (.slice B i cb) i ((L.take i).flatMap askCells) ?c0 (Hc1.out _) ⟨W2.heap.size, 0, none⟩ 1 1 (askCells x) ?c2 ?c3 ?c4 ?c5 ?c6 ?c7 hb1 ?_; (case c0 => rfl); (case c2 => rfl); (case c3 => rfl); (case c4 => exact news_last rfl); (case c5 => exact fun u hu => askCells_one [x] u (by simpa using hu)); (case c6 => simp only [maxLen]; omega); (case c7 => omega); intro v3 w3 hown3 hg3 _ hat3; obtain ⟨B3, cb3, rfl, _⟩ := ownsRow_slice hown3; have k3 : Blk w3 w.heap.size 41 #[.slice B i cb] := (K1.out.alloc _).grown hg3 (fun e => by have := (HnB.out _ ((ownBlock_slice B i cb).symm.trans e.symm)).2.2; omega); obtain ⟨c0', f0'⟩ := k3.facts1; have K3 := Lib.hid k3; clear c0 f0 k3; have Hat3 := Lib.hid hat3; have Hown3 := Lib.hid hown3; have Hg3 := Lib.hid hg3; clear hat3 hown3 hg3))
    have hat : ∀ g, B3.map (·.block) = some g → B.map (·.block) = some g ∨ W2.heap.size ≤ g := fun g hg => by
      rcases Hat3.out with e | e
      · rw [ownBlock_slice, ownBlock_slice, hg] at e
        exact .inl e.symm
      · rw [ownBlock_slice, hg] at e
        simp at e
        exact .inr (by omega)
    have hK : Fr (fun b => b = w.heap.size ∨ B.map (·.block) = some b) W2 (w3.setCell ⟨w.heap.size, 0, none⟩ (.slice B3 (i + 1) cb3)) :=
      (((Fr.refl _ W2).alloc _).grown Hg3.out (fun g e => .inl (.inr (by rw [← ownBlock_slice B i cb]; exact e)))).setCell (.inl (.inl rfl)) _
    refine ⟨fun b => b = w.heap.size ∨ B3.map (·.block) = some b, ⟨B3, cb3, rfl, hil, K3.out.set_ 0 _, ?_, Fr.trans hf2 hK (fun b hb e => ?_)⟩, fun b hb => ?_, hK⟩
    · rw [flatMap_take_snoc _ _ _ _ Hx.out]
      refine own_same Hown3.out (fun g hg hb _ => hp_set _ _ _ _ _ _ (by omega))
    · rcases e with e | e
      · omega
      · have := (HnB.out _ e).2.2; omega
    · rcases hb with h | h
      · exact .inl (.inl h)
      · exact (hat b h).imp .inr id
  · rintro i K W' rfl ⟨B, cb, rfl, h0, h1, h2, h3⟩ hd
    rw [List.take_length] at h2
    obtain ⟨c0, f0⟩ := h1.facts1
    have K2 := Lib.hid h2
    clear h2 h1
    dsimp only
    gi_wp2
    have hnd : ¬ (w1.heap.size = w.heap.size ∨ B.map (·.block) = some w1.heap.size) := by
      rintro (h | h)
      · omega
      · obtain ⟨cs', hb', _⟩ := own_blk K2.out (g := w1.heap.size) (by rw [ownBlock_slice]; exact h)
        unfold Blk at hb'
        rw [hd] at hb'
        cases hb'
    have hmk : Marks w1.heap.size (fun b => b = w.heap.size ∨ B.map (·.block) = some b) W' [{ target := .collected w1.heap.size, args := #[] }] :=
      Marks.cons (ds := []) (B := w1.heap.size) (W := w1) (K := nowhere) trivial trivial (Nat.le_refl _) hnd hd
    refine leaves_many (v := .slice B L.length cb) hmk (fun w' hf => ?_) (fun w' hf => ?_)
    · simp [results, Try.results13, go_sem]
    · exact ⟨B, cb, rfl, own_base (own_kin K2.out hf (fun g hg => .inr (.inr (by rw [← ownBlock_slice]; exact hg)))) (fun g _ h => by omega), h3.thenKin hf (by omega)⟩
  · exact fun _ _ _ h => h.elim
end Go.Proofs.Ytglcmlicfmmlpaa
