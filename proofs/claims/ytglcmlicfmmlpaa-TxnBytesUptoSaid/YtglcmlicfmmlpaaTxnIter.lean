/- The iterator of what a shard asks: a loop over a function in a loop. -/
import Derived.Test.YtglcmlicfmmlpaaTxn
namespace Go.Proofs.Ytglcmlicfmmlpaa
open Go.RowKit
attribute [local go_sem] Oper.semAt_some

def TxnR (t : Txn) (c : List Value) : Prop := c = [.string t.id, .string t.src, .string t.key, .string t.dst, .int .i64 t.n, .bool t.done, .int .i64 t.why]
theorem asksL_app (me : Int) (k : Nat) (l l' : List Txn) : asksL me k (l ++ l') = asksL me k l ++ asksL me k l' := by
  induction l with
  | nil => rfl
  | cons t l ih => simp [asksL, ih]
theorem asksL_snoc (me : Int) (k : Nat) (l : List Txn) (t : Txn) : asksL me k (l ++ [t]) = asksL me k l ++ (othersTo me k).map fun g => (g, cmdOf t) := by
  rw [asksL_app]; simp [asksL]
def askItem (x : Int × Cmd) : Array Value := #[askV x.1 x.2 (.slice none 0 0)]
theorem asks_item (me : Int) (k : Nat) (l : List Txn) (i : Nat) (t : Txn) (hi : l[i]? = some t) (j : Nat) (g : Int) (hj : (othersTo me k)[j]? = some g) :
    ((asksL me k l).map askItem)[(asksL me k (l.take i)).length + j]? = some #[askV g (cmdOf t) (.slice none 0 0)] := by
  have e : l = l.take i ++ ([t] ++ l.drop (i + 1)) := by
    have hlt := (List.getElem?_eq_some_iff.1 hi).1
    have h1 : l.drop i = t :: l.drop (i + 1) := by rw [List.drop_eq_getElem_cons hlt]; congr 1; exact (List.getElem?_eq_some_iff.1 hi).2
    calc l = l.take i ++ l.drop i := (List.take_append_drop i l).symm
      _ = _ := by rw [h1]; rfl
  have hl := (List.getElem?_eq_some_iff.1 hj).1
  have h2 : asksL me k l = asksL me k (l.take i) ++ ((othersTo me k).map (fun g => (g, cmdOf t)) ++ asksL me k (l.drop (i + 1))) := by
    conv => lhs; rw [e]
    rw [asksL_app, asksL_app]; simp [asksL]
  rw [h2, List.map_append, List.map_append, List.getElem?_append_right (by simp), List.getElem?_append_left (by simp; exact hl)]
  simp [hj, askItem]

/-- The number of things asked; nothing where there are too many shards. -/
def asksP (me n : Int) (l : List Txn) : List (Int × Cmd) := if 3 < n then [] else asksL me n.toNat l

set_option maxRecDepth 100000 in
set_option maxHeartbeats 4000000 in
theorem asks1_iter (m bS bL bM : Nat) (me n : Int) (T : List Txn) (A : Option Addr) (c : Nat) (cs : List Value) (G Fb : Nat → Prop) (w : World) (h1 : Blk w bS 3 #[.int .i64 n]) (h2 : Blk w bL 37 #[.slice A T.length c])
    (h3 : Blk w bM 3 #[.int .i64 me]) (hsl : Sl w G 7 (.slice A T.length c) T.length cs) (hcs : RowsL TxnR T cs) (hF1 : ¬ Fb bS) (hF2 : ¬ Fb bL) (hF3 : ¬ Fb bM) (hFG : ∀ b, G b → b < w.heap.size → ¬ Fb b) :
    Iterates Fence.wide m Try.prog 107 #[.pointer (some ⟨bS, 0, none⟩), .pointer (some ⟨bL, 0, none⟩), .pointer (some ⟨bM, 0, none⟩)] Fb (Items ((asksP me n T).map askItem)) (fun i => i = (asksP me n T).length) w := by
  intro l J Jx K0 W hlw hlW hfr hJl hJ hJx hY h0 hK0
  have HY := Lib.hid hY
  have HJ := Lib.hid hJ
  have HJx := Lib.hid hJx
  have HJl := Lib.hid hJl
  have hz := hfr.size
  have hl1 := h1.lt
  have hl2 := h2.lt
  have hl3 := h3.lt
  have stay : ∀ W', Fr (fun b => Fb b ∨ b = l) W W' → Blk W' bS 3 #[.int .i64 n] ∧ Blk W' bL 37 #[.slice A T.length c] ∧ Blk W' bM 3 #[.int .i64 me] ∧ Sl W' G 7 (.slice A T.length c) T.length cs := fun W' hf =>
    ⟨(h1.fr hfr id).fr hf (by rintro (h | h); exact hF1 h; omega), (h2.fr hfr id).fr hf (by rintro (h | h); exact hF2 h; omega), (h3.fr hfr id).fr hf (by rintro (h | h); exact hF3 h; omega),
      (hsl.mono (G' := fun b => G b ∧ b < w.heap.size) (fun b h1 h2 => ⟨h2, h1⟩)).fr hfr (fun _ _ _ => id) |>.fr hf (fun b hb _ => by rintro (h | h); exact hFG b hb.1 hb.2 h; omega) |>.mono (fun b _ h => h.1)⟩
  have Stay := Lib.hid stay
  have Hcs := Lib.hid hcs
  have hT : T.length ≤ 9223372036854775807 := by
    obtain ⟨_, _, he, h1, h2, _⟩ := hsl
    injection he with _ _ he
    simp only [maxLen] at h2
    omega
  clear stay hY hJ hJx hJl hF1 hF2 hF3 h1 h2 h3 hFG hcs hsl
  obtain ⟨s1, s2, s3, s4⟩ := Stay.out W (Fr.refl _ _)
  obtain ⟨c1, _⟩ := s1.facts1
  obtain ⟨c2, _⟩ := s2.facts1
  obtain ⟨c3, _⟩ := s3.facts1
  clear s1 s2 s3 s4
  generalize ht : T.length = q at *
  have Ht := Lib.hid ht
  clear ht
  have hL1 : bS < W.heap.size := by omega
  have hL2 : bL < W.heap.size := by omega
  have hL3 : bM < W.heap.size := by omega
  by_cases hn : 3 < n
  · have e0 : asksP me n T = [] := if_pos hn
    refine callsIn_of_wp_marks Try.func107 rfl trivial ?_
    simp only [Try.ntmps107, List.size_toArray, List.length_cons, List.length_nil, Nat.reduceAdd, Nat.reduceSub, Array.replicate_succ, Array.replicate_zero, List.push_toArray, List.append_toArray, List.nil_append, List.cons_append]
    gi_wp2
    refine wpIn_scope_straight ?_
    gi_wp2
    rw [Exit.noGoto_ret]
    exact leaves_many (B := W.heap.size) (K := K0) (ds := []) trivial (fun _ _ => results_none rfl _ _ _) (fun w' hf => ⟨⟨_, rfl⟩, .inl ⟨0, K0, by rw [e0]; rfl, HJ.out _ _ _ _ (HJ.out _ _ _ _ h0 (Fr.kin (by (repeat (first | exact Fr.refl _ _ | assumption | refine Fr.setCell ?_ (by first | (right; omega) | (right; simp; done) | (right; simp; omega) | (left; simp; done) | (left; simp; omega) | (left; dsimp only; omega)) _ | refine Fr.alloc ?_ _ | refine Fr.drew ?_ | refine Fr.setRow ?_ (by first | (right; omega) | (right; simp; done) | (right; simp; omega) | (left; simp; done) | (left; simp; omega) | (left; dsimp only; omega)) _))))) hf⟩⟩)
  · have e0 : asksP me n T = asksL me n.toNat T := if_neg hn
    rw [e0] at HY ⊢
    clear e0
    refine callsIn_of_wp_marks Try.func107 rfl trivial ?_
    simp only [Try.ntmps107, List.size_toArray, List.length_cons, List.length_nil, Nat.reduceAdd, Nat.reduceSub, Array.replicate_succ, Array.replicate_zero, List.push_toArray, List.append_toArray, List.nil_append, List.cons_append]
    gi_wp2
    refine wpIn_scope_straight ?_
    gi_wp2
    refine wpIn_label ?_
    gi_wp2
    refine wpIn_loop (fun a' wr => ∃ (k : Nat) (K : Nat → Prop) (ds : List Deferred) (u6 u7 u8 u14 u15 u16 u17 u18 u19 u20 u21 u22 u23 u24 u25 u26 u27 u28 u29 : Value), k ≤ q ∧ J (asksL me n.toNat (T.take k)).length K wr ∧ Fr (fun b => Fb b ∨ b = l) W wr ∧ Grows Fb K W ∧ ¬ K W.heap.size ∧ Blk wr W.heap.size 175 #[.func (.yield l) #[] #[]] ∧ Marks W.heap.size K wr ds ∧
        a' = { tmps := #[.func (.yield l) #[] #[], .pointer (some ⟨bS, 0, none⟩), .pointer (some ⟨bL, 0, none⟩), .pointer (some ⟨bM, 0, none⟩), .pointer (some ⟨W.heap.size, 0, none⟩), undef, u6, u7, u8, .int .i64 n, .bool (decide (3 < n)), .slice A q c, .int .i64 q, .int .i64 k, u14, u15, u16, u17, u18, u19, u20, u21, u22, u23, u24, u25, u26, u27, u28, u29], defers := ds }) (fun a' _ => q - (intOf (a'.tmps.getD 13 undef)).toNat) ?_ ?_
    · exact ⟨0, K0, [], _, _, _, _, _, _, _, _, _, _, _, _, _, _, _, _, _, _, _, Nat.zero_le _, HJ.out _ _ _ _ h0 (Fr.kin (by (repeat (first | exact Fr.refl _ _ | assumption | refine Fr.setCell ?_ (by first | (right; omega) | (right; simp; done) | (right; simp; omega) | (left; simp; done) | (left; simp; omega) | (left; dsimp only; omega)) _ | refine Fr.alloc ?_ _ | refine Fr.drew ?_ | refine Fr.setRow ?_ (by first | (right; omega) | (right; simp; done) | (right; simp; omega) | (left; simp; done) | (left; simp; omega) | (left; dsimp only; omega)) _)))), by (repeat (first | exact Fr.refl _ _ | assumption | refine Fr.setCell ?_ (by first | (right; omega) | (right; simp; done) | (right; simp; omega) | (left; simp; done) | (left; simp; omega) | (left; dsimp only; omega)) _ | refine Fr.alloc ?_ _ | refine Fr.drew ?_ | refine Fr.setRow ?_ (by first | (right; omega) | (right; simp; done) | (right; simp; omega) | (left; simp; done) | (left; simp; omega) | (left; dsimp only; omega)) _)), fun b hb => .inl (hK0 b hb).1, fun h => by have := (hK0 _ h).2; omega, Blk.new _ _ _, trivial, rfl⟩
    · rintro a' wr ⟨k, K, ds, u6, u7, u8, u14, u15, u16, u17, u18, u19, u20, u21, u22, u23, u24, u25, u26, u27, u28, u29, hk, hJk, hfk, hgk, hnk, hbk, hmk, rfl⟩
      clear c1 c2 c3 h0
      obtain ⟨s1, s2, s3, s4⟩ := Stay.out wr hfk
      by_cases hlt : k < q
      · obtain ⟨t, ht⟩ : ∃ t, T[k]? = some t := ⟨_, List.getElem?_eq_getElem (by rw [Ht.out]; exact hlt)⟩
        obtain ⟨cc, hcc, hget⟩ := Hcs.out.get (k := 7) (fun y c hy => by cases hy; rfl) ht
        cases hcc
        obtain ⟨_, _, he, _, _, _, hA⟩ := s4
        injection he with he1 he2 he3
        subst he1
        obtain ⟨g, o, rfl, hgl, hgG, hcell⟩ := hA (by omega)
        have hr7 : wr.rangeAt g (o + k * 7) [.string t.id, .string t.src, .string t.key, .string t.dst, .int .i64 t.n, .bool t.done, .int .i64 t.why] := fun j u hu => by
          rw [Nat.add_assoc]; exact hcell _ _ (hget j u hu)
        have hi1 : (k : Int) < (q : Int) := by omega
        have HR7 := Lib.hid hr7
        have HT := Lib.hid ht
        have Hgl := Lib.hid hgl
        obtain ⟨c1, _⟩ := s1.facts1
        obtain ⟨c2, _⟩ := s2.facts1
        obtain ⟨c3, _⟩ := s3.facts1
        clear he2 he3 hget hcell hA s1 s2 s3 hr7 ht hgG
        gi_wp2_with (first | ((first | (with_reducible apply wpList_ran) | (with_reducible apply wpListIn_ran (fun _ => trivial)) | (with_reducible apply wp_ran) | (with_reducible apply wpIn_ran (fun _ => trivial))); (case r => ((with_reducible apply ran_ldm 40 rfl 7 (by kernel_rfl) _ Try.underlying40 rfl); (case hx => exact rfl); (case hg => exact HR7.out); (case hc => exact rfl))); (try (case hw => rfl))) | ((first | (with_reducible apply wpList_ran) | (with_reducible apply wpListIn_ran (fun _ => trivial)) | (with_reducible apply wp_ran) | (with_reducible apply wpIn_ran (fun _ => trivial))); (case r => ((with_reducible apply ran_st 40 rfl rfl 7 (by kernel_rfl)); (case hx => exact rfl); (case hy => exact rfl); (case hg => (first | ((apply Blk.out); (repeat (first | (with_reducible assumption) | ((with_reducible apply Blk.set_); (case' h => skip)) | ((with_reducible apply Blk.setRow); (case' h => skip)) | ((with_reducible apply Blk.far); (case' hp => (first | (simp; done) | (simp; omega) | omega)); (case' h => skip)) | ((with_reducible apply Blk.farRow); (case' hb => (first | (simp; done) | (simp; omega) | omega)); (case' h => skip)) | (with_reducible apply Blk.drew) | (with_reducible apply Blk.drewN) | ((with_reducible apply Blk.newAt); (first | rfl | (simp; done))) | ((apply Blk.newAt); (first | rfl | (simp; done))) | (with_reducible apply Blk.alloc) | assumption)); done) | (refine hpL0 ?hq; (case hq => (simp; done))) | (refine hpL1 ?hq; (case hq => (simp; done))) | (refine hpL2 ?hq; (case hq => (simp; done))) | (refine hpL3 ?hq; (case hq => (simp; done))) | (refine hpL4 ?hq; (case hq => (simp; done))) | (refine hpL5 ?hq; (case hq => (simp; done))) | (refine hpL6 ?hq; (case hq => (simp; done))))); (case hW => (first | (refine stL0 ?hq; (case hq => (simp; done))) | (refine stL1 ?hq; (case hq => (simp; done))) | (refine stL2 ?hq; (case hq => (simp; done))) | (refine stL3 ?hq; (case hq => (simp; done))) | (refine stL4 ?hq; (case hq => (simp; done))) | (refine stL5 ?hq; (case hq => (simp; done))) | (refine stL6 ?hq; (case hq => (simp; done))) | exact rfl)); (case hc => exact rfl); (case hold => exact rfl); (case h1 => kernel_rfl))); (try (case hw => rfl))) | ((first | (with_reducible apply wpList_ran) | (with_reducible apply wpListIn_ran (fun _ => trivial)) | (with_reducible apply wp_ran) | (with_reducible apply wpIn_ran (fun _ => trivial))); (case r => ((with_reducible apply ran_ld 40 rfl 7 (by kernel_rfl) _ Try.underlying40 rfl); (case hx => exact rfl); (case hg => (first | ((apply Blk.out); (repeat (first | (with_reducible assumption) | ((with_reducible apply Blk.set_); (case' h => skip)) | ((with_reducible apply Blk.setRow); (case' h => skip)) | ((with_reducible apply Blk.far); (case' hp => (first | (simp; done) | (simp; omega) | omega)); (case' h => skip)) | ((with_reducible apply Blk.farRow); (case' hb => (first | (simp; done) | (simp; omega) | omega)); (case' h => skip)) | (with_reducible apply Blk.drew) | (with_reducible apply Blk.drewN) | ((with_reducible apply Blk.newAt); (first | rfl | (simp; done))) | ((apply Blk.newAt); (first | rfl | (simp; done))) | (with_reducible apply Blk.alloc) | assumption)); done) | (refine hpL0 ?hq; (case hq => (simp; done))) | (refine hpL1 ?hq; (case hq => (simp; done))) | (refine hpL2 ?hq; (case hq => (simp; done))) | (refine hpL3 ?hq; (case hq => (simp; done))) | (refine hpL4 ?hq; (case hq => (simp; done))) | (refine hpL5 ?hq; (case hq => (simp; done))) | (refine hpL6 ?hq; (case hq => (simp; done))))); (case hc => exact rfl))); (try (case hw => rfl))))
        refine ⟨trivial, fun h => absurd h wide_depth, callsIn_wide.2 ((command_any t _).mono ?_)⟩
        rintro e w1 ⟨rfl, hf1⟩
        have hit := asks_item me n.toNat T k t HT.out
        generalize hct : cmdOf t = ct at hit ⊢
        have Hit := Lib.hid hit
        have Hct := Lib.hid hct
        clear hit hct c1 c2 c3
        have hf01 : Fr nowhere wr w1 := Fr.trans (Fr.alloc (Fr.refl _ _) _) hf1 (fun _ _ e => e)
        have hfk1 : Fr (fun b => Fb b ∨ b = l) W w1 := hfk.then hf01
        have hzr1 := hf01.size
        have hJ1 := HJ.out _ _ _ _ hJk hf01.kin
        have hbk1 := hbk.fr hf01 id
        have hmk1 := hmk.fr hf01 (fun _ e => e.elim)
        have hKl := HJl.out _ _ _ hJk
        have hWr := hfk.size
        obtain ⟨s1, s2, s3, s4⟩ := Stay.out w1 hfk1
        obtain ⟨c1, _⟩ := s1.facts1
        obtain ⟨c3, _⟩ := s3.facts1
        have hz1 := hfk1.size
        have hK1 : bS < w1.heap.size := by omega
        have hK3 : bM < w1.heap.size := by omega
        clear s1 s2 s3 s4 hf1 hf01
        dsimp only
        gi_wp2_with (first | ((first | (with_reducible apply wpList_ran) | (with_reducible apply wpListIn_ran (fun _ => trivial)) | (with_reducible apply wp_ran) | (with_reducible apply wpIn_ran (fun _ => trivial))); (case r => ((with_reducible apply ran_st 47 rfl rfl 17 (by kernel_rfl)); (case hx => exact rfl); (case hy => exact rfl); (case hg => (first | ((apply Blk.out); (repeat (first | (with_reducible assumption) | ((with_reducible apply Blk.set_); (case' h => skip)) | ((with_reducible apply Blk.setRow); (case' h => skip)) | ((with_reducible apply Blk.far); (case' hp => (first | (simp; done) | (simp; omega) | omega)); (case' h => skip)) | ((with_reducible apply Blk.farRow); (case' hb => (first | (simp; done) | (simp; omega) | omega)); (case' h => skip)) | (with_reducible apply Blk.drew) | (with_reducible apply Blk.drewN) | ((with_reducible apply Blk.newAt); (first | rfl | (simp; done))) | ((apply Blk.newAt); (first | rfl | (simp; done))) | (with_reducible apply Blk.alloc) | assumption)); done) | (refine hpL0 ?hq; (case hq => (simp; done))) | (refine hpL1 ?hq; (case hq => (simp; done))) | (refine hpL2 ?hq; (case hq => (simp; done))) | (refine hpL3 ?hq; (case hq => (simp; done))) | (refine hpL4 ?hq; (case hq => (simp; done))) | (refine hpL5 ?hq; (case hq => (simp; done))) | (refine hpL6 ?hq; (case hq => (simp; done))))); (case hW => (first | (refine stL0 ?hq; (case hq => (simp; done))) | (refine stL1 ?hq; (case hq => (simp; done))) | (refine stL2 ?hq; (case hq => (simp; done))) | (refine stL3 ?hq; (case hq => (simp; done))) | (refine stL4 ?hq; (case hq => (simp; done))) | (refine stL5 ?hq; (case hq => (simp; done))) | (refine stL6 ?hq; (case hq => (simp; done))) | exact rfl)); (case hc => exact rfl); (case hold => exact rfl); (case h1 => kernel_rfl))); (try (case hw => rfl))))
        refine ⟨trivial, fun h => absurd h wide_depth, callsIn_wide.2 ((others_any me n _).mono ?_)⟩
        rintro e w2 ⟨rfl, hw2⟩
        have hbC : Blk w2 w1.heap.size 47 (cmdCells ct (.slice none 0 0)) := by rw [hw2]; exact ((Blk.new w1 _ _).alloc _).alloc _
        have hbM : Blk w2 (w1.heap.size + 1) 3 #[.int .i64 me] := by rw [hw2]; exact (Blk.newAt (by simp)).alloc _
        have hbS : Blk w2 (w1.heap.size + 2) 3 #[.int .i64 n] := by rw [hw2]; exact Blk.newAt (by simp)
        have hf12 : Fr nowhere w1 w2 := by rw [hw2]; (repeat (first | exact Fr.refl _ _ | assumption | refine Fr.setCell ?_ (by first | (right; omega) | (right; simp; done) | (right; simp; omega) | (left; simp; done) | (left; simp; omega) | (left; dsimp only; omega)) _ | refine Fr.alloc ?_ _ | refine Fr.drew ?_ | refine Fr.setRow ?_ (by first | (right; omega) | (right; simp; done) | (right; simp; omega) | (left; simp; done) | (left; simp; omega) | (left; dsimp only; omega)) _))
        have hz2 : w2.heap.size = w1.heap.size + 3 := by rw [hw2]; simp
        have hfk2 := hfk1.then hf12
        have hJ2 := HJ.out _ _ _ _ hJ1 hf12.kin
        have hbk2 := hbk1.fr hf12 id
        have hmk2 := hmk1.fr hf12 (fun _ e => e.elim)
        have HC := Lib.hid hbC
        clear hw2 hbC
        dsimp only
        rw [show (w1.alloc _).heap.size + 1 = w1.heap.size + 2 by simp, show (w1.alloc _).heap.size = w1.heap.size + 1 by simp]
        gi_wp2
        generalize hbase : (asksL me n.toNat (T.take k)).length = base at *
        have Hbase := Lib.hid hbase
        clear hbase
        have hKn : ∀ b, K b → b < wr.heap.size := hKl.1
        have hf01' := hf12.size
        have hwr1 : wr.heap.size ≤ w1.heap.size := hzr1
        have hM : ∀ (K K' : Nat → Prop) (A B : World), Marks W.heap.size K A ds → Fr (Kin nowhere w2.heap.size K') A B → Marks W.heap.size K B ds := fun K K' A B h hf => Marks.kin (fun _ h => False.elim h) hmk2 h hf (Nat.le_refl _)
        have HM := Lib.hid hM
        have HKn := Lib.hid hKn
        clear hM hKn hKl
        refine wpIn_range (Fb := fun b => K b ∨ b = l) (K0 := fun b => K b ∨ b = l) (X := Items ((othersTo me n.toNat).map fun g => #[.int .i64 g])) (S := fun i => i = (othersTo me n.toNat).length) rfl rfl (fun _ => trivial) (gf := 134) rfl (fun _ _ => by kernel_rfl)
          (others1_iter _ (w1.heap.size + 2) (w1.heap.size + 1) me n _ w2 hbS hbM (by rintro (h | h); have := HKn.out _ h; omega; omega) (by rintro (h | h); have := HKn.out _ h; omega; omega) (by omega))
          ?_ ?_ (fun j K' W' => ∃ Ko : Nat → Prop, (K' = fun b => Ko b ∨ b = l) ∧ J (base + j) Ko W' ∧ Fr (fun b => Fb b ∨ b = l) W W' ∧ Grows Fb Ko W ∧ ¬ Ko W.heap.size ∧ ¬ Ko w1.heap.size ∧ Blk W' W.heap.size 175 #[.func (.yield l) #[] #[]] ∧ Blk W' w1.heap.size 47 (cmdCells ct (.slice none 0 0)) ∧ Marks W.heap.size Ko W' ds ∧ ¬ Ko w2.heap.size)
          (fun c K' W' => c = .exit 0 ∧ ∃ Ko : Nat → Prop, (K' = fun b => Ko b ∨ b = l) ∧ Jx Ko W' ∧ Marks W.heap.size Ko W' ds ∧ ¬ Ko w2.heap.size) ?_ ?_ ?_ ?_ ?_ ?_ ?_
        · intro i vs W' h
          obtain ⟨g, _, rfl⟩ := List.mem_map.1 (List.mem_of_getElem? h)
          rfl
        · rintro b (h | h)
          · exact ⟨.inl h, by have := HKn.out _ h; omega⟩
          · exact ⟨.inr h, by omega⟩
        · rintro i K' A ⟨Ko, rfl, h1, h2, _⟩ b (h | h)
          · exact (HJl.out _ _ _ h1).1 b h
          · have := h2.size; omega
        · rintro i K' A B ⟨Ko, rfl, h1, h2, h3, h4, h5, h6, h7, h8, h9⟩ hf
          exact ⟨Ko, rfl, HJ.out _ _ _ _ h1 (hf.kinLe (by omega) (fun _ h => .inl h)), h2.thenKin hf (by omega), h3, h4, h5, h6.kin hf (.inl (by omega)), h7.kin hf (.inl (by omega)), HM.out _ _ A B h8 hf, h9⟩
        · rintro c K' A B ⟨h1, Ko, rfl, h2, h3, h4⟩ hf
          exact ⟨h1, Ko, rfl, HJx.out _ _ _ h2 (hf.kinLe (by omega) (fun _ h => .inl h)), HM.out _ _ A B h3 hf, h4⟩
        · exact ⟨K, rfl, hJ2, hfk2, hgk, hnk, fun h => by have := HKn.out _ h; omega, hbk2, HC.out, hmk2, fun h => by have := HKn.out _ h; omega⟩
        · rintro i K' vs W' hW' _ ⟨Ko, rfl, h1, h2, h3, h4, h5, h6, h7, h8, h9⟩ _ _ hx
          obtain ⟨gg, hgg, rfl⟩ : ∃ gg, (othersTo me n.toNat)[i]? = some gg ∧ vs = #[.int .i64 gg] := by
            have hx' : ((othersTo me n.toNat).map fun g => #[Value.int .i64 g])[i]? = some vs := hx
            rw [List.getElem?_map] at hx'
            cases hq : (othersTo me n.toNat)[i]? with
            | none => rw [hq] at hx'; cases hx'
            | some gg => rw [hq] at hx'; exact ⟨gg, rfl, (Option.some.inj hx').symm⟩
          have hitem := Hit.out i gg hgg
          have Hitem := Lib.hid hitem
          have Hgg := Lib.hid hgg
          clear hitem hgg hx h1 h2 h3 h4 h5 h6 h7 h8 h9
          gi_wp2
          refine ⟨Fr.refl _ _, fun W2 hfW Ko' he h1 h2 h3 h4 h5 h6 h7 h8 h9 _ _ => ?_⟩
          have hKK : ∀ b, Ko' b → Ko b ∨ b = l := fun b hb => by have := congrFun he b; simp only [eq_iff_iff] at this; exact this.2 (.inl hb)
          have hKK' : ∀ b, Ko b → Ko' b ∨ b = l := fun b hb => by have := congrFun he b; simp only [eq_iff_iff] at this; exact this.1 (.inl hb)
          rw [he]
          have HKK := Lib.hid hKK
          have HKK' := Lib.hid hKK'
          clear he hKK hKK'
          obtain ⟨d1, _⟩ := h6.facts1
          have hz5 := h2.size
          obtain ⟨fn, tmps, assign, body, hy, hR⟩ := HY.out (base + i) Ko' _ W2 hz5 h1 Hitem.out
          have HR := Lib.hid (roundIn_wide (l' := w2.heap.size + 1) (n' := m - 1 - 1 - 1) hR)
          clear hR
          gi_wp2_with (first | ((first | (with_reducible apply wpList_ran) | (with_reducible apply wpListIn_ran (fun _ => trivial)) | (with_reducible apply wp_ran) | (with_reducible apply wpIn_ran (fun _ => trivial))); (case r => ((with_reducible apply ran_ld 47 rfl 17 (by kernel_rfl) _ Try.underlying47 rfl); (case hx => exact rfl); (case hg => (first | ((apply Blk.out); (repeat (first | (with_reducible assumption) | ((with_reducible apply Blk.set_); (case' h => skip)) | ((with_reducible apply Blk.setRow); (case' h => skip)) | ((with_reducible apply Blk.far); (case' hp => (first | (simp; done) | (simp; omega) | omega)); (case' h => skip)) | ((with_reducible apply Blk.farRow); (case' hb => (first | (simp; done) | (simp; omega) | omega)); (case' h => skip)) | (with_reducible apply Blk.drew) | (with_reducible apply Blk.drewN) | ((with_reducible apply Blk.newAt); (first | rfl | (simp; done))) | ((apply Blk.newAt); (first | rfl | (simp; done))) | (with_reducible apply Blk.alloc) | assumption)); done) | (refine hpL0 ?hq; (case hq => (simp; done))) | (refine hpL1 ?hq; (case hq => (simp; done))) | (refine hpL2 ?hq; (case hq => (simp; done))) | (refine hpL3 ?hq; (case hq => (simp; done))) | (refine hpL4 ?hq; (case hq => (simp; done))) | (refine hpL5 ?hq; (case hq => (simp; done))) | (refine hpL6 ?hq; (case hq => (simp; done))))); (case hc => exact rfl))); (try (case hw => rfl))) | ((first | (with_reducible apply wpList_ran) | (with_reducible apply wpListIn_ran (fun _ => trivial)) | (with_reducible apply wp_ran) | (with_reducible apply wpIn_ran (fun _ => trivial))); (case r => ((with_reducible apply ran_bd rfl (bd_ask _ _ _ _ _ _)); (first | (case he => exact rfl) | exact rfl))); (try (case hw => rfl))))
          refine ⟨fun h => absurd h wide_depth, HR.out.mono ?_⟩
          rintro e W3 (⟨rfl, K3, hJ3, hg3, hf3⟩ | ⟨rfl, K3, hJx3, hg3, hf3⟩)
          · clear hy
            dsimp only
            gi_wp2
            have hzW := hfW.size
            exact ⟨fun b => K3 b ∨ b = l, ⟨K3, rfl, hJ3, Grows.fr h2 h3 hf3, h3.trans hg3 hz5, hg3.not h4 (by omega), hg3.not h5 (by omega), h6.next hf3 h4 hlW, h7.next hf3 h5 (by omega), h8.next hf3 hg3 hlW, hg3.not h9 (by omega)⟩, hg3.or, hf3⟩
          · clear hy
            dsimp only
            gi_wp2
            have hzW := hfW.size
            exact ⟨fun b => K3 b ∨ b = l, ⟨rfl, K3, rfl, hJx3, h8.next hf3 hg3 hlW, hg3.not h9 (by omega)⟩, hg3.or, hf3⟩
        · rintro i K' W' rfl ⟨Ko, rfl, h1, h2, h3, h4, h5, h6, h7, h8, h9⟩ hd
          dsimp only
          gi_wp2
          refine ⟨⟨k + 1, Ko, _, _, _, _, _, _, _, _, _, _, _, _, _, _, _, _, _, _, _, _, by omega, ?_, h2, h3, h4, h6, hmk2.cons h8 (by omega) h9 hd, rfl⟩, by simp [intOf]; omega⟩
          have e1 : T.take (k + 1) = T.take k ++ [t] := by rw [List.take_add_one, HT.out]; rfl
          rw [e1, asksL_snoc, List.length_append, List.length_map, Hbase.out]
          exact h1
        · rintro c K' W' ⟨rfl, Ko, _, h1, h2, h3⟩ hd
          dsimp only
          gi_wp2
          rw [Exit.noGoto_normal]
          exact leaves_many (B := W.heap.size) (hmk2.cons h2 (by omega) h3 hd) (fun _ _ => results_none rfl _ _ _) (fun w' hf => ⟨⟨_, rfl⟩, .inr ⟨Ko, HJx.out _ _ _ h1 hf⟩⟩)
      · have hkn : k = q := by omega
        subst hkn
        have hl : T.take k = T := List.take_of_length_le (by rw [Ht.out]; omega)
        rw [hl] at hJk
        clear hl s1 s2 s3 s4
        gi_wp2
        rw [Exit.noGoto_normal]
        exact leaves_many (B := W.heap.size) hmk (fun _ _ => results_none rfl _ _ _) (fun w' hf => ⟨⟨_, rfl⟩, .inl ⟨_, K, rfl, HJ.out _ _ _ _ hJk hf⟩⟩)
end Go.Proofs.Ytglcmlicfmmlpaa
