/- What a shard asks, by the reference. -/
import Derived.Test.YtglcmlicfmmlpaaTxnRefNext
namespace Go.Proofs.Ytglcmlicfmmlpaa
open Go.RowKit

theorem ei_rask : EI Try.prog 30 (.agg #[.int .i64 0, .int .i64 0, .int .i64 0, .string ⟨#[]⟩, .string ⟨#[]⟩, .int .i64 0, .string ⟨#[]⟩, .int .i64 0, .int .i64 0, .string ⟨#[]⟩, .string ⟨#[]⟩, .int .i64 0, .int .i64 0, .int .i64 0, .int .i64 0, .int .i64 0, .bool false, .slice none 0 0]) 18 200 := ei_of (by kernel_rfl) rfl (by omega)
theorem bs_rask (g : Int) (c : Cmd) (w : World) : (Instr.buildSlice 43 1 #[(0, askV g c (.slice none 0 0))]).run Try.prog w = .ok (.slice (some ⟨w.heap.size, 0, none⟩) 1 1) (w.alloc (.cells (askCells (g, c)).toArray 30)) := by kernel_rfl
theorem bdr_prep (s t : ByteArray) (n : Int) (w : World) : (Instr.build 28 #[(0, .int .i64 2), (2, .string s), (3, .string t), (4, .int .i64 n)]).run Try.prog w = .ok (.agg #[.int .i64 2, .int .i64 0, .string ⟨#[]⟩, .string ⟨#[]⟩, .int .i64 0, .string ⟨#[]⟩, .int .i64 0, .int .i64 0, .string s, .string t, .int .i64 n, .int .i64 0, .int .i64 0, .int .i64 0, .int .i64 0, .bool false, .slice none 0 0]) w := by kernel_rfl
theorem bdr_fin (s t : ByteArray) (w : World) : (Instr.build 28 #[(0, .int .i64 4), (2, .string s), (3, .string t)]).run Try.prog w = .ok (.agg #[.int .i64 4, .int .i64 0, .string ⟨#[]⟩, .string ⟨#[]⟩, .int .i64 0, .string ⟨#[]⟩, .int .i64 0, .int .i64 0, .string s, .string t, .int .i64 0, .int .i64 0, .int .i64 0, .int .i64 0, .int .i64 0, .bool false, .slice none 0 0]) w := by kernel_rfl
def Asked (me n : Int) (T : List Txn) (w : World) (e : Ending) (w' : World) : Prop := ∃ B cb, e = .returned (.slice B (asksP me n T).length cb) ∧
      w'.ownsRow w.heap.size 30 18 (.slice B (asksP me n T).length cb) (asksP me n T).length ((asksP me n T).flatMap askCells) ∧ Fr nowhere w w'
theorem asksL_zero (me : Int) (T : List Txn) : asksL me 0 T = [] := by
  induction T with
  | nil => rfl
  | cons x T ih => simp [asksL, ih, othersTo]
/-- What has been asked after k transfers and j groups of the next one. -/
def askedTo (me : Int) (N : Nat) (T : List Txn) (t : Txn) (k j : Nat) : List (Int × Cmd) := asksL me N (T.take k) ++ (othersTo me j).map (fun g => (g, cmdOf t))
theorem askedTo_zero (me : Int) (N : Nat) (T : List Txn) (t : Txn) (k : Nat) : askedTo me N T t k 0 = asksL me N (T.take k) := by simp [askedTo, othersTo]
theorem askedTo_end (me : Int) (N : Nat) (T : List Txn) (t : Txn) (k : Nat) (h : T[k]? = some t) : askedTo me N T t k N = asksL me N (T.take (k + 1)) := by
  rw [List.take_add_one, h, Option.toList_some, asksL_snoc]; rfl
theorem askedTo_me (me : Int) (N : Nat) (T : List Txn) (t : Txn) (k j : Nat) (h : (j : Int) + 1 = me) : askedTo me N T t k (j + 1) = askedTo me N T t k j := by simp [askedTo, othersTo_succ, h]
theorem askedTo_other (me : Int) (N : Nat) (T : List Txn) (t : Txn) (k j : Nat) (h : ¬ (j : Int) + 1 = me) : askedTo me N T t k (j + 1) = askedTo me N T t k j ++ [((j : Int) + 1, cmdOf t)] := by simp [askedTo, othersTo_succ, h]
theorem othersTo_le (me : Int) (k : Nat) : (othersTo me k).length ≤ k := by
  unfold othersTo
  exact Nat.le_trans (List.length_filter_le _ _) (by simp)
theorem askedTo_le (me : Int) (N : Nat) (T : List Txn) (t : Txn) (k j : Nat) (hN : N ≤ 3) (hj : j ≤ 3) : (askedTo me N T t k j).length ≤ 3 * T.length + 3 := by
  have h1 := othersTo_le me j
  have h2 := asksL_len me N (T.take k)
  have h3 := othersTo_le me N
  have h4 : (T.take k).length * (othersTo me N).length ≤ T.length * 3 := Nat.mul_le_mul (by simp; omega) (by omega)
  simp only [askedTo, List.length_append, List.length_map]
  omega
set_option maxRecDepth 100000 in
set_option maxHeartbeats 4000000 in
theorem refAsks_any (me n : Int) (T : List Txn) (A : Option Addr) (c : Nat) (cs : List Value) (w : World) (hsl : Sl w (fun b => b < w.heap.size) 7 (.slice A T.length c) T.length cs) (hcs : RowsL TxnR T cs) (hT : T.length ≤ 1000) :
    Calls Try.prog 14 #[.int .i64 me, .int .i64 n, .slice A T.length c] w (Asked me n T w) := by
  by_cases h1 : n < 1
  · have e0 : asksP me n T = [] := by unfold asksP; rw [if_neg (by omega), show n.toNat = 0 by omega]; exact asksL_zero _ _
    clear hsl hcs
    generalize T.length = q at *
    go_enter Try.func14, Try.ntmps14
    go_wp2
    go_ret
    exact ⟨none, 0, by rw [e0]; rfl, by rw [e0]; exact World.ownsRow_nil _ _ _ _, Fr.refl _ _⟩
  by_cases h3 : 3 < n
  · have e0 : asksP me n T = [] := if_pos h3
    clear hsl hcs
    generalize T.length = q at *
    go_enter Try.func14, Try.ntmps14
    go_wp2
    go_ret
    exact ⟨none, 0, by rw [e0]; rfl, by rw [e0]; exact World.ownsRow_nil _ _ _ _, Fr.refl _ _⟩
  have e0 : asksP me n T = asksL me n.toNat T := if_neg h3
  have hlen := fun t k j h => askedTo_le me n.toNat T t k j (by omega) h
  generalize hq : T.length = q at *
  have hm : q ≤ 9223372036854775807 := by omega
  have Hq := Lib.hid hq
  have Hsl := Lib.hid hsl
  have Hcs := Lib.hid hcs
  have He0 := Lib.hid e0
  have Hlen := Lib.hid hlen
  clear hq hsl hcs e0 hlen
  go_enter Try.func14, Try.ntmps14
  go_wp2
  go_loopw [7, 8] (fun ov iv wr => ∃ (k : Nat) (B : Option Addr) (cb : Nat), iv = .int .i64 k ∧ k ≤ q ∧ ov = .slice B (asksL me n.toNat (T.take k)).length cb ∧ wr.ownsRow w.heap.size 30 18 (.slice B (asksL me n.toNat (T.take k)).length cb) (asksL me n.toNat (T.take k)).length ((asksL me n.toNat (T.take k)).flatMap askCells) ∧ Fr nowhere w wr) (fun _ iv _ => q - (intOf iv).toNat)
  case atStart => exact ⟨0, none, 0, rfl, Nat.zero_le _, rfl, World.ownsRow_nil _ _ _ _, Fr.refl _ _⟩
  case round =>
    obtain ⟨wo, rfl⟩ : ∃ wo : World, wo = wr := ⟨_, rfl⟩
    obtain ⟨k, B, cb, rfl, hk, rfl, hown, hfr⟩ := hrel
    by_cases hlt : k < q
    · obtain ⟨t, ht⟩ : ∃ t, T[k]? = some t := ⟨_, List.getElem?_eq_getElem (by have := Hq.out; omega)⟩
      obtain ⟨cc, hcc, hget⟩ := Hcs.out.get (k := 7) (fun y c hy => by cases hy; rfl) ht
      cases hcc
      obtain ⟨_, _, he, _, _, _, hA⟩ := Hsl.out
      injection he with he1 he2 he3
      subst he1
      obtain ⟨g, o, rfl, hgl, hgG, hcell⟩ := hA (by omega)
      have r7 : wo.rangeAt g (o + k * 7) [.string t.id, .string t.src, .string t.key, .string t.dst, .int .i64 t.n, .bool t.done, .int .i64 t.why] := fun j u hu => by
        rw [Nat.add_assoc]
        exact (World.cell?_of_block (w := w) (hfr.block g hgl id)).trans (hcell _ _ (hget j u hu))
      have hi1 : (k : Int) < (q : Int) := by omega
      have R7 := Lib.hid r7
      have Hz := askedTo_zero me n.toNat T t k
      have Hend := Lib.hid (askedTo_end me n.toNat T t k ht)
      have Hme := Lib.hid (askedTo_me me n.toNat T t k)
      have Hoth := Lib.hid (askedTo_other me n.toNat T t k)
      have Hle := Lib.hid (fun j => Hlen.out t k j)
      rw [← Hz] at hown ⊢
      generalize hLj : askedTo me n.toNat T t k = Lj at *
      have Hown := Lib.hid hown
      clear hown Hz hLj r7 hget hcell ht he2 he3 hgG hA
      obtain ⟨tid, src, key, dst, tn, done, why⟩ := t
      have fin : ∀ ct : Cmd, cmdOf ⟨tid, src, key, dst, tn, done, why⟩ = ct → (∀ j : Nat, ¬ (j : Int) + 1 = me → Lj (j + 1) = Lj j ++ [((j : Int) + 1, ct)]) := by rintro ct rfl; exact Hoth.out
      have Hfin := Lib.hid fin
      clear Hoth fin
      rcases done with _ | _
      · have hoth := Lib.hid (Hfin.out _ (cmdOf_open _ _ _ _ _ _))
        generalize hct : ({ cmd0 with kind := 2, id := tid, name := dst, n := tn } : Cmd) = ct at hoth
        have Hct := Lib.hid hct
        clear hct Hfin
        go_wp2_with (first | ((first | (with_reducible apply wpList_ran) | (with_reducible apply wpListIn_ran (fun _ => trivial)) | (with_reducible apply wp_ran) | (with_reducible apply wpIn_ran (fun _ => trivial))); (case r => ((with_reducible apply ran_ldm 39 rfl 7 (by kernel_rfl) _ Try.underlying39 rfl); (case hx => exact rfl); (case hg => exact R7.out); (case hc => exact rfl))); (try (case hw => rfl))) | ((first | (with_reducible apply wpList_ran) | (with_reducible apply wpListIn_ran (fun _ => trivial)) | (with_reducible apply wp_ran) | (with_reducible apply wpIn_ran (fun _ => trivial))); (case r => ((with_reducible apply ran_st 39 rfl rfl 7 (by kernel_rfl)); (case hx => exact rfl); (case hy => exact rfl); (case hg => (first | ((apply Blk.out); (repeat (first | (with_reducible assumption) | ((with_reducible apply Blk.set_); (case' h => skip)) | ((with_reducible apply Blk.setRow); (case' h => skip)) | ((with_reducible apply Blk.far); (case' hp => (first | (simp; done) | (simp; omega) | omega)); (case' h => skip)) | ((with_reducible apply Blk.farRow); (case' hb => (first | (simp; done) | (simp; omega) | omega)); (case' h => skip)) | (with_reducible apply Blk.drew) | (with_reducible apply Blk.drewN) | ((with_reducible apply Blk.newAt); (first | rfl | (simp; done))) | ((apply Blk.newAt); (first | rfl | (simp; done))) | (with_reducible apply Blk.alloc) | assumption)); done) | (refine hpL0 ?hq; (case hq => (simp; done))) | (refine hpL1 ?hq; (case hq => (simp; done))) | (refine hpL2 ?hq; (case hq => (simp; done))) | (refine hpL3 ?hq; (case hq => (simp; done))) | (refine hpL4 ?hq; (case hq => (simp; done))) | (refine hpL5 ?hq; (case hq => (simp; done))) | (refine hpL6 ?hq; (case hq => (simp; done))))); (case hW => (first | (refine stL0 ?hq; (case hq => (simp; done))) | (refine stL1 ?hq; (case hq => (simp; done))) | (refine stL2 ?hq; (case hq => (simp; done))) | (refine stL3 ?hq; (case hq => (simp; done))) | (refine stL4 ?hq; (case hq => (simp; done))) | (refine stL5 ?hq; (case hq => (simp; done))) | (refine stL6 ?hq; (case hq => (simp; done))) | exact rfl)); (case hc => exact rfl); (case hold => exact rfl); (case h1 => kernel_rfl))); (try (case hw => rfl))) | ((first | (with_reducible apply wpList_ran) | (with_reducible apply wpListIn_ran (fun _ => trivial)) | (with_reducible apply wp_ran) | (with_reducible apply wpIn_ran (fun _ => trivial))); (case r => ((with_reducible apply ran_bd rfl (bdr_prep _ _ _ _)); (first | (case he => exact rfl) | exact rfl))); (try (case hw => rfl))) | ((first | (with_reducible apply wpList_ran) | (with_reducible apply wpListIn_ran (fun _ => trivial)) | (with_reducible apply wp_ran) | (with_reducible apply wpIn_ran (fun _ => trivial))); (case r => ((with_reducible apply ran_st 28 rfl rfl 17 (by kernel_rfl)); (case hx => exact rfl); (case hy => exact rfl); (case hg => (first | ((apply Blk.out); (repeat (first | (with_reducible assumption) | ((with_reducible apply Blk.set_); (case' h => skip)) | ((with_reducible apply Blk.setRow); (case' h => skip)) | ((with_reducible apply Blk.far); (case' hp => (first | (simp; done) | (simp; omega) | omega)); (case' h => skip)) | ((with_reducible apply Blk.farRow); (case' hb => (first | (simp; done) | (simp; omega) | omega)); (case' h => skip)) | (with_reducible apply Blk.drew) | (with_reducible apply Blk.drewN) | ((with_reducible apply Blk.newAt); (first | rfl | (simp; done))) | ((apply Blk.newAt); (first | rfl | (simp; done))) | (with_reducible apply Blk.alloc) | assumption)); done) | (refine hpL0 ?hq; (case hq => (simp; done))) | (refine hpL1 ?hq; (case hq => (simp; done))) | (refine hpL2 ?hq; (case hq => (simp; done))) | (refine hpL3 ?hq; (case hq => (simp; done))) | (refine hpL4 ?hq; (case hq => (simp; done))) | (refine hpL5 ?hq; (case hq => (simp; done))) | (refine hpL6 ?hq; (case hq => (simp; done))))); (case hW => (first | (refine stL0 ?hq; (case hq => (simp; done))) | (refine stL1 ?hq; (case hq => (simp; done))) | (refine stL2 ?hq; (case hq => (simp; done))) | (refine stL3 ?hq; (case hq => (simp; done))) | (refine stL4 ?hq; (case hq => (simp; done))) | (refine stL5 ?hq; (case hq => (simp; done))) | (refine stL6 ?hq; (case hq => (simp; done))) | exact rfl)); (case hc => exact rfl); (case hold => exact rfl); (case h1 => kernel_rfl))); (try (case hw => rfl))))
        go_loopw [7, 11] (fun ov gv wi => ∃ (j : Nat) (B : Option Addr) (cb : Nat), gv = .int .i64 (j + 1) ∧ j ≤ n.toNat ∧ ov = .slice B (Lj j).length cb ∧ wi.ownsRow w.heap.size 30 18 (.slice B (Lj j).length cb) (Lj j).length ((Lj j).flatMap askCells) ∧ Blk wi (wo.heap.size + 1) 28 (cmdCells ct (.slice none 0 0)) ∧ Fr nowhere w wi) (fun _ gv _ => n.toNat + 1 - (intOf gv).toNat)
        case atStart =>
          have hz := hfr.size
          refine ⟨0, B, cb, rfl, Nat.zero_le _, rfl, own_fr Hown.out (F := nowhere) (by (repeat (first | exact Fr.refl _ _ | assumption | refine Fr.setCell ?_ (by first | (right; omega) | (right; simp; done) | (right; simp; omega) | (left; simp; done) | (left; simp; omega) | (left; dsimp only; omega)) _ | refine Fr.alloc ?_ _ | refine Fr.drew ?_ | refine Fr.setRow ?_ (by first | (right; omega) | (right; simp; done) | (right; simp; omega) | (left; simp; done) | (left; simp; omega) | (left; dsimp only; omega)) _))) (fun _ _ => id), ?_, by (repeat (first | exact Fr.refl _ _ | assumption | refine Fr.setCell ?_ (by first | (right; omega) | (right; simp; done) | (right; simp; omega) | (left; simp; done) | (left; simp; omega) | (left; dsimp only; omega)) _ | refine Fr.alloc ?_ _ | refine Fr.drew ?_ | refine Fr.setRow ?_ (by first | (right; omega) | (right; simp; done) | (right; simp; omega) | (left; simp; done) | (left; simp; omega) | (left; dsimp only; omega)) _))⟩
          rw [← Hct.out]
          apply Blk.newAt; simp
        case round =>
          obtain ⟨j, B2, cb2, rfl, hj, rfl, hown2, hbC, hf2⟩ := hrel
          have hz2 := hf2.size
          have Hown2 := Lib.hid hown2
          clear hown2
          by_cases hjn : (j : Int) + 1 ≤ n
          · by_cases hme : (j : Int) + 1 = me
            · have e := Lib.hid (Hme.out j hme)
              have hme' : ((j : Int) + 1 != me) = false := by simpa using hme
              clear hme
              go_wp2
              go_roundw
              case rel => exact ⟨j + 1, B2, cb2, by go_num, by omega, by rw [e.out], by rw [e.out]; exact Hown2.out, hbC, hf2⟩
              case measure => simp [intOf]; omega
            · have e := Lib.hid (hoth.out j hme)
              have hme' : ((j : Int) + 1 != me) = true := by simpa using hme
              have hl := Hle.out j (by omega)
              clear hme
              go_wp2_with (first | ((first | (with_reducible apply wpList_ran) | (with_reducible apply wpListIn_ran (fun _ => trivial)) | (with_reducible apply wp_ran) | (with_reducible apply wpIn_ran (fun _ => trivial))); (case r => ((with_reducible apply ran_ld 28 rfl 17 (by kernel_rfl) _ Try.underlying28 rfl); (case hx => exact rfl); (case hg => (first | ((apply Blk.out); (repeat (first | (with_reducible assumption) | ((with_reducible apply Blk.set_); (case' h => skip)) | ((with_reducible apply Blk.setRow); (case' h => skip)) | ((with_reducible apply Blk.far); (case' hp => (first | (simp; done) | (simp; omega) | omega)); (case' h => skip)) | ((with_reducible apply Blk.farRow); (case' hb => (first | (simp; done) | (simp; omega) | omega)); (case' h => skip)) | (with_reducible apply Blk.drew) | (with_reducible apply Blk.drewN) | ((with_reducible apply Blk.newAt); (first | rfl | (simp; done))) | ((apply Blk.newAt); (first | rfl | (simp; done))) | (with_reducible apply Blk.alloc) | assumption)); done) | (refine hpL0 ?hq; (case hq => (simp; done))) | (refine hpL1 ?hq; (case hq => (simp; done))) | (refine hpL2 ?hq; (case hq => (simp; done))) | (refine hpL3 ?hq; (case hq => (simp; done))) | (refine hpL4 ?hq; (case hq => (simp; done))) | (refine hpL5 ?hq; (case hq => (simp; done))) | (refine hpL6 ?hq; (case hq => (simp; done))))); (case hc => exact rfl))); (try (case hw => rfl))) | ((first | (with_reducible apply wpList_ran) | (with_reducible apply wpListIn_ran (fun _ => trivial)) | (with_reducible apply wp_ran) | (with_reducible apply wpIn_ran (fun _ => trivial))); (case r => ((with_reducible apply ran_bd rfl (bd_refask _ ct _ _ _ _)); (first | (case he => exact rfl) | exact rfl))); (try (case hw => rfl))) | (((first | (with_reducible apply wpList_ran) | (with_reducible apply wpListIn_ran (fun _ => trivial)) | (with_reducible apply wp_ran) | (with_reducible apply wpIn_ran (fun _ => trivial))); (case r => ((with_reducible apply ran_bsl rfl (bs_rask _ ct _)); (first | (case he => exact rfl) | exact rfl))); (try (case hw => rfl))); refine wpList_app rfl rfl w.heap.size Try.underlying43 ei_rask (.slice B2 (Lj j).length cb2) (Lj j).length ((Lj j).flatMap askCells) rfl (own_fr Hown2.out (F := nowhere) (by (repeat (first | exact Fr.refl _ _ | assumption | refine Fr.setCell ?_ (by first | (right; omega) | (right; simp; done) | (right; simp; omega) | (left; simp; done) | (left; simp; omega) | (left; dsimp only; omega)) _ | refine Fr.alloc ?_ _ | refine Fr.drew ?_ | refine Fr.setRow ?_ (by first | (right; omega) | (right; simp; done) | (right; simp; omega) | (left; simp; done) | (left; simp; omega) | (left; dsimp only; omega)) _))) (fun _ _ => id)) ⟨wr.heap.size, 0, none⟩ 1 1 (askCells ((j : Int) + 1, ct)) rfl rfl (news_last rfl) (fun u hu => askCells_one [((j : Int) + 1, ct)] u (by simpa using hu)) (by simp only [maxLen]; omega) (by omega) (by simp; omega) ?_; intro v3 w3 hown3 hg3 _ hat3; obtain ⟨B3, cb3, rfl, _⟩ := ownsRow_slice hown3; have hbC3 := (hbC.alloc _).grown hg3 (fun e => by obtain ⟨cs', hb', _⟩ := own_blk Hown2.out e.symm; exact hbC.ne_ hb' (by decide) rfl); have Hown3 := Lib.hid hown3; have Hg3 := Lib.hid hg3; clear hown3 hg3 hat3))
              go_roundw
              case rel =>
                refine ⟨j + 1, B3, cb3, by go_num, by omega, ?_, ?_, hbC3, ?_⟩
                · rw [e.out, List.length_append]; rfl
                · rw [e.out, List.flatMap_append, List.length_append, List.flatMap_cons, List.flatMap_nil, List.append_nil]; exact Hown3.out
                · refine Fr.trans hf2 (((Fr.refl (fun b => (Value.slice B2 (Lj j).length cb2).ownBlock = some b) wr).alloc _).grown Hg3.out (fun g e => .inl e)) (fun b hb e => ?_)
                  have := (own_blk Hown2.out e).choose_spec.2
                  omega
              case measure => simp [intOf]; omega
          · have hje : j = n.toNat := by omega
            have Hje := Lib.hid hje
            clear hje
            go_wp2
            go_roundw
            case rel =>
              have e := (congrArg Lj Hje.out).trans Hend.out
              exact ⟨k + 1, B2, cb2, by go_num, by omega, by rw [← e], by rw [← e]; exact Hown2.out, hf2⟩
            case measure => simp [intOf]; omega
      · by_cases hw : why = 0
        · subst hw
          have hoth := Lib.hid (Hfin.out _ ((cmdOf_done _ _ _ _ _ _).trans (by rw [if_pos rfl])))
          generalize hct : ({ cmd0 with kind := 4, id := tid, name := dst, why := 0 } : Cmd) = ct at hoth
          have Hct := Lib.hid hct
          clear hct Hfin
          go_wp2_with (first | ((first | (with_reducible apply wpList_ran) | (with_reducible apply wpListIn_ran (fun _ => trivial)) | (with_reducible apply wp_ran) | (with_reducible apply wpIn_ran (fun _ => trivial))); (case r => ((with_reducible apply ran_ldm 39 rfl 7 (by kernel_rfl) _ Try.underlying39 rfl); (case hx => exact rfl); (case hg => exact R7.out); (case hc => exact rfl))); (try (case hw => rfl))) | ((first | (with_reducible apply wpList_ran) | (with_reducible apply wpListIn_ran (fun _ => trivial)) | (with_reducible apply wp_ran) | (with_reducible apply wpIn_ran (fun _ => trivial))); (case r => ((with_reducible apply ran_st 39 rfl rfl 7 (by kernel_rfl)); (case hx => exact rfl); (case hy => exact rfl); (case hg => (first | ((apply Blk.out); (repeat (first | (with_reducible assumption) | ((with_reducible apply Blk.set_); (case' h => skip)) | ((with_reducible apply Blk.setRow); (case' h => skip)) | ((with_reducible apply Blk.far); (case' hp => (first | (simp; done) | (simp; omega) | omega)); (case' h => skip)) | ((with_reducible apply Blk.farRow); (case' hb => (first | (simp; done) | (simp; omega) | omega)); (case' h => skip)) | (with_reducible apply Blk.drew) | (with_reducible apply Blk.drewN) | ((with_reducible apply Blk.newAt); (first | rfl | (simp; done))) | ((apply Blk.newAt); (first | rfl | (simp; done))) | (with_reducible apply Blk.alloc) | assumption)); done) | (refine hpL0 ?hq; (case hq => (simp; done))) | (refine hpL1 ?hq; (case hq => (simp; done))) | (refine hpL2 ?hq; (case hq => (simp; done))) | (refine hpL3 ?hq; (case hq => (simp; done))) | (refine hpL4 ?hq; (case hq => (simp; done))) | (refine hpL5 ?hq; (case hq => (simp; done))) | (refine hpL6 ?hq; (case hq => (simp; done))))); (case hW => (first | (refine stL0 ?hq; (case hq => (simp; done))) | (refine stL1 ?hq; (case hq => (simp; done))) | (refine stL2 ?hq; (case hq => (simp; done))) | (refine stL3 ?hq; (case hq => (simp; done))) | (refine stL4 ?hq; (case hq => (simp; done))) | (refine stL5 ?hq; (case hq => (simp; done))) | (refine stL6 ?hq; (case hq => (simp; done))) | exact rfl)); (case hc => exact rfl); (case hold => exact rfl); (case h1 => kernel_rfl))); (try (case hw => rfl))) | ((first | (with_reducible apply wpList_ran) | (with_reducible apply wpListIn_ran (fun _ => trivial)) | (with_reducible apply wp_ran) | (with_reducible apply wpIn_ran (fun _ => trivial))); (case r => ((with_reducible apply ran_bd rfl (bdr_prep _ _ _ _)); (first | (case he => exact rfl) | exact rfl))); (try (case hw => rfl))) | ((first | (with_reducible apply wpList_ran) | (with_reducible apply wpListIn_ran (fun _ => trivial)) | (with_reducible apply wp_ran) | (with_reducible apply wpIn_ran (fun _ => trivial))); (case r => ((with_reducible apply ran_bd rfl (bdr_fin _ _ _)); (first | (case he => exact rfl) | exact rfl))); (try (case hw => rfl))) | ((first | (with_reducible apply wpList_ran) | (with_reducible apply wpListIn_ran (fun _ => trivial)) | (with_reducible apply wp_ran) | (with_reducible apply wpIn_ran (fun _ => trivial))); (case r => ((with_reducible apply ran_st 28 rfl rfl 17 (by kernel_rfl)); (case hx => exact rfl); (case hy => exact rfl); (case hg => (first | ((apply Blk.out); (repeat (first | (with_reducible assumption) | ((with_reducible apply Blk.set_); (case' h => skip)) | ((with_reducible apply Blk.setRow); (case' h => skip)) | ((with_reducible apply Blk.far); (case' hp => (first | (simp; done) | (simp; omega) | omega)); (case' h => skip)) | ((with_reducible apply Blk.farRow); (case' hb => (first | (simp; done) | (simp; omega) | omega)); (case' h => skip)) | (with_reducible apply Blk.drew) | (with_reducible apply Blk.drewN) | ((with_reducible apply Blk.newAt); (first | rfl | (simp; done))) | ((apply Blk.newAt); (first | rfl | (simp; done))) | (with_reducible apply Blk.alloc) | assumption)); done) | (refine hpL0 ?hq; (case hq => (simp; done))) | (refine hpL1 ?hq; (case hq => (simp; done))) | (refine hpL2 ?hq; (case hq => (simp; done))) | (refine hpL3 ?hq; (case hq => (simp; done))) | (refine hpL4 ?hq; (case hq => (simp; done))) | (refine hpL5 ?hq; (case hq => (simp; done))) | (refine hpL6 ?hq; (case hq => (simp; done))))); (case hW => (first | (refine stL0 ?hq; (case hq => (simp; done))) | (refine stL1 ?hq; (case hq => (simp; done))) | (refine stL2 ?hq; (case hq => (simp; done))) | (refine stL3 ?hq; (case hq => (simp; done))) | (refine stL4 ?hq; (case hq => (simp; done))) | (refine stL5 ?hq; (case hq => (simp; done))) | (refine stL6 ?hq; (case hq => (simp; done))) | exact rfl)); (case hc => exact rfl); (case hold => exact rfl); (case h1 => kernel_rfl))); (try (case hw => rfl))))
          go_loopw [7, 11] (fun ov gv wi => ∃ (j : Nat) (B : Option Addr) (cb : Nat), gv = .int .i64 (j + 1) ∧ j ≤ n.toNat ∧ ov = .slice B (Lj j).length cb ∧ wi.ownsRow w.heap.size 30 18 (.slice B (Lj j).length cb) (Lj j).length ((Lj j).flatMap askCells) ∧ Blk wi (wo.heap.size + 1) 28 (cmdCells ct (.slice none 0 0)) ∧ Fr nowhere w wi) (fun _ gv _ => n.toNat + 1 - (intOf gv).toNat)
          case atStart =>
            have hz := hfr.size
            refine ⟨0, B, cb, rfl, Nat.zero_le _, rfl, own_fr Hown.out (F := nowhere) (by (repeat (first | exact Fr.refl _ _ | assumption | refine Fr.setCell ?_ (by first | (right; omega) | (right; simp; done) | (right; simp; omega) | (left; simp; done) | (left; simp; omega) | (left; dsimp only; omega)) _ | refine Fr.alloc ?_ _ | refine Fr.drew ?_ | refine Fr.setRow ?_ (by first | (right; omega) | (right; simp; done) | (right; simp; omega) | (left; simp; done) | (left; simp; omega) | (left; dsimp only; omega)) _))) (fun _ _ => id), ?_, by (repeat (first | exact Fr.refl _ _ | assumption | refine Fr.setCell ?_ (by first | (right; omega) | (right; simp; done) | (right; simp; omega) | (left; simp; done) | (left; simp; omega) | (left; dsimp only; omega)) _ | refine Fr.alloc ?_ _ | refine Fr.drew ?_ | refine Fr.setRow ?_ (by first | (right; omega) | (right; simp; done) | (right; simp; omega) | (left; simp; done) | (left; simp; omega) | (left; dsimp only; omega)) _))⟩
            rw [← Hct.out]
            apply Blk.newAt; simp
          case round =>
            obtain ⟨j, B2, cb2, rfl, hj, rfl, hown2, hbC, hf2⟩ := hrel
            have hz2 := hf2.size
            have Hown2 := Lib.hid hown2
            clear hown2
            by_cases hjn : (j : Int) + 1 ≤ n
            · by_cases hme : (j : Int) + 1 = me
              · have e := Lib.hid (Hme.out j hme)
                have hme' : ((j : Int) + 1 != me) = false := by simpa using hme
                clear hme
                go_wp2
                go_roundw
                case rel => exact ⟨j + 1, B2, cb2, by go_num, by omega, by rw [e.out], by rw [e.out]; exact Hown2.out, hbC, hf2⟩
                case measure => simp [intOf]; omega
              · have e := Lib.hid (hoth.out j hme)
                have hme' : ((j : Int) + 1 != me) = true := by simpa using hme
                have hl := Hle.out j (by omega)
                clear hme
                go_wp2_with (first | ((first | (with_reducible apply wpList_ran) | (with_reducible apply wpListIn_ran (fun _ => trivial)) | (with_reducible apply wp_ran) | (with_reducible apply wpIn_ran (fun _ => trivial))); (case r => ((with_reducible apply ran_ld 28 rfl 17 (by kernel_rfl) _ Try.underlying28 rfl); (case hx => exact rfl); (case hg => (first | ((apply Blk.out); (repeat (first | (with_reducible assumption) | ((with_reducible apply Blk.set_); (case' h => skip)) | ((with_reducible apply Blk.setRow); (case' h => skip)) | ((with_reducible apply Blk.far); (case' hp => (first | (simp; done) | (simp; omega) | omega)); (case' h => skip)) | ((with_reducible apply Blk.farRow); (case' hb => (first | (simp; done) | (simp; omega) | omega)); (case' h => skip)) | (with_reducible apply Blk.drew) | (with_reducible apply Blk.drewN) | ((with_reducible apply Blk.newAt); (first | rfl | (simp; done))) | ((apply Blk.newAt); (first | rfl | (simp; done))) | (with_reducible apply Blk.alloc) | assumption)); done) | (refine hpL0 ?hq; (case hq => (simp; done))) | (refine hpL1 ?hq; (case hq => (simp; done))) | (refine hpL2 ?hq; (case hq => (simp; done))) | (refine hpL3 ?hq; (case hq => (simp; done))) | (refine hpL4 ?hq; (case hq => (simp; done))) | (refine hpL5 ?hq; (case hq => (simp; done))) | (refine hpL6 ?hq; (case hq => (simp; done))))); (case hc => exact rfl))); (try (case hw => rfl))) | ((first | (with_reducible apply wpList_ran) | (with_reducible apply wpListIn_ran (fun _ => trivial)) | (with_reducible apply wp_ran) | (with_reducible apply wpIn_ran (fun _ => trivial))); (case r => ((with_reducible apply ran_bd rfl (bd_refask _ ct _ _ _ _)); (first | (case he => exact rfl) | exact rfl))); (try (case hw => rfl))) | (((first | (with_reducible apply wpList_ran) | (with_reducible apply wpListIn_ran (fun _ => trivial)) | (with_reducible apply wp_ran) | (with_reducible apply wpIn_ran (fun _ => trivial))); (case r => ((with_reducible apply ran_bsl rfl (bs_rask _ ct _)); (first | (case he => exact rfl) | exact rfl))); (try (case hw => rfl))); refine wpList_app rfl rfl w.heap.size Try.underlying43 ei_rask (.slice B2 (Lj j).length cb2) (Lj j).length ((Lj j).flatMap askCells) rfl (own_fr Hown2.out (F := nowhere) (by (repeat (first | exact Fr.refl _ _ | assumption | refine Fr.setCell ?_ (by first | (right; omega) | (right; simp; done) | (right; simp; omega) | (left; simp; done) | (left; simp; omega) | (left; dsimp only; omega)) _ | refine Fr.alloc ?_ _ | refine Fr.drew ?_ | refine Fr.setRow ?_ (by first | (right; omega) | (right; simp; done) | (right; simp; omega) | (left; simp; done) | (left; simp; omega) | (left; dsimp only; omega)) _))) (fun _ _ => id)) ⟨wr.heap.size, 0, none⟩ 1 1 (askCells ((j : Int) + 1, ct)) rfl rfl (news_last rfl) (fun u hu => askCells_one [((j : Int) + 1, ct)] u (by simpa using hu)) (by simp only [maxLen]; omega) (by omega) (by simp; omega) ?_; intro v3 w3 hown3 hg3 _ hat3; obtain ⟨B3, cb3, rfl, _⟩ := ownsRow_slice hown3; have hbC3 := (hbC.alloc _).grown hg3 (fun e => by obtain ⟨cs', hb', _⟩ := own_blk Hown2.out e.symm; exact hbC.ne_ hb' (by decide) rfl); have Hown3 := Lib.hid hown3; have Hg3 := Lib.hid hg3; clear hown3 hg3 hat3))
                go_roundw
                case rel =>
                  refine ⟨j + 1, B3, cb3, by go_num, by omega, ?_, ?_, hbC3, ?_⟩
                  · rw [e.out, List.length_append]; rfl
                  · rw [e.out, List.flatMap_append, List.length_append, List.flatMap_cons, List.flatMap_nil, List.append_nil]; exact Hown3.out
                  · refine Fr.trans hf2 (((Fr.refl (fun b => (Value.slice B2 (Lj j).length cb2).ownBlock = some b) wr).alloc _).grown Hg3.out (fun g e => .inl e)) (fun b hb e => ?_)
                    have := (own_blk Hown2.out e).choose_spec.2
                    omega
                case measure => simp [intOf]; omega
            · have hje : j = n.toNat := by omega
              have Hje := Lib.hid hje
              clear hje
              go_wp2
              go_roundw
              case rel =>
                have e := (congrArg Lj Hje.out).trans Hend.out
                exact ⟨k + 1, B2, cb2, by go_num, by omega, by rw [← e], by rw [← e]; exact Hown2.out, hf2⟩
              case measure => simp [intOf]; omega
        · have hoth := Lib.hid (Hfin.out _ ((cmdOf_done _ _ _ _ _ _).trans (by rw [if_neg hw])))
          generalize hct : ({ cmd0 with kind := 4, id := tid, name := dst, why := 50 } : Cmd) = ct at hoth
          have Hct := Lib.hid hct
          have hw' : (why != 0) = true := by simpa using hw
          clear hct Hfin hw
          go_wp2_with (first | ((first | (with_reducible apply wpList_ran) | (with_reducible apply wpListIn_ran (fun _ => trivial)) | (with_reducible apply wp_ran) | (with_reducible apply wpIn_ran (fun _ => trivial))); (case r => ((with_reducible apply ran_ldm 39 rfl 7 (by kernel_rfl) _ Try.underlying39 rfl); (case hx => exact rfl); (case hg => exact R7.out); (case hc => exact rfl))); (try (case hw => rfl))) | ((first | (with_reducible apply wpList_ran) | (with_reducible apply wpListIn_ran (fun _ => trivial)) | (with_reducible apply wp_ran) | (with_reducible apply wpIn_ran (fun _ => trivial))); (case r => ((with_reducible apply ran_st 39 rfl rfl 7 (by kernel_rfl)); (case hx => exact rfl); (case hy => exact rfl); (case hg => (first | ((apply Blk.out); (repeat (first | (with_reducible assumption) | ((with_reducible apply Blk.set_); (case' h => skip)) | ((with_reducible apply Blk.setRow); (case' h => skip)) | ((with_reducible apply Blk.far); (case' hp => (first | (simp; done) | (simp; omega) | omega)); (case' h => skip)) | ((with_reducible apply Blk.farRow); (case' hb => (first | (simp; done) | (simp; omega) | omega)); (case' h => skip)) | (with_reducible apply Blk.drew) | (with_reducible apply Blk.drewN) | ((with_reducible apply Blk.newAt); (first | rfl | (simp; done))) | ((apply Blk.newAt); (first | rfl | (simp; done))) | (with_reducible apply Blk.alloc) | assumption)); done) | (refine hpL0 ?hq; (case hq => (simp; done))) | (refine hpL1 ?hq; (case hq => (simp; done))) | (refine hpL2 ?hq; (case hq => (simp; done))) | (refine hpL3 ?hq; (case hq => (simp; done))) | (refine hpL4 ?hq; (case hq => (simp; done))) | (refine hpL5 ?hq; (case hq => (simp; done))) | (refine hpL6 ?hq; (case hq => (simp; done))))); (case hW => (first | (refine stL0 ?hq; (case hq => (simp; done))) | (refine stL1 ?hq; (case hq => (simp; done))) | (refine stL2 ?hq; (case hq => (simp; done))) | (refine stL3 ?hq; (case hq => (simp; done))) | (refine stL4 ?hq; (case hq => (simp; done))) | (refine stL5 ?hq; (case hq => (simp; done))) | (refine stL6 ?hq; (case hq => (simp; done))) | exact rfl)); (case hc => exact rfl); (case hold => exact rfl); (case h1 => kernel_rfl))); (try (case hw => rfl))) | ((first | (with_reducible apply wpList_ran) | (with_reducible apply wpListIn_ran (fun _ => trivial)) | (with_reducible apply wp_ran) | (with_reducible apply wpIn_ran (fun _ => trivial))); (case r => ((with_reducible apply ran_bd rfl (bdr_prep _ _ _ _)); (first | (case he => exact rfl) | exact rfl))); (try (case hw => rfl))) | ((first | (with_reducible apply wpList_ran) | (with_reducible apply wpListIn_ran (fun _ => trivial)) | (with_reducible apply wp_ran) | (with_reducible apply wpIn_ran (fun _ => trivial))); (case r => ((with_reducible apply ran_bd rfl (bdr_fin _ _ _)); (first | (case he => exact rfl) | exact rfl))); (try (case hw => rfl))) | ((first | (with_reducible apply wpList_ran) | (with_reducible apply wpListIn_ran (fun _ => trivial)) | (with_reducible apply wp_ran) | (with_reducible apply wpIn_ran (fun _ => trivial))); (case r => ((with_reducible apply ran_st 28 rfl rfl 17 (by kernel_rfl)); (case hx => exact rfl); (case hy => exact rfl); (case hg => (first | ((apply Blk.out); (repeat (first | (with_reducible assumption) | ((with_reducible apply Blk.set_); (case' h => skip)) | ((with_reducible apply Blk.setRow); (case' h => skip)) | ((with_reducible apply Blk.far); (case' hp => (first | (simp; done) | (simp; omega) | omega)); (case' h => skip)) | ((with_reducible apply Blk.farRow); (case' hb => (first | (simp; done) | (simp; omega) | omega)); (case' h => skip)) | (with_reducible apply Blk.drew) | (with_reducible apply Blk.drewN) | ((with_reducible apply Blk.newAt); (first | rfl | (simp; done))) | ((apply Blk.newAt); (first | rfl | (simp; done))) | (with_reducible apply Blk.alloc) | assumption)); done) | (refine hpL0 ?hq; (case hq => (simp; done))) | (refine hpL1 ?hq; (case hq => (simp; done))) | (refine hpL2 ?hq; (case hq => (simp; done))) | (refine hpL3 ?hq; (case hq => (simp; done))) | (refine hpL4 ?hq; (case hq => (simp; done))) | (refine hpL5 ?hq; (case hq => (simp; done))) | (refine hpL6 ?hq; (case hq => (simp; done))))); (case hW => (first | (refine stL0 ?hq; (case hq => (simp; done))) | (refine stL1 ?hq; (case hq => (simp; done))) | (refine stL2 ?hq; (case hq => (simp; done))) | (refine stL3 ?hq; (case hq => (simp; done))) | (refine stL4 ?hq; (case hq => (simp; done))) | (refine stL5 ?hq; (case hq => (simp; done))) | (refine stL6 ?hq; (case hq => (simp; done))) | exact rfl)); (case hc => exact rfl); (case hold => exact rfl); (case h1 => kernel_rfl))); (try (case hw => rfl))))
          go_loopw [7, 11] (fun ov gv wi => ∃ (j : Nat) (B : Option Addr) (cb : Nat), gv = .int .i64 (j + 1) ∧ j ≤ n.toNat ∧ ov = .slice B (Lj j).length cb ∧ wi.ownsRow w.heap.size 30 18 (.slice B (Lj j).length cb) (Lj j).length ((Lj j).flatMap askCells) ∧ Blk wi (wo.heap.size + 1) 28 (cmdCells ct (.slice none 0 0)) ∧ Fr nowhere w wi) (fun _ gv _ => n.toNat + 1 - (intOf gv).toNat)
          case atStart =>
            have hz := hfr.size
            refine ⟨0, B, cb, rfl, Nat.zero_le _, rfl, own_fr Hown.out (F := nowhere) (by (repeat (first | exact Fr.refl _ _ | assumption | refine Fr.setCell ?_ (by first | (right; omega) | (right; simp; done) | (right; simp; omega) | (left; simp; done) | (left; simp; omega) | (left; dsimp only; omega)) _ | refine Fr.alloc ?_ _ | refine Fr.drew ?_ | refine Fr.setRow ?_ (by first | (right; omega) | (right; simp; done) | (right; simp; omega) | (left; simp; done) | (left; simp; omega) | (left; dsimp only; omega)) _))) (fun _ _ => id), ?_, by (repeat (first | exact Fr.refl _ _ | assumption | refine Fr.setCell ?_ (by first | (right; omega) | (right; simp; done) | (right; simp; omega) | (left; simp; done) | (left; simp; omega) | (left; dsimp only; omega)) _ | refine Fr.alloc ?_ _ | refine Fr.drew ?_ | refine Fr.setRow ?_ (by first | (right; omega) | (right; simp; done) | (right; simp; omega) | (left; simp; done) | (left; simp; omega) | (left; dsimp only; omega)) _))⟩
            rw [← Hct.out]
            apply Blk.newAt; simp
          case round =>
            obtain ⟨j, B2, cb2, rfl, hj, rfl, hown2, hbC, hf2⟩ := hrel
            have hz2 := hf2.size
            have Hown2 := Lib.hid hown2
            clear hown2
            by_cases hjn : (j : Int) + 1 ≤ n
            · by_cases hme : (j : Int) + 1 = me
              · have e := Lib.hid (Hme.out j hme)
                have hme' : ((j : Int) + 1 != me) = false := by simpa using hme
                clear hme
                go_wp2
                go_roundw
                case rel => exact ⟨j + 1, B2, cb2, by go_num, by omega, by rw [e.out], by rw [e.out]; exact Hown2.out, hbC, hf2⟩
                case measure => simp [intOf]; omega
              · have e := Lib.hid (hoth.out j hme)
                have hme' : ((j : Int) + 1 != me) = true := by simpa using hme
                have hl := Hle.out j (by omega)
                clear hme
                go_wp2_with (first | ((first | (with_reducible apply wpList_ran) | (with_reducible apply wpListIn_ran (fun _ => trivial)) | (with_reducible apply wp_ran) | (with_reducible apply wpIn_ran (fun _ => trivial))); (case r => ((with_reducible apply ran_ld 28 rfl 17 (by kernel_rfl) _ Try.underlying28 rfl); (case hx => exact rfl); (case hg => (first | ((apply Blk.out); (repeat (first | (with_reducible assumption) | ((with_reducible apply Blk.set_); (case' h => skip)) | ((with_reducible apply Blk.setRow); (case' h => skip)) | ((with_reducible apply Blk.far); (case' hp => (first | (simp; done) | (simp; omega) | omega)); (case' h => skip)) | ((with_reducible apply Blk.farRow); (case' hb => (first | (simp; done) | (simp; omega) | omega)); (case' h => skip)) | (with_reducible apply Blk.drew) | (with_reducible apply Blk.drewN) | ((with_reducible apply Blk.newAt); (first | rfl | (simp; done))) | ((apply Blk.newAt); (first | rfl | (simp; done))) | (with_reducible apply Blk.alloc) | assumption)); done) | (refine hpL0 ?hq; (case hq => (simp; done))) | (refine hpL1 ?hq; (case hq => (simp; done))) | (refine hpL2 ?hq; (case hq => (simp; done))) | (refine hpL3 ?hq; (case hq => (simp; done))) | (refine hpL4 ?hq; (case hq => (simp; done))) | (refine hpL5 ?hq; (case hq => (simp; done))) | (refine hpL6 ?hq; (case hq => (simp; done))))); (case hc => exact rfl))); (try (case hw => rfl))) | ((first | (with_reducible apply wpList_ran) | (with_reducible apply wpListIn_ran (fun _ => trivial)) | (with_reducible apply wp_ran) | (with_reducible apply wpIn_ran (fun _ => trivial))); (case r => ((with_reducible apply ran_bd rfl (bd_refask _ ct _ _ _ _)); (first | (case he => exact rfl) | exact rfl))); (try (case hw => rfl))) | (((first | (with_reducible apply wpList_ran) | (with_reducible apply wpListIn_ran (fun _ => trivial)) | (with_reducible apply wp_ran) | (with_reducible apply wpIn_ran (fun _ => trivial))); (case r => ((with_reducible apply ran_bsl rfl (bs_rask _ ct _)); (first | (case he => exact rfl) | exact rfl))); (try (case hw => rfl))); refine wpList_app rfl rfl w.heap.size Try.underlying43 ei_rask (.slice B2 (Lj j).length cb2) (Lj j).length ((Lj j).flatMap askCells) rfl (own_fr Hown2.out (F := nowhere) (by (repeat (first | exact Fr.refl _ _ | assumption | refine Fr.setCell ?_ (by first | (right; omega) | (right; simp; done) | (right; simp; omega) | (left; simp; done) | (left; simp; omega) | (left; dsimp only; omega)) _ | refine Fr.alloc ?_ _ | refine Fr.drew ?_ | refine Fr.setRow ?_ (by first | (right; omega) | (right; simp; done) | (right; simp; omega) | (left; simp; done) | (left; simp; omega) | (left; dsimp only; omega)) _))) (fun _ _ => id)) ⟨wr.heap.size, 0, none⟩ 1 1 (askCells ((j : Int) + 1, ct)) rfl rfl (news_last rfl) (fun u hu => askCells_one [((j : Int) + 1, ct)] u (by simpa using hu)) (by simp only [maxLen]; omega) (by omega) (by simp; omega) ?_; intro v3 w3 hown3 hg3 _ hat3; obtain ⟨B3, cb3, rfl, _⟩ := ownsRow_slice hown3; have hbC3 := (hbC.alloc _).grown hg3 (fun e => by obtain ⟨cs', hb', _⟩ := own_blk Hown2.out e.symm; exact hbC.ne_ hb' (by decide) rfl); have Hown3 := Lib.hid hown3; have Hg3 := Lib.hid hg3; clear hown3 hg3 hat3))
                go_roundw
                case rel =>
                  refine ⟨j + 1, B3, cb3, by go_num, by omega, ?_, ?_, hbC3, ?_⟩
                  · rw [e.out, List.length_append]; rfl
                  · rw [e.out, List.flatMap_append, List.length_append, List.flatMap_cons, List.flatMap_nil, List.append_nil]; exact Hown3.out
                  · refine Fr.trans hf2 (((Fr.refl (fun b => (Value.slice B2 (Lj j).length cb2).ownBlock = some b) wr).alloc _).grown Hg3.out (fun g e => .inl e)) (fun b hb e => ?_)
                    have := (own_blk Hown2.out e).choose_spec.2
                    omega
                case measure => simp [intOf]; omega
            · have hje : j = n.toNat := by omega
              have Hje := Lib.hid hje
              clear hje
              go_wp2
              go_roundw
              case rel =>
                have e := (congrArg Lj Hje.out).trans Hend.out
                exact ⟨k + 1, B2, cb2, by go_num, by omega, by rw [← e], by rw [← e]; exact Hown2.out, hf2⟩
              case measure => simp [intOf]; omega
    · have hkq : k = q := by omega
      subst hkq
      have hTk : T.take k = T := List.take_of_length_le (by rw [Hq.out]; omega)
      rw [hTk] at hown ⊢
      have Hown := Lib.hid hown
      clear hown hTk
      generalize hL : asksL me n.toNat T = L at *
      have HL := Lib.hid hL
      clear hL
      go_wp2
      go_ret
      exact ⟨B, cb, by rw [He0.out]; rfl, by rw [He0.out]; exact Hown.out, hfr⟩
end Go.Proofs.Ytglcmlicfmmlpaa
