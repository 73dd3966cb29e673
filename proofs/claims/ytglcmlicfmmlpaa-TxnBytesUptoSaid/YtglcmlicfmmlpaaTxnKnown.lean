/- The fixed calls of the transfers' laws. -/
import Derived.Test.YtglcmlicfmmlpaaTxnNext
namespace Go.Proofs.Ytglcmlicfmmlpaa
open Go.RowKit

theorem bd_txn5 (a b c d : ByteArray) (n : Int) (w : World) : (Instr.build 40 #[(0, .string a), (1, .string b), (2, .string c), (3, .string d), (4, .int .i64 n)]).run Try.prog w = .ok (.agg #[.string a, .string b, .string c, .string d, .int .i64 n, .bool false, .int .i64 0]) w := by kernel_rfl
theorem bs_txn (t : Txn) (w : World) : (Instr.buildSlice 37 1 #[(0, txnV t)]).run Try.prog w = .ok (.slice (some ⟨w.heap.size, 0, none⟩) 1 1) (w.alloc (.cells #[.string t.id, .string t.src, .string t.key, .string t.dst, .int .i64 t.n, .bool t.done, .int .i64 t.why] 40)) := by kernel_rfl
theorem bd_res1 (n : Int) (w : World) : (Instr.build 53 #[(0, .int .i64 n)]).run Try.prog w = .ok (resV n false 0 0 (.slice none 0 0) (.slice none 0 0)) w := by kernel_rfl
theorem bd_res0 (w : World) : (Instr.build 53 (([] : List (Nat × Value)).toArray)).run Try.prog w = .ok (resV 0 false 0 0 (.slice none 0 0) (.slice none 0 0)) w := by kernel_rfl
theorem sl_new {w : World} {k n : Nat} {cs : Array Value} {t : TypeId} (hn : cs.size = n * k) (hm : n ≤ maxLen) : Sl (w.alloc (.cells cs t)) (fun b => b < (w.alloc (.cells cs t)).heap.size) k (.slice (some ⟨w.heap.size, 0, none⟩) n n) n cs.toList :=
  ⟨_, _, rfl, Nat.le_refl _, hm, by simpa using hn, fun _ => ⟨_, 0, rfl, by simp, by simp, fun j u hu => by
    rw [Nat.zero_add, cell_of_row _ w.heap.size j cs t (0, 0) (heap_alloc_new w _)]
    simpa using hu⟩⟩
theorem flatMap_len {α β : Type} {f : α → List β} {k : Nat} (hf : ∀ x, (f x).length = k) (l : List α) : (l.flatMap f).length = l.length * k := by
  induction l with
  | nil => simp
  | cons x l ih => simp [ih, hf, Nat.add_mul, Nat.add_comm]
/-- Item i of a row of one's own. -/
theorem own_item {α : Type} {f : α → List Value} {k : Nat} (hf : ∀ x, (f x).length = k) {w : World} {base g c : Nat} {T : TypeId} {L : List α} (h : w.ownsRow base T k (.slice (some ⟨g, 0, none⟩) L.length c) L.length (L.flatMap f))
    {i : Nat} {x : α} (hi : L[i]? = some x) : w.rangeAt g (i * k) (f x) := fun j u hu => by
  have hlt := (List.getElem?_eq_some_iff.1 hi).1
  have hj := (List.getElem?_eq_some_iff.1 hu).1
  rw [hf] at hj
  have hc := h.cellAt (i * k + j) (by
    have := Nat.mul_le_mul_right k (show i + 1 ≤ L.length by omega)
    rw [Nat.add_mul] at this
    omega)
  rw [hc]
  have e : L.flatMap f = (L.take i).flatMap f ++ (f x ++ (L.drop (i + 1)).flatMap f) := by
    have h1 : L.drop i = x :: L.drop (i + 1) := by rw [List.drop_eq_getElem_cons hlt]; congr 1; exact (List.getElem?_eq_some_iff.1 hi).2
    conv => lhs; rw [← List.take_append_drop i L, h1]
    simp
  have hl : ((L.take i).flatMap f).length = i * k := by
    rw [flatMap_len hf, List.length_take, Nat.min_eq_left (Nat.le_of_lt hlt)]
  rw [e, List.getElem?_append_right (by rw [hl]; omega), hl, Nat.add_sub_cancel_left, List.getElem?_append_left (by rw [hf]; exact hj)]
  exact hu
theorem rangeAt_fr {w w' : World} {g o : Nat} {cs : List Value} {F : Nat → Prop} (h : w.rangeAt g o cs) (hf : Fr F w w') (hg : g < w.heap.size) (hn : ¬ F g) : w'.rangeAt g o cs := fun j u hu => by
  rw [World.cell?_of_block (w := w) (w' := w') (hf.block g hg hn)]
  exact h j u hu

/-- The transfer of the fixed calls. -/
def kt : Txn := ⟨⟨#[97, 110, 110, 47, 107, 47, 49, 46, 49]⟩, ⟨#[97, 110, 110]⟩, ⟨#[107]⟩, ⟨#[98, 111, 98]⟩, 5, false, 0⟩
theorem kt_asks : asksP 1 3 [kt] = [(2, cmdOf kt), (3, cmdOf kt)] := rfl
theorem kt_next5 : nextC (cmdOf kt) 5 = (cmd0, false) := rfl
theorem kt_next0 : nextC (cmdOf kt) 0 = ({ cmd0 with kind := 3, id := kt.id, why := 0 }, true) := rfl
set_option maxHeartbeats 2000000 in
theorem known15_any (w : World) : Calls Try.prog 12 #[] w fun e w' => e = .returned (.bool true) ∧ Fr nowhere w w' := by
  go_enter Try.func12, Try.ntmps12
  go_wp2_with (first | ((first | (with_reducible apply wpList_ran) | (with_reducible apply wpListIn_ran (fun _ => trivial)) | (with_reducible apply wp_ran) | (with_reducible apply wpIn_ran (fun _ => trivial))); (case r => ((with_reducible apply ran_bd rfl (bd_txn5 _ _ _ _ _ _)); (first | (case he => exact rfl) | exact rfl))); (try (case hw => rfl))) | (((first | (with_reducible apply wpList_ran) | (with_reducible apply wpListIn_ran (fun _ => trivial)) | (with_reducible apply wp_ran) | (with_reducible apply wpIn_ran (fun _ => trivial))); (case r => ((with_reducible apply ran_bsl rfl (bs_txn kt _)); (first | (case he => exact rfl) | exact rfl))); (try (case hw => rfl))); go_wp2_with fail))
  refine (asks_any 1 3 [kt] _ _ _ _ (sl_new (k := 7) (n := 1) rfl (by simp [maxLen])) ⟨_, [], rfl, rfl, rfl⟩ (by simp)).mono ?_
  rintro e w1 ⟨B, cb, rfl, hown, hf1⟩
  rw [kt_asks] at hown ⊢
  obtain ⟨g, cap', hA, _, _⟩ := hown.form (by simp)
  injection hA with hA1 hA2 hA3
  subst hA1
  have hgl : g < w1.heap.size := (hown.lt g rfl).2
  have r0 := own_item askCells_len hown (i := 0) rfl
  have r1 := own_item askCells_len hown (i := 1) rfl
  have a1 : w1.cell? ⟨g, 0, none⟩ = some (.int .i64 2) := r0 0 _ rfl
  have a2 : w1.cell? ⟨g, 18, none⟩ = some (.int .i64 3) := r1 0 _ rfl
  have a3 : w1.cell? ⟨g, 1, none⟩ = some (.int .i64 2) := r0 1 _ rfl
  have R0 := Lib.hid r0
  have R1 := Lib.hid r1
  have hf01 : Fr nowhere w w1 := Fr.trans ((Fr.refl _ _).alloc _) hf1 (fun _ _ e => e)
  clear hA2 hA3 r0 r1 hown
  simp only [List.length_cons, List.length_nil]
  go_wp2_with (first | ((first | (with_reducible apply wpList_ran) | (with_reducible apply wpListIn_ran (fun _ => trivial)) | (with_reducible apply wp_ran) | (with_reducible apply wpIn_ran (fun _ => trivial))); (case r => ((with_reducible apply ran_ldm 49 rfl 18 (by kernel_rfl) _ Try.underlying49 rfl); (case hx => exact rfl); (case hg => exact R0.out); (case hc => exact rfl))); (try (case hw => rfl))) | (((first | (with_reducible apply wpList_ran) | (with_reducible apply wpListIn_ran (fun _ => trivial)) | (with_reducible apply wp_ran) | (with_reducible apply wpIn_ran (fun _ => trivial))); (case r => ((with_reducible apply ran_bd rfl (bd_res1 _ _)); (first | (case he => exact rfl) | exact rfl))); (try (case hw => rfl))); go_wp2_with fail))
  refine (next_any 2 (cmdOf kt) _ 5 false 0 0 _ _ _).mono ?_
  rintro e w2 ⟨rfl, hf2⟩
  rw [kt_next5]
  have r1' := rangeAt_fr R1.out hf2 hgl id
  have hgl2 : g < w2.heap.size := by have := hf2.size; omega
  have l1 := fun o : Obj => rangeAt_fr r1' (Fr.alloc (Fr.refl nowhere w2) o) hgl2 id
  have L1 := Lib.hid l1
  clear r1' a1 a2 a3 l1
  dsimp only
  go_wp2_with (first | ((first | (with_reducible apply wpList_ran) | (with_reducible apply wpListIn_ran (fun _ => trivial)) | (with_reducible apply wp_ran) | (with_reducible apply wpIn_ran (fun _ => trivial))); (case r => ((with_reducible apply ran_st 47 rfl rfl 17 (by kernel_rfl)); (case hx => exact rfl); (case hy => exact rfl); (case hg => (first | ((apply Blk.out); (repeat (first | (with_reducible assumption) | ((with_reducible apply Blk.set_); (case' h => skip)) | ((with_reducible apply Blk.setRow); (case' h => skip)) | ((with_reducible apply Blk.far); (case' hp => (first | (simp; done) | (simp; omega) | omega)); (case' h => skip)) | ((with_reducible apply Blk.farRow); (case' hb => (first | (simp; done) | (simp; omega) | omega)); (case' h => skip)) | (with_reducible apply Blk.drew) | (with_reducible apply Blk.drewN) | ((with_reducible apply Blk.newAt); (first | rfl | (simp; done))) | ((apply Blk.newAt); (first | rfl | (simp; done))) | (with_reducible apply Blk.alloc) | assumption)); done) | (refine hpL0 ?hq; (case hq => (simp; done))) | (refine hpL1 ?hq; (case hq => (simp; done))) | (refine hpL2 ?hq; (case hq => (simp; done))) | (refine hpL3 ?hq; (case hq => (simp; done))) | (refine hpL4 ?hq; (case hq => (simp; done))) | (refine hpL5 ?hq; (case hq => (simp; done))) | (refine hpL6 ?hq; (case hq => (simp; done))))); (case hW => (first | (refine stL0 ?hq; (case hq => (simp; done))) | (refine stL1 ?hq; (case hq => (simp; done))) | (refine stL2 ?hq; (case hq => (simp; done))) | (refine stL3 ?hq; (case hq => (simp; done))) | (refine stL4 ?hq; (case hq => (simp; done))) | (refine stL5 ?hq; (case hq => (simp; done))) | (refine stL6 ?hq; (case hq => (simp; done))) | exact rfl)); (case hc => exact rfl); (case hold => exact rfl); (case h1 => kernel_rfl))); (try (case hw => rfl))) | ((first | (with_reducible apply wpList_ran) | (with_reducible apply wpListIn_ran (fun _ => trivial)) | (with_reducible apply wp_ran) | (with_reducible apply wpIn_ran (fun _ => trivial))); (case r => ((with_reducible apply ran_ldm 49 rfl 18 (by kernel_rfl) _ Try.underlying49 rfl); (case hx => exact rfl); (case hg => exact L1.out _); (case hc => exact rfl))); (try (case hw => rfl))) | (((first | (with_reducible apply wpList_ran) | (with_reducible apply wpListIn_ran (fun _ => trivial)) | (with_reducible apply wp_ran) | (with_reducible apply wpIn_ran (fun _ => trivial))); (case r => ((with_reducible apply ran_bd rfl (bd_res0 _)); (first | (case he => exact rfl) | exact rfl))); (try (case hw => rfl))); go_wp2_with fail))
  refine (next_any 3 (cmdOf kt) _ 0 false 0 0 _ _ _).mono ?_
  rintro e w3 ⟨rfl, hf3⟩
  rw [kt_next0]
  have hf03 : Fr nowhere w w3 := Fr.trans (Fr.trans hf01 (Fr.alloc hf2 _) (fun _ _ e => e)) hf3 (fun _ _ e => e)
  have hid : kt.id.toList = [97, 110, 110, 47, 107, 47, 49, 46, 49] := by first | rfl | kernel_rfl | decide
  dsimp only
  go_wp2_with (first | ((first | (with_reducible apply wpList_ran) | (with_reducible apply wpListIn_ran (fun _ => trivial)) | (with_reducible apply wp_ran) | (with_reducible apply wpIn_ran (fun _ => trivial))); (case r => ((with_reducible apply ran_st 47 rfl rfl 17 (by kernel_rfl)); (case hx => exact rfl); (case hy => exact rfl); (case hg => (first | ((apply Blk.out); (repeat (first | (with_reducible assumption) | ((with_reducible apply Blk.set_); (case' h => skip)) | ((with_reducible apply Blk.setRow); (case' h => skip)) | ((with_reducible apply Blk.far); (case' hp => (first | (simp; done) | (simp; omega) | omega)); (case' h => skip)) | ((with_reducible apply Blk.farRow); (case' hb => (first | (simp; done) | (simp; omega) | omega)); (case' h => skip)) | (with_reducible apply Blk.drew) | (with_reducible apply Blk.drewN) | ((with_reducible apply Blk.newAt); (first | rfl | (simp; done))) | ((apply Blk.newAt); (first | rfl | (simp; done))) | (with_reducible apply Blk.alloc) | assumption)); done) | (refine hpL0 ?hq; (case hq => (simp; done))) | (refine hpL1 ?hq; (case hq => (simp; done))) | (refine hpL2 ?hq; (case hq => (simp; done))) | (refine hpL3 ?hq; (case hq => (simp; done))) | (refine hpL4 ?hq; (case hq => (simp; done))) | (refine hpL5 ?hq; (case hq => (simp; done))) | (refine hpL6 ?hq; (case hq => (simp; done))))); (case hW => (first | (refine stL0 ?hq; (case hq => (simp; done))) | (refine stL1 ?hq; (case hq => (simp; done))) | (refine stL2 ?hq; (case hq => (simp; done))) | (refine stL3 ?hq; (case hq => (simp; done))) | (refine stL4 ?hq; (case hq => (simp; done))) | (refine stL5 ?hq; (case hq => (simp; done))) | (refine stL6 ?hq; (case hq => (simp; done))) | exact rfl)); (case hc => exact rfl); (case hold => exact rfl); (case h1 => kernel_rfl))); (try (case hw => rfl))))
  go_ret
  exact ⟨rfl, by (repeat (first | exact Fr.refl _ _ | assumption | refine Fr.setCell ?_ (by first | (right; omega) | (right; simp; done) | (right; simp; omega) | (left; simp; done) | (left; simp; omega) | (left; dsimp only; omega)) _ | refine Fr.alloc ?_ _ | refine Fr.drew ?_ | refine Fr.setRow ?_ (by first | (right; omega) | (right; simp; done) | (right; simp; omega) | (left; simp; done) | (left; simp; omega) | (left; dsimp only; omega)) _))⟩
end Go.Proofs.Ytglcmlicfmmlpaa
