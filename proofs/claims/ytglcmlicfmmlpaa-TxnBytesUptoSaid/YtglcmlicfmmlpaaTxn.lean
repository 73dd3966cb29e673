/- Transfers between shards: what a shard asks, what follows. -/
import Derived.Test.YtglcmlicfmmlpaaGen
namespace Go.Proofs.Ytglcmlicfmmlpaa
open Go.RowKit

/-- Count's answer. -/
def countI (n m : Int) : Int := if n.tmod m < 0 then n.tmod m + m else n.tmod m
theorem countI_lo (n m : Int) (hm : 0 < m) : 0 ≤ countI n m := by
  unfold countI
  have h1 := Int.lt_tmod_of_pos n hm
  split <;> omega
theorem countI_hi (n m : Int) (hm : 0 < m) : countI n m < m := by
  unfold countI
  have h1 := Int.tmod_lt_of_pos n hm
  split <;> omega
theorem countT_any (n m : Int) (w : World) (hm : 0 < m) (hm2 : m ≤ 1000000) :
    Calls Try.prog 23 #[.int .i64 n, .int .i64 m] w fun e w' => e = .returned (.int .i64 (countI n m)) ∧ w = w' := by
  have a1 := Int.lt_tmod_of_pos n hm
  have a2 := Int.tmod_lt_of_pos n hm
  have hm0 : (m == 0) = false := by simp; omega
  by_cases h : n.tmod m < 0
  · rw [show countI n m = n.tmod m + m by unfold countI; rw [if_pos h]]
    go_enter Try.func23, Try.ntmps23
    go_wp2
    go_ret
    exact ⟨rfl, rfl⟩
  · rw [show countI n m = n.tmod m by unfold countI; rw [if_neg h]]
    go_enter Try.func23, Try.ntmps23
    go_wp2
    go_ret
    exact ⟨rfl, rfl⟩

structure Txn where
  id : ByteArray
  src : ByteArray
  key : ByteArray
  dst : ByteArray
  n : Int
  done : Bool
  why : Int
abbrev txnV (t : Txn) : Value := .agg #[.string t.id, .string t.src, .string t.key, .string t.dst, .int .i64 t.n, .bool t.done, .int .i64 t.why]
structure Op where
  kind : Int
  src : ByteArray
  dst : ByteArray
  amt : Int
  key : ByteArray
  slot : Int
  shard : Int
abbrev opV (o : Op) : Value := .agg #[.int .i64 o.kind, .string o.src, .string o.dst, .int .i64 o.amt, .string o.key, .int .i64 o.slot, .int .i64 o.shard]
structure Cmd where
  kind : Int
  op : Op
  id : ByteArray
  name : ByteArray
  n : Int
  why : Int
  slot : Int
  epoch : Int
  at_ : Int
  last : Bool
abbrev cmdV (c : Cmd) (v : Value) : Value := .agg #[.int .i64 c.kind, .int .i64 c.op.kind, .string c.op.src, .string c.op.dst, .int .i64 c.op.amt, .string c.op.key, .int .i64 c.op.slot, .int .i64 c.op.shard, .string c.id, .string c.name, .int .i64 c.n, .int .i64 c.why, .int .i64 c.slot, .int .i64 c.epoch, .int .i64 c.at_, .bool c.last, v]
abbrev cmdCells (c : Cmd) (v : Value) : Array Value := #[.int .i64 c.kind, .int .i64 c.op.kind, .string c.op.src, .string c.op.dst, .int .i64 c.op.amt, .string c.op.key, .int .i64 c.op.slot, .int .i64 c.op.shard, .string c.id, .string c.name, .int .i64 c.n, .int .i64 c.why, .int .i64 c.slot, .int .i64 c.epoch, .int .i64 c.at_, .bool c.last, v]
abbrev noStr : ByteArray := ⟨#[]⟩
abbrev op0 : Op := ⟨0, noStr, noStr, 0, noStr, 0, 0⟩
abbrev cmd0 : Cmd := ⟨0, op0, noStr, noStr, 0, 0, 0, 0, 0, false⟩
/-- What is asked for a transfer. -/
def cmdOf (t : Txn) : Cmd := if t.done then { cmd0 with kind := 4, id := t.id, name := t.dst, why := if t.why = 0 then 0 else 50 } else { cmd0 with kind := 2, id := t.id, name := t.dst, n := t.n }

theorem bd_prep (s t : ByteArray) (n : Int) (w : World) : (Instr.build 47 #[(0, .int .i64 2), (2, .string s), (3, .string t), (4, .int .i64 n)]).run Try.prog w = .ok (.agg #[.int .i64 2, .int .i64 0, .string ⟨#[]⟩, .string ⟨#[]⟩, .int .i64 0, .string ⟨#[]⟩, .int .i64 0, .int .i64 0, .string s, .string t, .int .i64 n, .int .i64 0, .int .i64 0, .int .i64 0, .int .i64 0, .bool false, .slice none 0 0]) w := by kernel_rfl
set_option maxHeartbeats 400000 in
theorem command_any (t : Txn) (w : World) : Calls Try.prog 108 #[txnV t] w fun e w' => e = .returned (cmdV (cmdOf t) (.slice none 0 0)) ∧ Fr nowhere w w' := by
  obtain ⟨id, src, key, dst, n, done, why⟩ := t
  rcases done with _ | _
  · go_enter Try.func108, Try.ntmps108
    go_wp2_with (first | ((first | (with_reducible apply wpList_ran) | (with_reducible apply wpListIn_ran (fun _ => trivial)) | (with_reducible apply wp_ran) | (with_reducible apply wpIn_ran (fun _ => trivial))); (case r => ((with_reducible apply ran_bd rfl (bd_prep _ _ _ _)); (first | (case he => exact rfl) | exact rfl))); (try (case hw => rfl))) | ((first | (with_reducible apply wpList_ran) | (with_reducible apply wpListIn_ran (fun _ => trivial)) | (with_reducible apply wp_ran) | (with_reducible apply wpIn_ran (fun _ => trivial))); (case r => ((with_reducible apply ran_st 47 rfl rfl 17 (by kernel_rfl)); (case hx => exact rfl); (case hy => exact rfl); (case hg => (first | ((apply Blk.out); (repeat (first | (with_reducible assumption) | ((with_reducible apply Blk.set_); (case' h => skip)) | ((with_reducible apply Blk.setRow); (case' h => skip)) | ((with_reducible apply Blk.far); (case' hp => (first | (simp; done) | (simp; omega) | omega)); (case' h => skip)) | ((with_reducible apply Blk.farRow); (case' hb => (first | (simp; done) | (simp; omega) | omega)); (case' h => skip)) | (with_reducible apply Blk.drew) | (with_reducible apply Blk.drewN) | ((with_reducible apply Blk.newAt); (first | rfl | (simp; done))) | ((apply Blk.newAt); (first | rfl | (simp; done))) | (with_reducible apply Blk.alloc) | assumption)); done) | (refine hpL0 ?hq; (case hq => (simp; done))) | (refine hpL1 ?hq; (case hq => (simp; done))) | (refine hpL2 ?hq; (case hq => (simp; done))) | (refine hpL3 ?hq; (case hq => (simp; done))) | (refine hpL4 ?hq; (case hq => (simp; done))) | (refine hpL5 ?hq; (case hq => (simp; done))) | (refine hpL6 ?hq; (case hq => (simp; done))))); (case hW => (first | (refine stL0 ?hq; (case hq => (simp; done))) | (refine stL1 ?hq; (case hq => (simp; done))) | (refine stL2 ?hq; (case hq => (simp; done))) | (refine stL3 ?hq; (case hq => (simp; done))) | (refine stL4 ?hq; (case hq => (simp; done))) | (refine stL5 ?hq; (case hq => (simp; done))) | (refine stL6 ?hq; (case hq => (simp; done))) | exact rfl)); (case hc => exact rfl); (case hold => exact rfl); (case h1 => kernel_rfl))); (try (case hw => rfl))) | ((first | (with_reducible apply wpList_ran) | (with_reducible apply wpListIn_ran (fun _ => trivial)) | (with_reducible apply wp_ran) | (with_reducible apply wpIn_ran (fun _ => trivial))); (case r => ((with_reducible apply ran_ld 47 rfl 17 (by kernel_rfl) _ Try.underlying47 rfl); (case hx => exact rfl); (case hg => (first | ((apply Blk.out); (repeat (first | (with_reducible assumption) | ((with_reducible apply Blk.set_); (case' h => skip)) | ((with_reducible apply Blk.setRow); (case' h => skip)) | ((with_reducible apply Blk.far); (case' hp => (first | (simp; done) | (simp; omega) | omega)); (case' h => skip)) | ((with_reducible apply Blk.farRow); (case' hb => (first | (simp; done) | (simp; omega) | omega)); (case' h => skip)) | (with_reducible apply Blk.drew) | (with_reducible apply Blk.drewN) | ((with_reducible apply Blk.newAt); (first | rfl | (simp; done))) | ((apply Blk.newAt); (first | rfl | (simp; done))) | (with_reducible apply Blk.alloc) | assumption)); done) | (refine hpL0 ?hq; (case hq => (simp; done))) | (refine hpL1 ?hq; (case hq => (simp; done))) | (refine hpL2 ?hq; (case hq => (simp; done))) | (refine hpL3 ?hq; (case hq => (simp; done))) | (refine hpL4 ?hq; (case hq => (simp; done))) | (refine hpL5 ?hq; (case hq => (simp; done))) | (refine hpL6 ?hq; (case hq => (simp; done))))); (case hc => exact rfl))); (try (case hw => rfl))))
    refine bodyPost_ret (v := cmdV (cmdOf ⟨id, src, key, dst, n, false, why⟩) (.slice none 0 0)) (results_cell_row rfl _ _ _ 47 _ (0, 0) _ rfl ?hg Try.underlying47 rfl (by kernel_rfl)) rfl ?_
    case hg => (first | ((apply Blk.out); (repeat (first | (with_reducible assumption) | ((with_reducible apply Blk.set_); (case' h => skip)) | ((with_reducible apply Blk.setRow); (case' h => skip)) | ((with_reducible apply Blk.far); (case' hp => (first | (simp; done) | (simp; omega) | omega)); (case' h => skip)) | ((with_reducible apply Blk.farRow); (case' hb => (first | (simp; done) | (simp; omega) | omega)); (case' h => skip)) | (with_reducible apply Blk.drew) | (with_reducible apply Blk.drewN) | ((with_reducible apply Blk.newAt); (first | rfl | (simp; done))) | ((apply Blk.newAt); (first | rfl | (simp; done))) | (with_reducible apply Blk.alloc) | assumption)); done) | (refine hpL0 ?hq; (case hq => (simp; done))) | (refine hpL1 ?hq; (case hq => (simp; done))) | (refine hpL2 ?hq; (case hq => (simp; done))) | (refine hpL3 ?hq; (case hq => (simp; done))) | (refine hpL4 ?hq; (case hq => (simp; done))) | (refine hpL5 ?hq; (case hq => (simp; done))) | (refine hpL6 ?hq; (case hq => (simp; done))))
    exact ⟨rfl, by (repeat (first | exact Fr.refl _ _ | assumption | refine Fr.setCell ?_ (by first | (right; omega) | (right; simp; done) | (right; simp; omega) | (left; simp; done) | (left; simp; omega) | (left; dsimp only; omega)) _ | refine Fr.alloc ?_ _ | refine Fr.drew ?_ | refine Fr.setRow ?_ (by first | (right; omega) | (right; simp; done) | (right; simp; omega) | (left; simp; done) | (left; simp; omega) | (left; dsimp only; omega)) _))⟩
  · by_cases hw : why = 0
    · subst hw
      go_enter Try.func108, Try.ntmps108
      go_wp2_with (first | ((first | (with_reducible apply wpList_ran) | (with_reducible apply wpListIn_ran (fun _ => trivial)) | (with_reducible apply wp_ran) | (with_reducible apply wpIn_ran (fun _ => trivial))); (case r => ((with_reducible apply ran_bd rfl (bd_prep _ _ _ _)); (first | (case he => exact rfl) | exact rfl))); (try (case hw => rfl))) | ((first | (with_reducible apply wpList_ran) | (with_reducible apply wpListIn_ran (fun _ => trivial)) | (with_reducible apply wp_ran) | (with_reducible apply wpIn_ran (fun _ => trivial))); (case r => ((with_reducible apply ran_st 47 rfl rfl 17 (by kernel_rfl)); (case hx => exact rfl); (case hy => exact rfl); (case hg => (first | ((apply Blk.out); (repeat (first | (with_reducible assumption) | ((with_reducible apply Blk.set_); (case' h => skip)) | ((with_reducible apply Blk.setRow); (case' h => skip)) | ((with_reducible apply Blk.far); (case' hp => (first | (simp; done) | (simp; omega) | omega)); (case' h => skip)) | ((with_reducible apply Blk.farRow); (case' hb => (first | (simp; done) | (simp; omega) | omega)); (case' h => skip)) | (with_reducible apply Blk.drew) | (with_reducible apply Blk.drewN) | ((with_reducible apply Blk.newAt); (first | rfl | (simp; done))) | ((apply Blk.newAt); (first | rfl | (simp; done))) | (with_reducible apply Blk.alloc) | assumption)); done) | (refine hpL0 ?hq; (case hq => (simp; done))) | (refine hpL1 ?hq; (case hq => (simp; done))) | (refine hpL2 ?hq; (case hq => (simp; done))) | (refine hpL3 ?hq; (case hq => (simp; done))) | (refine hpL4 ?hq; (case hq => (simp; done))) | (refine hpL5 ?hq; (case hq => (simp; done))) | (refine hpL6 ?hq; (case hq => (simp; done))))); (case hW => (first | (refine stL0 ?hq; (case hq => (simp; done))) | (refine stL1 ?hq; (case hq => (simp; done))) | (refine stL2 ?hq; (case hq => (simp; done))) | (refine stL3 ?hq; (case hq => (simp; done))) | (refine stL4 ?hq; (case hq => (simp; done))) | (refine stL5 ?hq; (case hq => (simp; done))) | (refine stL6 ?hq; (case hq => (simp; done))) | exact rfl)); (case hc => exact rfl); (case hold => exact rfl); (case h1 => kernel_rfl))); (try (case hw => rfl))) | ((first | (with_reducible apply wpList_ran) | (with_reducible apply wpListIn_ran (fun _ => trivial)) | (with_reducible apply wp_ran) | (with_reducible apply wpIn_ran (fun _ => trivial))); (case r => ((with_reducible apply ran_ld 47 rfl 17 (by kernel_rfl) _ Try.underlying47 rfl); (case hx => exact rfl); (case hg => (first | ((apply Blk.out); (repeat (first | (with_reducible assumption) | ((with_reducible apply Blk.set_); (case' h => skip)) | ((with_reducible apply Blk.setRow); (case' h => skip)) | ((with_reducible apply Blk.far); (case' hp => (first | (simp; done) | (simp; omega) | omega)); (case' h => skip)) | ((with_reducible apply Blk.farRow); (case' hb => (first | (simp; done) | (simp; omega) | omega)); (case' h => skip)) | (with_reducible apply Blk.drew) | (with_reducible apply Blk.drewN) | ((with_reducible apply Blk.newAt); (first | rfl | (simp; done))) | ((apply Blk.newAt); (first | rfl | (simp; done))) | (with_reducible apply Blk.alloc) | assumption)); done) | (refine hpL0 ?hq; (case hq => (simp; done))) | (refine hpL1 ?hq; (case hq => (simp; done))) | (refine hpL2 ?hq; (case hq => (simp; done))) | (refine hpL3 ?hq; (case hq => (simp; done))) | (refine hpL4 ?hq; (case hq => (simp; done))) | (refine hpL5 ?hq; (case hq => (simp; done))) | (refine hpL6 ?hq; (case hq => (simp; done))))); (case hc => exact rfl))); (try (case hw => rfl))))
      refine bodyPost_ret (v := cmdV (cmdOf ⟨id, src, key, dst, n, true, 0⟩) (.slice none 0 0)) (results_cell_row rfl _ _ _ 47 _ (0, 0) _ rfl ?hg Try.underlying47 rfl (by kernel_rfl)) rfl ?_
      case hg => (first | ((apply Blk.out); (repeat (first | (with_reducible assumption) | ((with_reducible apply Blk.set_); (case' h => skip)) | ((with_reducible apply Blk.setRow); (case' h => skip)) | ((with_reducible apply Blk.far); (case' hp => (first | (simp; done) | (simp; omega) | omega)); (case' h => skip)) | ((with_reducible apply Blk.farRow); (case' hb => (first | (simp; done) | (simp; omega) | omega)); (case' h => skip)) | (with_reducible apply Blk.drew) | (with_reducible apply Blk.drewN) | ((with_reducible apply Blk.newAt); (first | rfl | (simp; done))) | ((apply Blk.newAt); (first | rfl | (simp; done))) | (with_reducible apply Blk.alloc) | assumption)); done) | (refine hpL0 ?hq; (case hq => (simp; done))) | (refine hpL1 ?hq; (case hq => (simp; done))) | (refine hpL2 ?hq; (case hq => (simp; done))) | (refine hpL3 ?hq; (case hq => (simp; done))) | (refine hpL4 ?hq; (case hq => (simp; done))) | (refine hpL5 ?hq; (case hq => (simp; done))) | (refine hpL6 ?hq; (case hq => (simp; done))))
      exact ⟨rfl, by (repeat (first | exact Fr.refl _ _ | assumption | refine Fr.setCell ?_ (by first | (right; omega) | (right; simp; done) | (right; simp; omega) | (left; simp; done) | (left; simp; omega) | (left; dsimp only; omega)) _ | refine Fr.alloc ?_ _ | refine Fr.drew ?_ | refine Fr.setRow ?_ (by first | (right; omega) | (right; simp; done) | (right; simp; omega) | (left; simp; done) | (left; simp; omega) | (left; dsimp only; omega)) _))⟩
    · have hw' : (why == 0) = false := by simpa using hw
      have e : cmdOf ⟨id, src, key, dst, n, true, why⟩ = { cmd0 with kind := 4, id := id, name := dst, why := 50 } := by simp [cmdOf, hw]
      rw [e]
      clear e hw
      go_enter Try.func108, Try.ntmps108
      go_wp2_with (first | ((first | (with_reducible apply wpList_ran) | (with_reducible apply wpListIn_ran (fun _ => trivial)) | (with_reducible apply wp_ran) | (with_reducible apply wpIn_ran (fun _ => trivial))); (case r => ((with_reducible apply ran_bd rfl (bd_prep _ _ _ _)); (first | (case he => exact rfl) | exact rfl))); (try (case hw => rfl))) | ((first | (with_reducible apply wpList_ran) | (with_reducible apply wpListIn_ran (fun _ => trivial)) | (with_reducible apply wp_ran) | (with_reducible apply wpIn_ran (fun _ => trivial))); (case r => ((with_reducible apply ran_st 47 rfl rfl 17 (by kernel_rfl)); (case hx => exact rfl); (case hy => exact rfl); (case hg => (first | ((apply Blk.out); (repeat (first | (with_reducible assumption) | ((with_reducible apply Blk.set_); (case' h => skip)) | ((with_reducible apply Blk.setRow); (case' h => skip)) | ((with_reducible apply Blk.far); (case' hp => (first | (simp; done) | (simp; omega) | omega)); (case' h => skip)) | ((with_reducible apply Blk.farRow); (case' hb => (first | (simp; done) | (simp; omega) | omega)); (case' h => skip)) | (with_reducible apply Blk.drew) | (with_reducible apply Blk.drewN) | ((with_reducible apply Blk.newAt); (first | rfl | (simp; done))) | ((apply Blk.newAt); (first | rfl | (simp; done))) | (with_reducible apply Blk.alloc) | assumption)); done) | (refine hpL0 ?hq; (case hq => (simp; done))) | (refine hpL1 ?hq; (case hq => (simp; done))) | (refine hpL2 ?hq; (case hq => (simp; done))) | (refine hpL3 ?hq; (case hq => (simp; done))) | (refine hpL4 ?hq; (case hq => (simp; done))) | (refine hpL5 ?hq; (case hq => (simp; done))) | (refine hpL6 ?hq; (case hq => (simp; done))))); (case hW => (first | (refine stL0 ?hq; (case hq => (simp; done))) | (refine stL1 ?hq; (case hq => (simp; done))) | (refine stL2 ?hq; (case hq => (simp; done))) | (refine stL3 ?hq; (case hq => (simp; done))) | (refine stL4 ?hq; (case hq => (simp; done))) | (refine stL5 ?hq; (case hq => (simp; done))) | (refine stL6 ?hq; (case hq => (simp; done))) | exact rfl)); (case hc => exact rfl); (case hold => exact rfl); (case h1 => kernel_rfl))); (try (case hw => rfl))) | ((first | (with_reducible apply wpList_ran) | (with_reducible apply wpListIn_ran (fun _ => trivial)) | (with_reducible apply wp_ran) | (with_reducible apply wpIn_ran (fun _ => trivial))); (case r => ((with_reducible apply ran_ld 47 rfl 17 (by kernel_rfl) _ Try.underlying47 rfl); (case hx => exact rfl); (case hg => (first | ((apply Blk.out); (repeat (first | (with_reducible assumption) | ((with_reducible apply Blk.set_); (case' h => skip)) | ((with_reducible apply Blk.setRow); (case' h => skip)) | ((with_reducible apply Blk.far); (case' hp => (first | (simp; done) | (simp; omega) | omega)); (case' h => skip)) | ((with_reducible apply Blk.farRow); (case' hb => (first | (simp; done) | (simp; omega) | omega)); (case' h => skip)) | (with_reducible apply Blk.drew) | (with_reducible apply Blk.drewN) | ((with_reducible apply Blk.newAt); (first | rfl | (simp; done))) | ((apply Blk.newAt); (first | rfl | (simp; done))) | (with_reducible apply Blk.alloc) | assumption)); done) | (refine hpL0 ?hq; (case hq => (simp; done))) | (refine hpL1 ?hq; (case hq => (simp; done))) | (refine hpL2 ?hq; (case hq => (simp; done))) | (refine hpL3 ?hq; (case hq => (simp; done))) | (refine hpL4 ?hq; (case hq => (simp; done))) | (refine hpL5 ?hq; (case hq => (simp; done))) | (refine hpL6 ?hq; (case hq => (simp; done))))); (case hc => exact rfl))); (try (case hw => rfl))))
      refine bodyPost_ret (v := cmdV { cmd0 with kind := 4, id := id, name := dst, why := 50 } (.slice none 0 0)) (results_cell_row rfl _ _ _ 47 _ (0, 0) _ rfl ?hg Try.underlying47 rfl (by kernel_rfl)) rfl ?_
      case hg => (first | ((apply Blk.out); (repeat (first | (with_reducible assumption) | ((with_reducible apply Blk.set_); (case' h => skip)) | ((with_reducible apply Blk.setRow); (case' h => skip)) | ((with_reducible apply Blk.far); (case' hp => (first | (simp; done) | (simp; omega) | omega)); (case' h => skip)) | ((with_reducible apply Blk.farRow); (case' hb => (first | (simp; done) | (simp; omega) | omega)); (case' h => skip)) | (with_reducible apply Blk.drew) | (with_reducible apply Blk.drewN) | ((with_reducible apply Blk.newAt); (first | rfl | (simp; done))) | ((apply Blk.newAt); (first | rfl | (simp; done))) | (with_reducible apply Blk.alloc) | assumption)); done) | (refine hpL0 ?hq; (case hq => (simp; done))) | (refine hpL1 ?hq; (case hq => (simp; done))) | (refine hpL2 ?hq; (case hq => (simp; done))) | (refine hpL3 ?hq; (case hq => (simp; done))) | (refine hpL4 ?hq; (case hq => (simp; done))) | (refine hpL5 ?hq; (case hq => (simp; done))) | (refine hpL6 ?hq; (case hq => (simp; done))))
      exact ⟨rfl, by (repeat (first | exact Fr.refl _ _ | assumption | refine Fr.setCell ?_ (by first | (right; omega) | (right; simp; done) | (right; simp; omega) | (left; simp; done) | (left; simp; omega) | (left; dsimp only; omega)) _ | refine Fr.alloc ?_ _ | refine Fr.drew ?_ | refine Fr.setRow ?_ (by first | (right; omega) | (right; simp; done) | (right; simp; omega) | (left; simp; done) | (left; simp; omega) | (left; dsimp only; omega)) _))⟩

abbrev askV (g : Int) (c : Cmd) (v : Value) : Value := .agg #[.int .i64 g, .int .i64 c.kind, .int .i64 c.op.kind, .string c.op.src, .string c.op.dst, .int .i64 c.op.amt, .string c.op.key, .int .i64 c.op.slot, .int .i64 c.op.shard, .string c.id, .string c.name, .int .i64 c.n, .int .i64 c.why, .int .i64 c.slot, .int .i64 c.epoch, .int .i64 c.at_, .bool c.last, v]
theorem bd_ask (g : Int) (c : Cmd) (A : Option Addr) (n k : Nat) (w : World) : (Instr.build 49 #[(0, .int .i64 g), (1, cmdV c (.slice A n k))]).run Try.prog w = .ok (askV g c (.slice A n k)) w := by kernel_rfl
/-- The numbers of the other shards, up to k. -/
def othersTo (me : Int) (k : Nat) : List Int := ((List.range k).map fun i : Nat => (i : Int) + 1).filter fun g => g ≠ me
theorem othersTo_succ (me : Int) (k : Nat) : othersTo me (k + 1) = othersTo me k ++ if (k : Int) + 1 = me then [] else [(k : Int) + 1] := by
  unfold othersTo
  rw [List.range_succ, List.map_append, List.filter_append]
  by_cases h : (k : Int) + 1 = me <;> simp [h]
/-- What a shard asks, in order: the group, and the command. -/
def asksL (me : Int) (k : Nat) : List Txn → List (Int × Cmd)
  | [] => []
  | t :: l => (othersTo me k).map (fun g => (g, cmdOf t)) ++ asksL me k l

theorem others_any (me n : Int) (w : World) : Calls Try.prog 109 #[.int .i64 me, .int .i64 n] w fun e w' => e = .returned (.func (.func 134) #[] #[.pointer (some ⟨w.heap.size + 1, 0, none⟩), .pointer (some ⟨w.heap.size, 0, none⟩)]) ∧
    w' = (w.alloc (.cells #[.int .i64 me] 3)).alloc (.cells #[.int .i64 n] 3) := by
  go_enter Try.func109, Try.ntmps109
  go_wp2
  go_ret
  exact ⟨rfl, rfl⟩
attribute [local go_sem] Oper.semAt_some

theorem othersTo_split (me : Int) (k n : Nat) (h : k < n) : ∃ L, othersTo me n = othersTo me (k + 1) ++ L := by
  induction n with
  | zero => omega
  | succ n ih =>
    rcases Nat.lt_or_ge k n with h' | h'
    · obtain ⟨L, e⟩ := ih h'
      exact ⟨L ++ _, by rw [othersTo_succ, e, List.append_assoc]⟩
    · obtain rfl : k = n := by omega
      exact ⟨[], by simp⟩

/-- Items that are plain values. -/
def Items (L : List (Array Value)) (i : Nat) (vs : Array Value) (_ : World) : Prop := L[i]? = some vs

set_option maxHeartbeats 1000000 in
theorem others1_iter (m b1 b2 : Nat) (me n : Int) (Fb : Nat → Prop) (w : World) (h1 : Blk w b1 3 #[.int .i64 n]) (h2 : Blk w b2 3 #[.int .i64 me]) (hF1 : ¬ Fb b1) (hF2 : ¬ Fb b2) (hn : n ≤ 3) :
    Iterates Fence.wide m Try.prog 134 #[.pointer (some ⟨b1, 0, none⟩), .pointer (some ⟨b2, 0, none⟩)] Fb (Items ((othersTo me n.toNat).map fun g => #[.int .i64 g])) (fun i => i = (othersTo me n.toNat).length) w := by
  intro l J Jx K0 W hlw hlW hfr hJl hJ hJx hY h0 hK0
  have HY := Lib.hid hY
  have HJ := Lib.hid hJ
  have hz := hfr.size
  have hl1 := h1.lt
  have hl2 := h2.lt
  have stay : ∀ W', Fr (fun b => Fb b ∨ b = l) W W' → Blk W' b1 3 #[.int .i64 n] ∧ Blk W' b2 3 #[.int .i64 me] := fun W' hf =>
    ⟨(h1.fr hfr id).fr hf (by rintro (h | h); exact hF1 h; omega), (h2.fr hfr id).fr hf (by rintro (h | h); exact hF2 h; omega)⟩
  have Stay := Lib.hid stay
  clear stay hY hJ hJl hF1 hF2 h1 h2
  refine callsIn_of_wp Try.func134 rfl trivial ?_
  simp only [Try.ntmps134, List.size_toArray, List.length_cons, List.length_nil, Nat.reduceAdd, Nat.reduceSub, Array.replicate_succ, Array.replicate_zero, List.push_toArray, List.append_toArray, List.nil_append, List.cons_append]
  gi_wp2
  gi_loopw [4] (fun i wr => ∃ (k : Nat) (K : Nat → Prop), i = .int .i64 (k + 1) ∧ k ≤ n.toNat ∧ J (othersTo me k).length K wr ∧ Fr (fun b => Fb b ∨ b = l) W wr ∧ Grows Fb K W) (fun i wr => n.toNat + 1 - (intOf i).toNat)
  case atStart => exact ⟨0, K0, rfl, Nat.zero_le _, h0, Fr.refl _ _, fun b hb => .inl (hK0 b hb).1⟩
  case round =>
    obtain ⟨k, K, rfl, hk, hJk, hfk, hgk⟩ := hrel
    obtain ⟨s1, s2⟩ := Stay.out wr hfk
    obtain ⟨c1, _⟩ := s1.facts1
    obtain ⟨c2, _⟩ := s2.facts1
    clear s1 s2
    have hsucc := othersTo_succ me k
    by_cases hlt : (k : Int) + 1 ≤ n
    · by_cases hme : (k : Int) + 1 = me
      · rw [if_pos hme, List.append_nil] at hsucc
        have Hs := Lib.hid hsucc
        subst hme
        clear hsucc
        gi_wp2
        refine ⟨fun _ _ => trivial, ?_⟩
        gi_wp2
        go_roundw
        case rel => exact ⟨k + 1, K, by go_num, by omega, by rw [Hs.out]; exact hJk, hfk, hgk⟩
        case measure => simp [intOf]; omega
      · rw [if_neg hme] at hsucc
        have hi : ((othersTo me n.toNat).map fun g => #[Value.int .i64 g])[(othersTo me k).length]? = some #[.int .i64 (k + 1)] := by
          obtain ⟨L, e⟩ := othersTo_split me k n.toNat (by omega)
          rw [e, hsucc, List.map_append, List.map_append, List.getElem?_append_left (by simp), List.getElem?_append_right (by simp)]
          simp
        obtain ⟨fn, tmps, assign, body, hy, hR⟩ := HY.out _ K _ wr (by have := hfk.size; omega) hJk hi
        have HR := Lib.hid (roundIn_wide' (n' := m - 1) hR)
        have Hs := Lib.hid hsucc
        have hme' : ((k : Int) + 1 != me) = true := by simpa using hme
        clear hR hi hsucc hme
        gi_wp2_with fail
        refine ⟨fun h => absurd h wide_depth, HR.out.mono ?_⟩
        rintro e W3 (⟨rfl, K3, hJ3, hg3, hf3⟩ | ⟨rfl, K3, hJx3, hg3, hf3⟩)
        · have hfr3 := Grows.fr hfk hgk hf3
          have hgr3 := hgk.trans hg3 hfk.size
          clear hy
          dsimp only
          gi_wp2
          go_roundw
          case rel => exact ⟨k + 1, K3, by go_num, by omega, by rw [Hs.out, List.length_append]; exact hJ3, hfr3, hgr3⟩
          case measure => simp [intOf]; omega
        · clear hy
          dsimp only
          gi_wp2
          refine bodyPost_ret (results_none rfl _ _ _) rfl ?_
          exact ⟨⟨_, rfl⟩, .inr ⟨K3, hJx3⟩⟩
    · have hkn : k = n.toNat := by omega
      subst hkn
      clear hsucc
      gi_wp2
      go_end0
      exact ⟨⟨_, rfl⟩, .inl ⟨K, hJk⟩⟩
end Go.Proofs.Ytglcmlicfmmlpaa
