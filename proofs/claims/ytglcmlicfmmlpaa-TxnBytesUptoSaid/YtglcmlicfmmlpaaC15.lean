/-
  The reference's asks as bytes.
-/
import Derived.Test.YtglcmlicfmmlpaaC14
namespace Go.Proofs.Ytglcmlicfmmlpaa
open Go.RowKit
set_option linter.unusedSimpArgs false
set_option linter.unusedVariables false

set_option maxRecDepth 4000 in
set_option maxHeartbeats 1000000 in
theorem ref15Bytes_spec (F : HP) (x : GAsk) (hF : VwB F x.cmd.v x.cmd.data) (hx : x.ok) (hl : (cmdB x.cmd).length ≤ 1099511627776) :
    Spec Try.prog 39 [.agg x.L.toArray] [] F (fun _ : Value => True) (fun v' => .tuple #[v', .int .i64 (whyMost 65536 (askB x))]) (fun v' => [bytesO v' (atMost 65536 (askB x))]) := by
  intro ω w hh
  refine enter Try.func39 rfl Try.ntmps39 rfl hh ?_
  simp only [List.nil_append, argsB]
  have hbig := ref15_long x
  obtain ⟨group, kind, op, id, name, n, why, slot, epoch, at_, last, Ad, cd, data⟩ := x
  obtain ⟨h1, h2⟩ := hx
  dsimp only at h1 h2 hF hl hbig ⊢
  have l1 := ivar_len h1
  have l2 := cmdB_len h2
  have l3 := uvar_len64 (n := (cmdB ⟨kind, op, id, name, n, why, slot, epoch, at_, last, Ad, cd, data⟩).length) (by omega)
  obtain ⟨ab, hab⟩ : ∃ ab, askB ⟨group, kind, op, id, name, n, why, slot, epoch, at_, last, Ad, cd, data⟩ = ab := ⟨_, rfl⟩
  obtain ⟨cb, hcb⟩ : ∃ cb, cmdB ⟨kind, op, id, name, n, why, slot, epoch, at_, last, Ad, cd, data⟩ = cb := ⟨_, rfl⟩
  have hab' : ivar group ++ (uvar cb.length ++ cb) = ab := by rw [← hab, ← hcb]; simp [askB, txt]
  have hdl : data.length ≤ 1099511627776 := h2.data
  have hil : id.length ≤ 1099511627776 := h2.id
  have hnl : name.length ≤ 1099511627776 := h2.name
  have hsl : op.src.length ≤ 1099511627776 := h2.op.src
  have htl : op.dst.length ≤ 1099511627776 := h2.op.dst
  have hkl : op.key.length ≤ 1099511627776 := h2.op.key
  rw [hcb] at hl l2 l3
  rw [hab] at hbig ⊢
  unfold i64r at h1
  simp only [GAsk.L, GCmd.L, GCmd.v] at hF ⊢
  refine do_seq ?_
  refine do_region ?_
  refine run_box_row rfl (by decide) rfl (fun b1 => ?_)
  refine run_read rfl (by decide) (fun _ => nofun) (rd_assign rfl) ?_
  refine run_read rfl (by decide) (fun _ => nofun) (rd_assign rfl) ?_
  refine run_nil ?_
  refine St.then_n ?_
  refine do_seq ?_
  refine do_seq ?_
  refine do_cut (fun z : Bool => z = decide (65536 < data.length ∨ 65536 < id.length ∨ 65536 < name.length ∨ 65536 < op.src.length ∨ 65536 < op.dst.length ∨ 65536 < op.key.length)) (fun z => [(1, .pointer (some ⟨b1, 0, none⟩)), (48, .bool z)]) (fun _ => [pts b1 30 [.int .i64 group, .int .i64 kind, .int .i64 op.kind, .string (strOf op.src), .string (strOf op.dst), .int .i64 op.amt, .string (strOf op.key), .int .i64 op.slot, .int .i64 op.shard, .string (strOf id), .string (strOf name), .int .i64 n, .int .i64 why, .int .i64 slot, .int .i64 epoch, .int .i64 at_, .bool last, .slice Ad data.length cd], F]) (fun K hK => ?_) ?_
  · rcases (show (65536 < data.length) ∨ (¬ 65536 < data.length ∧ 65536 < id.length) ∨ (¬ 65536 < data.length ∧ ¬ 65536 < id.length ∧ 65536 < name.length) ∨ (¬ 65536 < data.length ∧ ¬ 65536 < id.length ∧ ¬ 65536 < name.length ∧ 65536 < op.src.length) ∨ (¬ 65536 < data.length ∧ ¬ 65536 < id.length ∧ ¬ 65536 < name.length ∧ ¬ 65536 < op.src.length ∧ 65536 < op.dst.length) ∨ (¬ 65536 < data.length ∧ ¬ 65536 < id.length ∧ ¬ 65536 < name.length ∧ ¬ 65536 < op.src.length ∧ ¬ 65536 < op.dst.length ∧ 65536 < op.key.length) ∨ (¬ 65536 < data.length ∧ ¬ 65536 < id.length ∧ ¬ 65536 < name.length ∧ ¬ 65536 < op.src.length ∧ ¬ 65536 < op.dst.length ∧ ¬ 65536 < op.key.length) by omega) with hA | hA | hA | hA | hA | hA | hA
    · refine do_region ?_
      first | refine run_read rfl (by decide) (fun _ => nofun) (rd_fieldAddr0 rfl fld30_1) ?_ | refine run_read rfl (by decide) (fun _ => nofun) (rd_fieldAddr rfl fld30_1) ?_
      first | refine run_read rfl (by decide) (fun _ => nofun) (rd_fieldAddr0 rfl fld28_10) ?_ | refine run_read rfl (by decide) (fun _ => nofun) (rd_fieldAddr rfl fld28_10) ?_
      refine run_read rfl (by decide) (fun _ => nofun) (rd_load rfl row26 (cells_pts1 (by repeat (first | with_reducible exact Sel.head | apply Sel.tail)) rfl)) ?_
      refine run_read rfl (by decide) (fun _ => nofun) (rd_len Try.underlying26 rfl) ?_
      first | refine run_read rfl (by decide) (fun _ => nofun) ((rd_gt rfl rfl).eq (show _ = Value.bool true by simp; omega)) ?_ | refine run_read rfl (by decide) (fun _ => nofun) ((rd_gt rfl rfl).eq (show _ = Value.bool false by simp; omega)) ?_
      refine run_read rfl (by decide) (fun _ => nofun) (rd_move rfl) ?_
      first | (refine run_skip rfl rfl ?_) | (first | refine run_read rfl (by decide) (fun _ => nofun) (rd_fieldAddr0 rfl fld30_1) ?_ | refine run_read rfl (by decide) (fun _ => nofun) (rd_fieldAddr rfl fld30_1) ?_)
      first | (refine run_skip rfl rfl ?_) | (first | refine run_read rfl (by decide) (fun _ => nofun) (rd_fieldAddr0 rfl fld28_2) ?_ | refine run_read rfl (by decide) (fun _ => nofun) (rd_fieldAddr rfl fld28_2) ?_)
      first | (refine run_skip rfl rfl ?_) | (refine run_read rfl (by decide) (fun _ => nofun) (rd_load rfl row9 (cells_pts1 (by repeat (first | with_reducible exact Sel.head | apply Sel.tail)) rfl)) ?_)
      first | (refine run_skip rfl rfl ?_) | (refine run_read rfl (by decide) (fun _ => nofun) (rd_lens Try.underlying9 rfl) ?_)
      first | (refine run_skip rfl rfl ?_) | (first | refine run_read rfl (by decide) (fun _ => nofun) ((rd_gt rfl rfl).eq (show _ = Value.bool true by simp [ByteArray.size]; omega)) ?_ | refine run_read rfl (by decide) (fun _ => nofun) ((rd_gt rfl rfl).eq (show _ = Value.bool false by simp [ByteArray.size]; omega)) ?_)
      first | refine run_read rfl (by decide) (fun _ => nofun) (rd_pick_t rfl rfl) ?_ | refine run_read rfl (by decide) (fun _ => nofun) (rd_pick_f rfl rfl) ?_
      refine run_read rfl (by decide) (fun _ => nofun) (rd_move rfl) ?_
      first | (refine run_skip rfl rfl ?_) | (first | refine run_read rfl (by decide) (fun _ => nofun) (rd_fieldAddr0 rfl fld30_1) ?_ | refine run_read rfl (by decide) (fun _ => nofun) (rd_fieldAddr rfl fld30_1) ?_)
      first | (refine run_skip rfl rfl ?_) | (first | refine run_read rfl (by decide) (fun _ => nofun) (rd_fieldAddr0 rfl fld28_3) ?_ | refine run_read rfl (by decide) (fun _ => nofun) (rd_fieldAddr rfl fld28_3) ?_)
      first | (refine run_skip rfl rfl ?_) | (refine run_read rfl (by decide) (fun _ => nofun) (rd_load rfl row9 (cells_pts1 (by repeat (first | with_reducible exact Sel.head | apply Sel.tail)) rfl)) ?_)
      first | (refine run_skip rfl rfl ?_) | (refine run_read rfl (by decide) (fun _ => nofun) (rd_lens Try.underlying9 rfl) ?_)
      first | (refine run_skip rfl rfl ?_) | (first | refine run_read rfl (by decide) (fun _ => nofun) ((rd_gt rfl rfl).eq (show _ = Value.bool true by simp [ByteArray.size]; omega)) ?_ | refine run_read rfl (by decide) (fun _ => nofun) ((rd_gt rfl rfl).eq (show _ = Value.bool false by simp [ByteArray.size]; omega)) ?_)
      first | refine run_read rfl (by decide) (fun _ => nofun) (rd_pick_t rfl rfl) ?_ | refine run_read rfl (by decide) (fun _ => nofun) (rd_pick_f rfl rfl) ?_
      refine run_read rfl (by decide) (fun _ => nofun) (rd_move rfl) ?_
      first | (refine run_skip rfl rfl ?_) | (first | refine run_read rfl (by decide) (fun _ => nofun) (rd_fieldAddr0 rfl fld30_1) ?_ | refine run_read rfl (by decide) (fun _ => nofun) (rd_fieldAddr rfl fld30_1) ?_)
      first | (refine run_skip rfl rfl ?_) | (first | refine run_read rfl (by decide) (fun _ => nofun) (rd_fieldAddr0 rfl fld28_1) ?_ | refine run_read rfl (by decide) (fun _ => nofun) (rd_fieldAddr rfl fld28_1) ?_)
      first | (refine run_skip rfl rfl ?_) | (first | refine run_read rfl (by decide) (fun _ => nofun) (rd_fieldAddr0 rfl fld24_1) ?_ | refine run_read rfl (by decide) (fun _ => nofun) (rd_fieldAddr rfl fld24_1) ?_)
      first | (refine run_skip rfl rfl ?_) | (refine run_read rfl (by decide) (fun _ => nofun) (rd_load rfl row9 (cells_pts1 (by repeat (first | with_reducible exact Sel.head | apply Sel.tail)) rfl)) ?_)
      first | (refine run_skip rfl rfl ?_) | (refine run_read rfl (by decide) (fun _ => nofun) (rd_lens Try.underlying9 rfl) ?_)
      first | (refine run_skip rfl rfl ?_) | (first | refine run_read rfl (by decide) (fun _ => nofun) ((rd_gt rfl rfl).eq (show _ = Value.bool true by simp [ByteArray.size]; omega)) ?_ | refine run_read rfl (by decide) (fun _ => nofun) ((rd_gt rfl rfl).eq (show _ = Value.bool false by simp [ByteArray.size]; omega)) ?_)
      first | refine run_read rfl (by decide) (fun _ => nofun) (rd_pick_t rfl rfl) ?_ | refine run_read rfl (by decide) (fun _ => nofun) (rd_pick_f rfl rfl) ?_
      refine run_read rfl (by decide) (fun _ => nofun) (rd_move rfl) ?_
      first | (refine run_skip rfl rfl ?_) | (first | refine run_read rfl (by decide) (fun _ => nofun) (rd_fieldAddr0 rfl fld30_1) ?_ | refine run_read rfl (by decide) (fun _ => nofun) (rd_fieldAddr rfl fld30_1) ?_)
      first | (refine run_skip rfl rfl ?_) | (first | refine run_read rfl (by decide) (fun _ => nofun) (rd_fieldAddr0 rfl fld28_1) ?_ | refine run_read rfl (by decide) (fun _ => nofun) (rd_fieldAddr rfl fld28_1) ?_)
      first | (refine run_skip rfl rfl ?_) | (first | refine run_read rfl (by decide) (fun _ => nofun) (rd_fieldAddr0 rfl fld24_2) ?_ | refine run_read rfl (by decide) (fun _ => nofun) (rd_fieldAddr rfl fld24_2) ?_)
      first | (refine run_skip rfl rfl ?_) | (refine run_read rfl (by decide) (fun _ => nofun) (rd_load rfl row9 (cells_pts1 (by repeat (first | with_reducible exact Sel.head | apply Sel.tail)) rfl)) ?_)
      first | (refine run_skip rfl rfl ?_) | (refine run_read rfl (by decide) (fun _ => nofun) (rd_lens Try.underlying9 rfl) ?_)
      first | (refine run_skip rfl rfl ?_) | (first | refine run_read rfl (by decide) (fun _ => nofun) ((rd_gt rfl rfl).eq (show _ = Value.bool true by simp [ByteArray.size]; omega)) ?_ | refine run_read rfl (by decide) (fun _ => nofun) ((rd_gt rfl rfl).eq (show _ = Value.bool false by simp [ByteArray.size]; omega)) ?_)
      first | refine run_read rfl (by decide) (fun _ => nofun) (rd_pick_t rfl rfl) ?_ | refine run_read rfl (by decide) (fun _ => nofun) (rd_pick_f rfl rfl) ?_
      refine run_read rfl (by decide) (fun _ => nofun) (rd_move rfl) ?_
      first | (refine run_skip rfl rfl ?_) | (first | refine run_read rfl (by decide) (fun _ => nofun) (rd_fieldAddr0 rfl fld30_1) ?_ | refine run_read rfl (by decide) (fun _ => nofun) (rd_fieldAddr rfl fld30_1) ?_)
      first | (refine run_skip rfl rfl ?_) | (first | refine run_read rfl (by decide) (fun _ => nofun) (rd_fieldAddr0 rfl fld28_1) ?_ | refine run_read rfl (by decide) (fun _ => nofun) (rd_fieldAddr rfl fld28_1) ?_)
      first | (refine run_skip rfl rfl ?_) | (first | refine run_read rfl (by decide) (fun _ => nofun) (rd_fieldAddr0 rfl fld24_4) ?_ | refine run_read rfl (by decide) (fun _ => nofun) (rd_fieldAddr rfl fld24_4) ?_)
      first | (refine run_skip rfl rfl ?_) | (refine run_read rfl (by decide) (fun _ => nofun) (rd_load rfl row9 (cells_pts1 (by repeat (first | with_reducible exact Sel.head | apply Sel.tail)) rfl)) ?_)
      first | (refine run_skip rfl rfl ?_) | (refine run_read rfl (by decide) (fun _ => nofun) (rd_lens Try.underlying9 rfl) ?_)
      first | (refine run_skip rfl rfl ?_) | (first | refine run_read rfl (by decide) (fun _ => nofun) ((rd_gt rfl rfl).eq (show _ = Value.bool true by simp [ByteArray.size]; omega)) ?_ | refine run_read rfl (by decide) (fun _ => nofun) ((rd_gt rfl rfl).eq (show _ = Value.bool false by simp [ByteArray.size]; omega)) ?_)
      first | refine run_read rfl (by decide) (fun _ => nofun) (rd_pick_t rfl rfl) ?_ | refine run_read rfl (by decide) (fun _ => nofun) (rd_pick_f rfl rfl) ?_
      refine run_nil ?_
      refine St.keep (β' := [(1, _), (48, _)]) ⟨rfl, rfl, trivial⟩ ?_
      refine St.then_n ?_
      exact St.keep (β' := [(1, _), (48, _)]) ⟨rfl, rfl, trivial⟩ (hK _ (by first | exact (decide_eq_true (by omega)).symm | exact (decide_eq_false (by omega)).symm))
    · refine do_region ?_
      first | refine run_read rfl (by decide) (fun _ => nofun) (rd_fieldAddr0 rfl fld30_1) ?_ | refine run_read rfl (by decide) (fun _ => nofun) (rd_fieldAddr rfl fld30_1) ?_
      first | refine run_read rfl (by decide) (fun _ => nofun) (rd_fieldAddr0 rfl fld28_10) ?_ | refine run_read rfl (by decide) (fun _ => nofun) (rd_fieldAddr rfl fld28_10) ?_
      refine run_read rfl (by decide) (fun _ => nofun) (rd_load rfl row26 (cells_pts1 (by repeat (first | with_reducible exact Sel.head | apply Sel.tail)) rfl)) ?_
      refine run_read rfl (by decide) (fun _ => nofun) (rd_len Try.underlying26 rfl) ?_
      first | refine run_read rfl (by decide) (fun _ => nofun) ((rd_gt rfl rfl).eq (show _ = Value.bool true by simp; omega)) ?_ | refine run_read rfl (by decide) (fun _ => nofun) ((rd_gt rfl rfl).eq (show _ = Value.bool false by simp; omega)) ?_
      refine run_read rfl (by decide) (fun _ => nofun) (rd_move rfl) ?_
      first | (refine run_skip rfl rfl ?_) | (first | refine run_read rfl (by decide) (fun _ => nofun) (rd_fieldAddr0 rfl fld30_1) ?_ | refine run_read rfl (by decide) (fun _ => nofun) (rd_fieldAddr rfl fld30_1) ?_)
      first | (refine run_skip rfl rfl ?_) | (first | refine run_read rfl (by decide) (fun _ => nofun) (rd_fieldAddr0 rfl fld28_2) ?_ | refine run_read rfl (by decide) (fun _ => nofun) (rd_fieldAddr rfl fld28_2) ?_)
      first | (refine run_skip rfl rfl ?_) | (refine run_read rfl (by decide) (fun _ => nofun) (rd_load rfl row9 (cells_pts1 (by repeat (first | with_reducible exact Sel.head | apply Sel.tail)) rfl)) ?_)
      first | (refine run_skip rfl rfl ?_) | (refine run_read rfl (by decide) (fun _ => nofun) (rd_lens Try.underlying9 rfl) ?_)
      first | (refine run_skip rfl rfl ?_) | (first | refine run_read rfl (by decide) (fun _ => nofun) ((rd_gt rfl rfl).eq (show _ = Value.bool true by simp [ByteArray.size]; omega)) ?_ | refine run_read rfl (by decide) (fun _ => nofun) ((rd_gt rfl rfl).eq (show _ = Value.bool false by simp [ByteArray.size]; omega)) ?_)
      first | refine run_read rfl (by decide) (fun _ => nofun) (rd_pick_t rfl rfl) ?_ | refine run_read rfl (by decide) (fun _ => nofun) (rd_pick_f rfl rfl) ?_
      refine run_read rfl (by decide) (fun _ => nofun) (rd_move rfl) ?_
      first | (refine run_skip rfl rfl ?_) | (first | refine run_read rfl (by decide) (fun _ => nofun) (rd_fieldAddr0 rfl fld30_1) ?_ | refine run_read rfl (by decide) (fun _ => nofun) (rd_fieldAddr rfl fld30_1) ?_)
      first | (refine run_skip rfl rfl ?_) | (first | refine run_read rfl (by decide) (fun _ => nofun) (rd_fieldAddr0 rfl fld28_3) ?_ | refine run_read rfl (by decide) (fun _ => nofun) (rd_fieldAddr rfl fld28_3) ?_)
      first | (refine run_skip rfl rfl ?_) | (refine run_read rfl (by decide) (fun _ => nofun) (rd_load rfl row9 (cells_pts1 (by repeat (first | with_reducible exact Sel.head | apply Sel.tail)) rfl)) ?_)
      first | (refine run_skip rfl rfl ?_) | (refine run_read rfl (by decide) (fun _ => nofun) (rd_lens Try.underlying9 rfl) ?_)
      first | (refine run_skip rfl rfl ?_) | (first | refine run_read rfl (by decide) (fun _ => nofun) ((rd_gt rfl rfl).eq (show _ = Value.bool true by simp [ByteArray.size]; omega)) ?_ | refine run_read rfl (by decide) (fun _ => nofun) ((rd_gt rfl rfl).eq (show _ = Value.bool false by simp [ByteArray.size]; omega)) ?_)
      first | refine run_read rfl (by decide) (fun _ => nofun) (rd_pick_t rfl rfl) ?_ | refine run_read rfl (by decide) (fun _ => nofun) (rd_pick_f rfl rfl) ?_
      refine run_read rfl (by decide) (fun _ => nofun) (rd_move rfl) ?_
      first | (refine run_skip rfl rfl ?_) | (first | refine run_read rfl (by decide) (fun _ => nofun) (rd_fieldAddr0 rfl fld30_1) ?_ | refine run_read rfl (by decide) (fun _ => nofun) (rd_fieldAddr rfl fld30_1) ?_)
      first | (refine run_skip rfl rfl ?_) | (first | refine run_read rfl (by decide) (fun _ => nofun) (rd_fieldAddr0 rfl fld28_1) ?_ | refine run_read rfl (by decide) (fun _ => nofun) (rd_fieldAddr rfl fld28_1) ?_)
      first | (refine run_skip rfl rfl ?_) | (first | refine run_read rfl (by decide) (fun _ => nofun) (rd_fieldAddr0 rfl fld24_1) ?_ | refine run_read rfl (by decide) (fun _ => nofun) (rd_fieldAddr rfl fld24_1) ?_)
      first | (refine run_skip rfl rfl ?_) | (refine run_read rfl (by decide) (fun _ => nofun) (rd_load rfl row9 (cells_pts1 (by repeat (first | with_reducible exact Sel.head | apply Sel.tail)) rfl)) ?_)
      first | (refine run_skip rfl rfl ?_) | (refine run_read rfl (by decide) (fun _ => nofun) (rd_lens Try.underlying9 rfl) ?_)
      first | (refine run_skip rfl rfl ?_) | (first | refine run_read rfl (by decide) (fun _ => nofun) ((rd_gt rfl rfl).eq (show _ = Value.bool true by simp [ByteArray.size]; omega)) ?_ | refine run_read rfl (by decide) (fun _ => nofun) ((rd_gt rfl rfl).eq (show _ = Value.bool false by simp [ByteArray.size]; omega)) ?_)
      first | refine run_read rfl (by decide) (fun _ => nofun) (rd_pick_t rfl rfl) ?_ | refine run_read rfl (by decide) (fun _ => nofun) (rd_pick_f rfl rfl) ?_
      refine run_read rfl (by decide) (fun _ => nofun) (rd_move rfl) ?_
      first | (refine run_skip rfl rfl ?_) | (first | refine run_read rfl (by decide) (fun _ => nofun) (rd_fieldAddr0 rfl fld30_1) ?_ | refine run_read rfl (by decide) (fun _ => nofun) (rd_fieldAddr rfl fld30_1) ?_)
      first | (refine run_skip rfl rfl ?_) | (first | refine run_read rfl (by decide) (fun _ => nofun) (rd_fieldAddr0 rfl fld28_1) ?_ | refine run_read rfl (by decide) (fun _ => nofun) (rd_fieldAddr rfl fld28_1) ?_)
      first | (refine run_skip rfl rfl ?_) | (first | refine run_read rfl (by decide) (fun _ => nofun) (rd_fieldAddr0 rfl fld24_2) ?_ | refine run_read rfl (by decide) (fun _ => nofun) (rd_fieldAddr rfl fld24_2) ?_)
      first | (refine run_skip rfl rfl ?_) | (refine run_read rfl (by decide) (fun _ => nofun) (rd_load rfl row9 (cells_pts1 (by repeat (first | with_reducible exact Sel.head | apply Sel.tail)) rfl)) ?_)
      first | (refine run_skip rfl rfl ?_) | (refine run_read rfl (by decide) (fun _ => nofun) (rd_lens Try.underlying9 rfl) ?_)
      first | (refine run_skip rfl rfl ?_) | (first | refine run_read rfl (by decide) (fun _ => nofun) ((rd_gt rfl rfl).eq (show _ = Value.bool true by simp [ByteArray.size]; omega)) ?_ | refine run_read rfl (by decide) (fun _ => nofun) ((rd_gt rfl rfl).eq (show _ = Value.bool false by simp [ByteArray.size]; omega)) ?_)
      first | refine run_read rfl (by decide) (fun _ => nofun) (rd_pick_t rfl rfl) ?_ | refine run_read rfl (by decide) (fun _ => nofun) (rd_pick_f rfl rfl) ?_
      refine run_read rfl (by decide) (fun _ => nofun) (rd_move rfl) ?_
      first | (refine run_skip rfl rfl ?_) | (first | refine run_read rfl (by decide) (fun _ => nofun) (rd_fieldAddr0 rfl fld30_1) ?_ | refine run_read rfl (by decide) (fun _ => nofun) (rd_fieldAddr rfl fld30_1) ?_)
      first | (refine run_skip rfl rfl ?_) | (first | refine run_read rfl (by decide) (fun _ => nofun) (rd_fieldAddr0 rfl fld28_1) ?_ | refine run_read rfl (by decide) (fun _ => nofun) (rd_fieldAddr rfl fld28_1) ?_)
      first | (refine run_skip rfl rfl ?_) | (first | refine run_read rfl (by decide) (fun _ => nofun) (rd_fieldAddr0 rfl fld24_4) ?_ | refine run_read rfl (by decide) (fun _ => nofun) (rd_fieldAddr rfl fld24_4) ?_)
      first | (refine run_skip rfl rfl ?_) | (refine run_read rfl (by decide) (fun _ => nofun) (rd_load rfl row9 (cells_pts1 (by repeat (first | with_reducible exact Sel.head | apply Sel.tail)) rfl)) ?_)
      first | (refine run_skip rfl rfl ?_) | (refine run_read rfl (by decide) (fun _ => nofun) (rd_lens Try.underlying9 rfl) ?_)
      first | (refine run_skip rfl rfl ?_) | (first | refine run_read rfl (by decide) (fun _ => nofun) ((rd_gt rfl rfl).eq (show _ = Value.bool true by simp [ByteArray.size]; omega)) ?_ | refine run_read rfl (by decide) (fun _ => nofun) ((rd_gt rfl rfl).eq (show _ = Value.bool false by simp [ByteArray.size]; omega)) ?_)
      first | refine run_read rfl (by decide) (fun _ => nofun) (rd_pick_t rfl rfl) ?_ | refine run_read rfl (by decide) (fun _ => nofun) (rd_pick_f rfl rfl) ?_
      refine run_nil ?_
      refine St.keep (β' := [(1, _), (48, _)]) ⟨rfl, rfl, trivial⟩ ?_
      refine St.then_n ?_
      exact St.keep (β' := [(1, _), (48, _)]) ⟨rfl, rfl, trivial⟩ (hK _ (by first | exact (decide_eq_true (by omega)).symm | exact (decide_eq_false (by omega)).symm))
    · refine do_region ?_
      first | refine run_read rfl (by decide) (fun _ => nofun) (rd_fieldAddr0 rfl fld30_1) ?_ | refine run_read rfl (by decide) (fun _ => nofun) (rd_fieldAddr rfl fld30_1) ?_
      first | refine run_read rfl (by decide) (fun _ => nofun) (rd_fieldAddr0 rfl fld28_10) ?_ | refine run_read rfl (by decide) (fun _ => nofun) (rd_fieldAddr rfl fld28_10) ?_
      refine run_read rfl (by decide) (fun _ => nofun) (rd_load rfl row26 (cells_pts1 (by repeat (first | with_reducible exact Sel.head | apply Sel.tail)) rfl)) ?_
      refine run_read rfl (by decide) (fun _ => nofun) (rd_len Try.underlying26 rfl) ?_
      first | refine run_read rfl (by decide) (fun _ => nofun) ((rd_gt rfl rfl).eq (show _ = Value.bool true by simp; omega)) ?_ | refine run_read rfl (by decide) (fun _ => nofun) ((rd_gt rfl rfl).eq (show _ = Value.bool false by simp; omega)) ?_
      refine run_read rfl (by decide) (fun _ => nofun) (rd_move rfl) ?_
      first | (refine run_skip rfl rfl ?_) | (first | refine run_read rfl (by decide) (fun _ => nofun) (rd_fieldAddr0 rfl fld30_1) ?_ | refine run_read rfl (by decide) (fun _ => nofun) (rd_fieldAddr rfl fld30_1) ?_)
      first | (refine run_skip rfl rfl ?_) | (first | refine run_read rfl (by decide) (fun _ => nofun) (rd_fieldAddr0 rfl fld28_2) ?_ | refine run_read rfl (by decide) (fun _ => nofun) (rd_fieldAddr rfl fld28_2) ?_)
      first | (refine run_skip rfl rfl ?_) | (refine run_read rfl (by decide) (fun _ => nofun) (rd_load rfl row9 (cells_pts1 (by repeat (first | with_reducible exact Sel.head | apply Sel.tail)) rfl)) ?_)
      first | (refine run_skip rfl rfl ?_) | (refine run_read rfl (by decide) (fun _ => nofun) (rd_lens Try.underlying9 rfl) ?_)
      first | (refine run_skip rfl rfl ?_) | (first | refine run_read rfl (by decide) (fun _ => nofun) ((rd_gt rfl rfl).eq (show _ = Value.bool true by simp [ByteArray.size]; omega)) ?_ | refine run_read rfl (by decide) (fun _ => nofun) ((rd_gt rfl rfl).eq (show _ = Value.bool false by simp [ByteArray.size]; omega)) ?_)
      first | refine run_read rfl (by decide) (fun _ => nofun) (rd_pick_t rfl rfl) ?_ | refine run_read rfl (by decide) (fun _ => nofun) (rd_pick_f rfl rfl) ?_
      refine run_read rfl (by decide) (fun _ => nofun) (rd_move rfl) ?_
      first | (refine run_skip rfl rfl ?_) | (first | refine run_read rfl (by decide) (fun _ => nofun) (rd_fieldAddr0 rfl fld30_1) ?_ | refine run_read rfl (by decide) (fun _ => nofun) (rd_fieldAddr rfl fld30_1) ?_)
      first | (refine run_skip rfl rfl ?_) | (first | refine run_read rfl (by decide) (fun _ => nofun) (rd_fieldAddr0 rfl fld28_3) ?_ | refine run_read rfl (by decide) (fun _ => nofun) (rd_fieldAddr rfl fld28_3) ?_)
      first | (refine run_skip rfl rfl ?_) | (refine run_read rfl (by decide) (fun _ => nofun) (rd_load rfl row9 (cells_pts1 (by repeat (first | with_reducible exact Sel.head | apply Sel.tail)) rfl)) ?_)
      first | (refine run_skip rfl rfl ?_) | (refine run_read rfl (by decide) (fun _ => nofun) (rd_lens Try.underlying9 rfl) ?_)
      first | (refine run_skip rfl rfl ?_) | (first | refine run_read rfl (by decide) (fun _ => nofun) ((rd_gt rfl rfl).eq (show _ = Value.bool true by simp [ByteArray.size]; omega)) ?_ | refine run_read rfl (by decide) (fun _ => nofun) ((rd_gt rfl rfl).eq (show _ = Value.bool false by simp [ByteArray.size]; omega)) ?_)
      first | refine run_read rfl (by decide) (fun _ => nofun) (rd_pick_t rfl rfl) ?_ | refine run_read rfl (by decide) (fun _ => nofun) (rd_pick_f rfl rfl) ?_
      refine run_read rfl (by decide) (fun _ => nofun) (rd_move rfl) ?_
      first | (refine run_skip rfl rfl ?_) | (first | refine run_read rfl (by decide) (fun _ => nofun) (rd_fieldAddr0 rfl fld30_1) ?_ | refine run_read rfl (by decide) (fun _ => nofun) (rd_fieldAddr rfl fld30_1) ?_)
      first | (refine run_skip rfl rfl ?_) | (first | refine run_read rfl (by decide) (fun _ => nofun) (rd_fieldAddr0 rfl fld28_1) ?_ | refine run_read rfl (by decide) (fun _ => nofun) (rd_fieldAddr rfl fld28_1) ?_)
      first | (refine run_skip rfl rfl ?_) | (first | refine run_read rfl (by decide) (fun _ => nofun) (rd_fieldAddr0 rfl fld24_1) ?_ | refine run_read rfl (by decide) (fun _ => nofun) (rd_fieldAddr rfl fld24_1) ?_)
      first | (refine run_skip rfl rfl ?_) | (refine run_read rfl (by decide) (fun _ => nofun) (rd_load rfl row9 (cells_pts1 (by repeat (first | with_reducible exact Sel.head | apply Sel.tail)) rfl)) ?_)
      first | (refine run_skip rfl rfl ?_) | (refine run_read rfl (by decide) (fun _ => nofun) (rd_lens Try.underlying9 rfl) ?_)
      first | (refine run_skip rfl rfl ?_) | (first | refine run_read rfl (by decide) (fun _ => nofun) ((rd_gt rfl rfl).eq (show _ = Value.bool true by simp [ByteArray.size]; omega)) ?_ | refine run_read rfl (by decide) (fun _ => nofun) ((rd_gt rfl rfl).eq (show _ = Value.bool false by simp [ByteArray.size]; omega)) ?_)
      first | refine run_read rfl (by decide) (fun _ => nofun) (rd_pick_t rfl rfl) ?_ | refine run_read rfl (by decide) (fun _ => nofun) (rd_pick_f rfl rfl) ?_
      refine run_read rfl (by decide) (fun _ => nofun) (rd_move rfl) ?_
      first | (refine run_skip rfl rfl ?_) | (first | refine run_read rfl (by decide) (fun _ => nofun) (rd_fieldAddr0 rfl fld30_1) ?_ | refine run_read rfl (by decide) (fun _ => nofun) (rd_fieldAddr rfl fld30_1) ?_)
      first | (refine run_skip rfl rfl ?_) | (first | refine run_read rfl (by decide) (fun _ => nofun) (rd_fieldAddr0 rfl fld28_1) ?_ | refine run_read rfl (by decide) (fun _ => nofun) (rd_fieldAddr rfl fld28_1) ?_)
      first | (refine run_skip rfl rfl ?_) | (first | refine run_read rfl (by decide) (fun _ => nofun) (rd_fieldAddr0 rfl fld24_2) ?_ | refine run_read rfl (by decide) (fun _ => nofun) (rd_fieldAddr rfl fld24_2) ?_)
      first | (refine run_skip rfl rfl ?_) | (refine run_read rfl (by decide) (fun _ => nofun) (rd_load rfl row9 (cells_pts1 (by repeat (first | with_reducible exact Sel.head | apply Sel.tail)) rfl)) ?_)
      first | (refine run_skip rfl rfl ?_) | (refine run_read rfl (by decide) (fun _ => nofun) (rd_lens Try.underlying9 rfl) ?_)
      first | (refine run_skip rfl rfl ?_) | (first | refine run_read rfl (by decide) (fun _ => nofun) ((rd_gt rfl rfl).eq (show _ = Value.bool true by simp [ByteArray.size]; omega)) ?_ | refine run_read rfl (by decide) (fun _ => nofun) ((rd_gt rfl rfl).eq (show _ = Value.bool false by simp [ByteArray.size]; omega)) ?_)
      first | refine run_read rfl (by decide) (fun _ => nofun) (rd_pick_t rfl rfl) ?_ | refine run_read rfl (by decide) (fun _ => nofun) (rd_pick_f rfl rfl) ?_
      refine run_read rfl (by decide) (fun _ => nofun) (rd_move rfl) ?_
      first | (refine run_skip rfl rfl ?_) | (first | refine run_read rfl (by decide) (fun _ => nofun) (rd_fieldAddr0 rfl fld30_1) ?_ | refine run_read rfl (by decide) (fun _ => nofun) (rd_fieldAddr rfl fld30_1) ?_)
      first | (refine run_skip rfl rfl ?_) | (first | refine run_read rfl (by decide) (fun _ => nofun) (rd_fieldAddr0 rfl fld28_1) ?_ | refine run_read rfl (by decide) (fun _ => nofun) (rd_fieldAddr rfl fld28_1) ?_)
      first | (refine run_skip rfl rfl ?_) | (first | refine run_read rfl (by decide) (fun _ => nofun) (rd_fieldAddr0 rfl fld24_4) ?_ | refine run_read rfl (by decide) (fun _ => nofun) (rd_fieldAddr rfl fld24_4) ?_)
      first | (refine run_skip rfl rfl ?_) | (refine run_read rfl (by decide) (fun _ => nofun) (rd_load rfl row9 (cells_pts1 (by repeat (first | with_reducible exact Sel.head | apply Sel.tail)) rfl)) ?_)
      first | (refine run_skip rfl rfl ?_) | (refine run_read rfl (by decide) (fun _ => nofun) (rd_lens Try.underlying9 rfl) ?_)
      first | (refine run_skip rfl rfl ?_) | (first | refine run_read rfl (by decide) (fun _ => nofun) ((rd_gt rfl rfl).eq (show _ = Value.bool true by simp [ByteArray.size]; omega)) ?_ | refine run_read rfl (by decide) (fun _ => nofun) ((rd_gt rfl rfl).eq (show _ = Value.bool false by simp [ByteArray.size]; omega)) ?_)
      first | refine run_read rfl (by decide) (fun _ => nofun) (rd_pick_t rfl rfl) ?_ | refine run_read rfl (by decide) (fun _ => nofun) (rd_pick_f rfl rfl) ?_
      refine run_nil ?_
      refine St.keep (β' := [(1, _), (48, _)]) ⟨rfl, rfl, trivial⟩ ?_
      refine St.then_n ?_
      exact St.keep (β' := [(1, _), (48, _)]) ⟨rfl, rfl, trivial⟩ (hK _ (by first | exact (decide_eq_true (by omega)).symm | exact (decide_eq_false (by omega)).symm))
    · refine do_region ?_
      first | refine run_read rfl (by decide) (fun _ => nofun) (rd_fieldAddr0 rfl fld30_1) ?_ | refine run_read rfl (by decide) (fun _ => nofun) (rd_fieldAddr rfl fld30_1) ?_
      first | refine run_read rfl (by decide) (fun _ => nofun) (rd_fieldAddr0 rfl fld28_10) ?_ | refine run_read rfl (by decide) (fun _ => nofun) (rd_fieldAddr rfl fld28_10) ?_
      refine run_read rfl (by decide) (fun _ => nofun) (rd_load rfl row26 (cells_pts1 (by repeat (first | with_reducible exact Sel.head | apply Sel.tail)) rfl)) ?_
      refine run_read rfl (by decide) (fun _ => nofun) (rd_len Try.underlying26 rfl) ?_
      first | refine run_read rfl (by decide) (fun _ => nofun) ((rd_gt rfl rfl).eq (show _ = Value.bool true by simp; omega)) ?_ | refine run_read rfl (by decide) (fun _ => nofun) ((rd_gt rfl rfl).eq (show _ = Value.bool false by simp; omega)) ?_
      refine run_read rfl (by decide) (fun _ => nofun) (rd_move rfl) ?_
      first | (refine run_skip rfl rfl ?_) | (first | refine run_read rfl (by decide) (fun _ => nofun) (rd_fieldAddr0 rfl fld30_1) ?_ | refine run_read rfl (by decide) (fun _ => nofun) (rd_fieldAddr rfl fld30_1) ?_)
      first | (refine run_skip rfl rfl ?_) | (first | refine run_read rfl (by decide) (fun _ => nofun) (rd_fieldAddr0 rfl fld28_2) ?_ | refine run_read rfl (by decide) (fun _ => nofun) (rd_fieldAddr rfl fld28_2) ?_)
      first | (refine run_skip rfl rfl ?_) | (refine run_read rfl (by decide) (fun _ => nofun) (rd_load rfl row9 (cells_pts1 (by repeat (first | with_reducible exact Sel.head | apply Sel.tail)) rfl)) ?_)
      first | (refine run_skip rfl rfl ?_) | (refine run_read rfl (by decide) (fun _ => nofun) (rd_lens Try.underlying9 rfl) ?_)
      first | (refine run_skip rfl rfl ?_) | (first | refine run_read rfl (by decide) (fun _ => nofun) ((rd_gt rfl rfl).eq (show _ = Value.bool true by simp [ByteArray.size]; omega)) ?_ | refine run_read rfl (by decide) (fun _ => nofun) ((rd_gt rfl rfl).eq (show _ = Value.bool false by simp [ByteArray.size]; omega)) ?_)
      first | refine run_read rfl (by decide) (fun _ => nofun) (rd_pick_t rfl rfl) ?_ | refine run_read rfl (by decide) (fun _ => nofun) (rd_pick_f rfl rfl) ?_
      refine run_read rfl (by decide) (fun _ => nofun) (rd_move rfl) ?_
      first | (refine run_skip rfl rfl ?_) | (first | refine run_read rfl (by decide) (fun _ => nofun) (rd_fieldAddr0 rfl fld30_1) ?_ | refine run_read rfl (by decide) (fun _ => nofun) (rd_fieldAddr rfl fld30_1) ?_)
      first | (refine run_skip rfl rfl ?_) | (first | refine run_read rfl (by decide) (fun _ => nofun) (rd_fieldAddr0 rfl fld28_3) ?_ | refine run_read rfl (by decide) (fun _ => nofun) (rd_fieldAddr rfl fld28_3) ?_)
      first | (refine run_skip rfl rfl ?_) | (refine run_read rfl (by decide) (fun _ => nofun) (rd_load rfl row9 (cells_pts1 (by repeat (first | with_reducible exact Sel.head | apply Sel.tail)) rfl)) ?_)
      first | (refine run_skip rfl rfl ?_) | (refine run_read rfl (by decide) (fun _ => nofun) (rd_lens Try.underlying9 rfl) ?_)
      first | (refine run_skip rfl rfl ?_) | (first | refine run_read rfl (by decide) (fun _ => nofun) ((rd_gt rfl rfl).eq (show _ = Value.bool true by simp [ByteArray.size]; omega)) ?_ | refine run_read rfl (by decide) (fun _ => nofun) ((rd_gt rfl rfl).eq (show _ = Value.bool false by simp [ByteArray.size]; omega)) ?_)
      first | refine run_read rfl (by decide) (fun _ => nofun) (rd_pick_t rfl rfl) ?_ | refine run_read rfl (by decide) (fun _ => nofun) (rd_pick_f rfl rfl) ?_
      refine run_read rfl (by decide) (fun _ => nofun) (rd_move rfl) ?_
      first | (refine run_skip rfl rfl ?_) | (first | refine run_read rfl (by decide) (fun _ => nofun) (rd_fieldAddr0 rfl fld30_1) ?_ | refine run_read rfl (by decide) (fun _ => nofun) (rd_fieldAddr rfl fld30_1) ?_)
      first | (refine run_skip rfl rfl ?_) | (first | refine run_read rfl (by decide) (fun _ => nofun) (rd_fieldAddr0 rfl fld28_1) ?_ | refine run_read rfl (by decide) (fun _ => nofun) (rd_fieldAddr rfl fld28_1) ?_)
      first | (refine run_skip rfl rfl ?_) | (first | refine run_read rfl (by decide) (fun _ => nofun) (rd_fieldAddr0 rfl fld24_1) ?_ | refine run_read rfl (by decide) (fun _ => nofun) (rd_fieldAddr rfl fld24_1) ?_)
      first | (refine run_skip rfl rfl ?_) | (refine run_read rfl (by decide) (fun _ => nofun) (rd_load rfl row9 (cells_pts1 (by repeat (first | with_reducible exact Sel.head | apply Sel.tail)) rfl)) ?_)
      first | (refine run_skip rfl rfl ?_) | (refine run_read rfl (by decide) (fun _ => nofun) (rd_lens Try.underlying9 rfl) ?_)
      first | (refine run_skip rfl rfl ?_) | (first | refine run_read rfl (by decide) (fun _ => nofun) ((rd_gt rfl rfl).eq (show _ = Value.bool true by simp [ByteArray.size]; omega)) ?_ | refine run_read rfl (by decide) (fun _ => nofun) ((rd_gt rfl rfl).eq (show _ = Value.bool false by simp [ByteArray.size]; omega)) ?_)
      first | refine run_read rfl (by decide) (fun _ => nofun) (rd_pick_t rfl rfl) ?_ | refine run_read rfl (by decide) (fun _ => nofun) (rd_pick_f rfl rfl) ?_
      refine run_read rfl (by decide) (fun _ => nofun) (rd_move rfl) ?_
      first | (refine run_skip rfl rfl ?_) | (first | refine run_read rfl (by decide) (fun _ => nofun) (rd_fieldAddr0 rfl fld30_1) ?_ | refine run_read rfl (by decide) (fun _ => nofun) (rd_fieldAddr rfl fld30_1) ?_)
      first | (refine run_skip rfl rfl ?_) | (first | refine run_read rfl (by decide) (fun _ => nofun) (rd_fieldAddr0 rfl fld28_1) ?_ | refine run_read rfl (by decide) (fun _ => nofun) (rd_fieldAddr rfl fld28_1) ?_)
      first | (refine run_skip rfl rfl ?_) | (first | refine run_read rfl (by decide) (fun _ => nofun) (rd_fieldAddr0 rfl fld24_2) ?_ | refine run_read rfl (by decide) (fun _ => nofun) (rd_fieldAddr rfl fld24_2) ?_)
      first | (refine run_skip rfl rfl ?_) | (refine run_read rfl (by decide) (fun _ => nofun) (rd_load rfl row9 (cells_pts1 (by repeat (first | with_reducible exact Sel.head | apply Sel.tail)) rfl)) ?_)
      first | (refine run_skip rfl rfl ?_) | (refine run_read rfl (by decide) (fun _ => nofun) (rd_lens Try.underlying9 rfl) ?_)
      first | (refine run_skip rfl rfl ?_) | (first | refine run_read rfl (by decide) (fun _ => nofun) ((rd_gt rfl rfl).eq (show _ = Value.bool true by simp [ByteArray.size]; omega)) ?_ | refine run_read rfl (by decide) (fun _ => nofun) ((rd_gt rfl rfl).eq (show _ = Value.bool false by simp [ByteArray.size]; omega)) ?_)
      first | refine run_read rfl (by decide) (fun _ => nofun) (rd_pick_t rfl rfl) ?_ | refine run_read rfl (by decide) (fun _ => nofun) (rd_pick_f rfl rfl) ?_
      refine run_read rfl (by decide) (fun _ => nofun) (rd_move rfl) ?_
      first | (refine run_skip rfl rfl ?_) | (first | refine run_read rfl (by decide) (fun _ => nofun) (rd_fieldAddr0 rfl fld30_1) ?_ | refine run_read rfl (by decide) (fun _ => nofun) (rd_fieldAddr rfl fld30_1) ?_)
      first | (refine run_skip rfl rfl ?_) | (first | refine run_read rfl (by decide) (fun _ => nofun) (rd_fieldAddr0 rfl fld28_1) ?_ | refine run_read rfl (by decide) (fun _ => nofun) (rd_fieldAddr rfl fld28_1) ?_)
      first | (refine run_skip rfl rfl ?_) | (first | refine run_read rfl (by decide) (fun _ => nofun) (rd_fieldAddr0 rfl fld24_4) ?_ | refine run_read rfl (by decide) (fun _ => nofun) (rd_fieldAddr rfl fld24_4) ?_)
      first | (refine run_skip rfl rfl ?_) | (refine run_read rfl (by decide) (fun _ => nofun) (rd_load rfl row9 (cells_pts1 (by repeat (first | with_reducible exact Sel.head | apply Sel.tail)) rfl)) ?_)
      first | (refine run_skip rfl rfl ?_) | (refine run_read rfl (by decide) (fun _ => nofun) (rd_lens Try.underlying9 rfl) ?_)
      first | (refine run_skip rfl rfl ?_) | (first | refine run_read rfl (by decide) (fun _ => nofun) ((rd_gt rfl rfl).eq (show _ = Value.bool true by simp [ByteArray.size]; omega)) ?_ | refine run_read rfl (by decide) (fun _ => nofun) ((rd_gt rfl rfl).eq (show _ = Value.bool false by simp [ByteArray.size]; omega)) ?_)
      first | refine run_read rfl (by decide) (fun _ => nofun) (rd_pick_t rfl rfl) ?_ | refine run_read rfl (by decide) (fun _ => nofun) (rd_pick_f rfl rfl) ?_
      refine run_nil ?_
      refine St.keep (β' := [(1, _), (48, _)]) ⟨rfl, rfl, trivial⟩ ?_
      refine St.then_n ?_
      exact St.keep (β' := [(1, _), (48, _)]) ⟨rfl, rfl, trivial⟩ (hK _ (by first | exact (decide_eq_true (by omega)).symm | exact (decide_eq_false (by omega)).symm))
    · refine do_region ?_
      first | refine run_read rfl (by decide) (fun _ => nofun) (rd_fieldAddr0 rfl fld30_1) ?_ | refine run_read rfl (by decide) (fun _ => nofun) (rd_fieldAddr rfl fld30_1) ?_
      first | refine run_read rfl (by decide) (fun _ => nofun) (rd_fieldAddr0 rfl fld28_10) ?_ | refine run_read rfl (by decide) (fun _ => nofun) (rd_fieldAddr rfl fld28_10) ?_
      refine run_read rfl (by decide) (fun _ => nofun) (rd_load rfl row26 (cells_pts1 (by repeat (first | with_reducible exact Sel.head | apply Sel.tail)) rfl)) ?_
      refine run_read rfl (by decide) (fun _ => nofun) (rd_len Try.underlying26 rfl) ?_
      first | refine run_read rfl (by decide) (fun _ => nofun) ((rd_gt rfl rfl).eq (show _ = Value.bool true by simp; omega)) ?_ | refine run_read rfl (by decide) (fun _ => nofun) ((rd_gt rfl rfl).eq (show _ = Value.bool false by simp; omega)) ?_
      refine run_read rfl (by decide) (fun _ => nofun) (rd_move rfl) ?_
      first | (refine run_skip rfl rfl ?_) | (first | refine run_read rfl (by decide) (fun _ => nofun) (rd_fieldAddr0 rfl fld30_1) ?_ | refine run_read rfl (by decide) (fun _ => nofun) (rd_fieldAddr rfl fld30_1) ?_)
      first | (refine run_skip rfl rfl ?_) | (first | refine run_read rfl (by decide) (fun _ => nofun) (rd_fieldAddr0 rfl fld28_2) ?_ | refine run_read rfl (by decide) (fun _ => nofun) (rd_fieldAddr rfl fld28_2) ?_)
      first | (refine run_skip rfl rfl ?_) | (refine run_read rfl (by decide) (fun _ => nofun) (rd_load rfl row9 (cells_pts1 (by repeat (first | with_reducible exact Sel.head | apply Sel.tail)) rfl)) ?_)
      first | (refine run_skip rfl rfl ?_) | (refine run_read rfl (by decide) (fun _ => nofun) (rd_lens Try.underlying9 rfl) ?_)
      first | (refine run_skip rfl rfl ?_) | (first | refine run_read rfl (by decide) (fun _ => nofun) ((rd_gt rfl rfl).eq (show _ = Value.bool true by simp [ByteArray.size]; omega)) ?_ | refine run_read rfl (by decide) (fun _ => nofun) ((rd_gt rfl rfl).eq (show _ = Value.bool false by simp [ByteArray.size]; omega)) ?_)
      first | refine run_read rfl (by decide) (fun _ => nofun) (rd_pick_t rfl rfl) ?_ | refine run_read rfl (by decide) (fun _ => nofun) (rd_pick_f rfl rfl) ?_
      refine run_read rfl (by decide) (fun _ => nofun) (rd_move rfl) ?_
      first | (refine run_skip rfl rfl ?_) | (first | refine run_read rfl (by decide) (fun _ => nofun) (rd_fieldAddr0 rfl fld30_1) ?_ | refine run_read rfl (by decide) (fun _ => nofun) (rd_fieldAddr rfl fld30_1) ?_)
      first | (refine run_skip rfl rfl ?_) | (first | refine run_read rfl (by decide) (fun _ => nofun) (rd_fieldAddr0 rfl fld28_3) ?_ | refine run_read rfl (by decide) (fun _ => nofun) (rd_fieldAddr rfl fld28_3) ?_)
      first | (refine run_skip rfl rfl ?_) | (refine run_read rfl (by decide) (fun _ => nofun) (rd_load rfl row9 (cells_pts1 (by repeat (first | with_reducible exact Sel.head | apply Sel.tail)) rfl)) ?_)
      first | (refine run_skip rfl rfl ?_) | (refine run_read rfl (by decide) (fun _ => nofun) (rd_lens Try.underlying9 rfl) ?_)
      first | (refine run_skip rfl rfl ?_) | (first | refine run_read rfl (by decide) (fun _ => nofun) ((rd_gt rfl rfl).eq (show _ = Value.bool true by simp [ByteArray.size]; omega)) ?_ | refine run_read rfl (by decide) (fun _ => nofun) ((rd_gt rfl rfl).eq (show _ = Value.bool false by simp [ByteArray.size]; omega)) ?_)
      first | refine run_read rfl (by decide) (fun _ => nofun) (rd_pick_t rfl rfl) ?_ | refine run_read rfl (by decide) (fun _ => nofun) (rd_pick_f rfl rfl) ?_
      refine run_read rfl (by decide) (fun _ => nofun) (rd_move rfl) ?_
      first | (refine run_skip rfl rfl ?_) | (first | refine run_read rfl (by decide) (fun _ => nofun) (rd_fieldAddr0 rfl fld30_1) ?_ | refine run_read rfl (by decide) (fun _ => nofun) (rd_fieldAddr rfl fld30_1) ?_)
      first | (refine run_skip rfl rfl ?_) | (first | refine run_read rfl (by decide) (fun _ => nofun) (rd_fieldAddr0 rfl fld28_1) ?_ | refine run_read rfl (by decide) (fun _ => nofun) (rd_fieldAddr rfl fld28_1) ?_)
      first | (refine run_skip rfl rfl ?_) | (first | refine run_read rfl (by decide) (fun _ => nofun) (rd_fieldAddr0 rfl fld24_1) ?_ | refine run_read rfl (by decide) (fun _ => nofun) (rd_fieldAddr rfl fld24_1) ?_)
      first | (refine run_skip rfl rfl ?_) | (refine run_read rfl (by decide) (fun _ => nofun) (rd_load rfl row9 (cells_pts1 (by repeat (first | with_reducible exact Sel.head | apply Sel.tail)) rfl)) ?_)
      first | (refine run_skip rfl rfl ?_) | (refine run_read rfl (by decide) (fun _ => nofun) (rd_lens Try.underlying9 rfl) ?_)
      first | (refine run_skip rfl rfl ?_) | (first | refine run_read rfl (by decide) (fun _ => nofun) ((rd_gt rfl rfl).eq (show _ = Value.bool true by simp [ByteArray.size]; omega)) ?_ | refine run_read rfl (by decide) (fun _ => nofun) ((rd_gt rfl rfl).eq (show _ = Value.bool false by simp [ByteArray.size]; omega)) ?_)
      first | refine run_read rfl (by decide) (fun _ => nofun) (rd_pick_t rfl rfl) ?_ | refine run_read rfl (by decide) (fun _ => nofun) (rd_pick_f rfl rfl) ?_
      refine run_read rfl (by decide) (fun _ => nofun) (rd_move rfl) ?_
      first | (refine run_skip rfl rfl ?_) | (first | refine run_read rfl (by decide) (fun _ => nofun) (rd_fieldAddr0 rfl fld30_1) ?_ | refine run_read rfl (by decide) (fun _ => nofun) (rd_fieldAddr rfl fld30_1) ?_)
      first | (refine run_skip rfl rfl ?_) | (first | refine run_read rfl (by decide) (fun _ => nofun) (rd_fieldAddr0 rfl fld28_1) ?_ | refine run_read rfl (by decide) (fun _ => nofun) (rd_fieldAddr rfl fld28_1) ?_)
      first | (refine run_skip rfl rfl ?_) | (first | refine run_read rfl (by decide) (fun _ => nofun) (rd_fieldAddr0 rfl fld24_2) ?_ | refine run_read rfl (by decide) (fun _ => nofun) (rd_fieldAddr rfl fld24_2) ?_)
      first | (refine run_skip rfl rfl ?_) | (refine run_read rfl (by decide) (fun _ => nofun) (rd_load rfl row9 (cells_pts1 (by repeat (first | with_reducible exact Sel.head | apply Sel.tail)) rfl)) ?_)
      first | (refine run_skip rfl rfl ?_) | (refine run_read rfl (by decide) (fun _ => nofun) (rd_lens Try.underlying9 rfl) ?_)
      first | (refine run_skip rfl rfl ?_) | (first | refine run_read rfl (by decide) (fun _ => nofun) ((rd_gt rfl rfl).eq (show _ = Value.bool true by simp [ByteArray.size]; omega)) ?_ | refine run_read rfl (by decide) (fun _ => nofun) ((rd_gt rfl rfl).eq (show _ = Value.bool false by simp [ByteArray.size]; omega)) ?_)
      first | refine run_read rfl (by decide) (fun _ => nofun) (rd_pick_t rfl rfl) ?_ | refine run_read rfl (by decide) (fun _ => nofun) (rd_pick_f rfl rfl) ?_
      refine run_read rfl (by decide) (fun _ => nofun) (rd_move rfl) ?_
      first | (refine run_skip rfl rfl ?_) | (first | refine run_read rfl (by decide) (fun _ => nofun) (rd_fieldAddr0 rfl fld30_1) ?_ | refine run_read rfl (by decide) (fun _ => nofun) (rd_fieldAddr rfl fld30_1) ?_)
      first | (refine run_skip rfl rfl ?_) | (first | refine run_read rfl (by decide) (fun _ => nofun) (rd_fieldAddr0 rfl fld28_1) ?_ | refine run_read rfl (by decide) (fun _ => nofun) (rd_fieldAddr rfl fld28_1) ?_)
      first | (refine run_skip rfl rfl ?_) | (first | refine run_read rfl (by decide) (fun _ => nofun) (rd_fieldAddr0 rfl fld24_4) ?_ | refine run_read rfl (by decide) (fun _ => nofun) (rd_fieldAddr rfl fld24_4) ?_)
      first | (refine run_skip rfl rfl ?_) | (refine run_read rfl (by decide) (fun _ => nofun) (rd_load rfl row9 (cells_pts1 (by repeat (first | with_reducible exact Sel.head | apply Sel.tail)) rfl)) ?_)
      first | (refine run_skip rfl rfl ?_) | (refine run_read rfl (by decide) (fun _ => nofun) (rd_lens Try.underlying9 rfl) ?_)
      first | (refine run_skip rfl rfl ?_) | (first | refine run_read rfl (by decide) (fun _ => nofun) ((rd_gt rfl rfl).eq (show _ = Value.bool true by simp [ByteArray.size]; omega)) ?_ | refine run_read rfl (by decide) (fun _ => nofun) ((rd_gt rfl rfl).eq (show _ = Value.bool false by simp [ByteArray.size]; omega)) ?_)
      first | refine run_read rfl (by decide) (fun _ => nofun) (rd_pick_t rfl rfl) ?_ | refine run_read rfl (by decide) (fun _ => nofun) (rd_pick_f rfl rfl) ?_
      refine run_nil ?_
      refine St.keep (β' := [(1, _), (48, _)]) ⟨rfl, rfl, trivial⟩ ?_
      refine St.then_n ?_
      exact St.keep (β' := [(1, _), (48, _)]) ⟨rfl, rfl, trivial⟩ (hK _ (by first | exact (decide_eq_true (by omega)).symm | exact (decide_eq_false (by omega)).symm))
    · refine do_region ?_
      first | refine run_read rfl (by decide) (fun _ => nofun) (rd_fieldAddr0 rfl fld30_1) ?_ | refine run_read rfl (by decide) (fun _ => nofun) (rd_fieldAddr rfl fld30_1) ?_
      first | refine run_read rfl (by decide) (fun _ => nofun) (rd_fieldAddr0 rfl fld28_10) ?_ | refine run_read rfl (by decide) (fun _ => nofun) (rd_fieldAddr rfl fld28_10) ?_
      refine run_read rfl (by decide) (fun _ => nofun) (rd_load rfl row26 (cells_pts1 (by repeat (first | with_reducible exact Sel.head | apply Sel.tail)) rfl)) ?_
      refine run_read rfl (by decide) (fun _ => nofun) (rd_len Try.underlying26 rfl) ?_
      first | refine run_read rfl (by decide) (fun _ => nofun) ((rd_gt rfl rfl).eq (show _ = Value.bool true by simp; omega)) ?_ | refine run_read rfl (by decide) (fun _ => nofun) ((rd_gt rfl rfl).eq (show _ = Value.bool false by simp; omega)) ?_
      refine run_read rfl (by decide) (fun _ => nofun) (rd_move rfl) ?_
      first | (refine run_skip rfl rfl ?_) | (first | refine run_read rfl (by decide) (fun _ => nofun) (rd_fieldAddr0 rfl fld30_1) ?_ | refine run_read rfl (by decide) (fun _ => nofun) (rd_fieldAddr rfl fld30_1) ?_)
      first | (refine run_skip rfl rfl ?_) | (first | refine run_read rfl (by decide) (fun _ => nofun) (rd_fieldAddr0 rfl fld28_2) ?_ | refine run_read rfl (by decide) (fun _ => nofun) (rd_fieldAddr rfl fld28_2) ?_)
      first | (refine run_skip rfl rfl ?_) | (refine run_read rfl (by decide) (fun _ => nofun) (rd_load rfl row9 (cells_pts1 (by repeat (first | with_reducible exact Sel.head | apply Sel.tail)) rfl)) ?_)
      first | (refine run_skip rfl rfl ?_) | (refine run_read rfl (by decide) (fun _ => nofun) (rd_lens Try.underlying9 rfl) ?_)
      first | (refine run_skip rfl rfl ?_) | (first | refine run_read rfl (by decide) (fun _ => nofun) ((rd_gt rfl rfl).eq (show _ = Value.bool true by simp [ByteArray.size]; omega)) ?_ | refine run_read rfl (by decide) (fun _ => nofun) ((rd_gt rfl rfl).eq (show _ = Value.bool false by simp [ByteArray.size]; omega)) ?_)
      first | refine run_read rfl (by decide) (fun _ => nofun) (rd_pick_t rfl rfl) ?_ | refine run_read rfl (by decide) (fun _ => nofun) (rd_pick_f rfl rfl) ?_
      refine run_read rfl (by decide) (fun _ => nofun) (rd_move rfl) ?_
      first | (refine run_skip rfl rfl ?_) | (first | refine run_read rfl (by decide) (fun _ => nofun) (rd_fieldAddr0 rfl fld30_1) ?_ | refine run_read rfl (by decide) (fun _ => nofun) (rd_fieldAddr rfl fld30_1) ?_)
      first | (refine run_skip rfl rfl ?_) | (first | refine run_read rfl (by decide) (fun _ => nofun) (rd_fieldAddr0 rfl fld28_3) ?_ | refine run_read rfl (by decide) (fun _ => nofun) (rd_fieldAddr rfl fld28_3) ?_)
      first | (refine run_skip rfl rfl ?_) | (refine run_read rfl (by decide) (fun _ => nofun) (rd_load rfl row9 (cells_pts1 (by repeat (first | with_reducible exact Sel.head | apply Sel.tail)) rfl)) ?_)
      first | (refine run_skip rfl rfl ?_) | (refine run_read rfl (by decide) (fun _ => nofun) (rd_lens Try.underlying9 rfl) ?_)
      first | (refine run_skip rfl rfl ?_) | (first | refine run_read rfl (by decide) (fun _ => nofun) ((rd_gt rfl rfl).eq (show _ = Value.bool true by simp [ByteArray.size]; omega)) ?_ | refine run_read rfl (by decide) (fun _ => nofun) ((rd_gt rfl rfl).eq (show _ = Value.bool false by simp [ByteArray.size]; omega)) ?_)
      first | refine run_read rfl (by decide) (fun _ => nofun) (rd_pick_t rfl rfl) ?_ | refine run_read rfl (by decide) (fun _ => nofun) (rd_pick_f rfl rfl) ?_
      refine run_read rfl (by decide) (fun _ => nofun) (rd_move rfl) ?_
      first | (refine run_skip rfl rfl ?_) | (first | refine run_read rfl (by decide) (fun _ => nofun) (rd_fieldAddr0 rfl fld30_1) ?_ | refine run_read rfl (by decide) (fun _ => nofun) (rd_fieldAddr rfl fld30_1) ?_)
      first | (refine run_skip rfl rfl ?_) | (first | refine run_read rfl (by decide) (fun _ => nofun) (rd_fieldAddr0 rfl fld28_1) ?_ | refine run_read rfl (by decide) (fun _ => nofun) (rd_fieldAddr rfl fld28_1) ?_)
      first | (refine run_skip rfl rfl ?_) | (first | refine run_read rfl (by decide) (fun _ => nofun) (rd_fieldAddr0 rfl fld24_1) ?_ | refine run_read rfl (by decide) (fun _ => nofun) (rd_fieldAddr rfl fld24_1) ?_)
      first | (refine run_skip rfl rfl ?_) | (refine run_read rfl (by decide) (fun _ => nofun) (rd_load rfl row9 (cells_pts1 (by repeat (first | with_reducible exact Sel.head | apply Sel.tail)) rfl)) ?_)
      first | (refine run_skip rfl rfl ?_) | (refine run_read rfl (by decide) (fun _ => nofun) (rd_lens Try.underlying9 rfl) ?_)
      first | (refine run_skip rfl rfl ?_) | (first | refine run_read rfl (by decide) (fun _ => nofun) ((rd_gt rfl rfl).eq (show _ = Value.bool true by simp [ByteArray.size]; omega)) ?_ | refine run_read rfl (by decide) (fun _ => nofun) ((rd_gt rfl rfl).eq (show _ = Value.bool false by simp [ByteArray.size]; omega)) ?_)
      first | refine run_read rfl (by decide) (fun _ => nofun) (rd_pick_t rfl rfl) ?_ | refine run_read rfl (by decide) (fun _ => nofun) (rd_pick_f rfl rfl) ?_
      refine run_read rfl (by decide) (fun _ => nofun) (rd_move rfl) ?_
      first | (refine run_skip rfl rfl ?_) | (first | refine run_read rfl (by decide) (fun _ => nofun) (rd_fieldAddr0 rfl fld30_1) ?_ | refine run_read rfl (by decide) (fun _ => nofun) (rd_fieldAddr rfl fld30_1) ?_)
      first | (refine run_skip rfl rfl ?_) | (first | refine run_read rfl (by decide) (fun _ => nofun) (rd_fieldAddr0 rfl fld28_1) ?_ | refine run_read rfl (by decide) (fun _ => nofun) (rd_fieldAddr rfl fld28_1) ?_)
      first | (refine run_skip rfl rfl ?_) | (first | refine run_read rfl (by decide) (fun _ => nofun) (rd_fieldAddr0 rfl fld24_2) ?_ | refine run_read rfl (by decide) (fun _ => nofun) (rd_fieldAddr rfl fld24_2) ?_)
      first | (refine run_skip rfl rfl ?_) | (refine run_read rfl (by decide) (fun _ => nofun) (rd_load rfl row9 (cells_pts1 (by repeat (first | with_reducible exact Sel.head | apply Sel.tail)) rfl)) ?_)
      first | (refine run_skip rfl rfl ?_) | (refine run_read rfl (by decide) (fun _ => nofun) (rd_lens Try.underlying9 rfl) ?_)
      first | (refine run_skip rfl rfl ?_) | (first | refine run_read rfl (by decide) (fun _ => nofun) ((rd_gt rfl rfl).eq (show _ = Value.bool true by simp [ByteArray.size]; omega)) ?_ | refine run_read rfl (by decide) (fun _ => nofun) ((rd_gt rfl rfl).eq (show _ = Value.bool false by simp [ByteArray.size]; omega)) ?_)
      first | refine run_read rfl (by decide) (fun _ => nofun) (rd_pick_t rfl rfl) ?_ | refine run_read rfl (by decide) (fun _ => nofun) (rd_pick_f rfl rfl) ?_
      refine run_read rfl (by decide) (fun _ => nofun) (rd_move rfl) ?_
      first | (refine run_skip rfl rfl ?_) | (first | refine run_read rfl (by decide) (fun _ => nofun) (rd_fieldAddr0 rfl fld30_1) ?_ | refine run_read rfl (by decide) (fun _ => nofun) (rd_fieldAddr rfl fld30_1) ?_)
      first | (refine run_skip rfl rfl ?_) | (first | refine run_read rfl (by decide) (fun _ => nofun) (rd_fieldAddr0 rfl fld28_1) ?_ | refine run_read rfl (by decide) (fun _ => nofun) (rd_fieldAddr rfl fld28_1) ?_)
      first | (refine run_skip rfl rfl ?_) | (first | refine run_read rfl (by decide) (fun _ => nofun) (rd_fieldAddr0 rfl fld24_4) ?_ | refine run_read rfl (by decide) (fun _ => nofun) (rd_fieldAddr rfl fld24_4) ?_)
      first | (refine run_skip rfl rfl ?_) | (refine run_read rfl (by decide) (fun _ => nofun) (rd_load rfl row9 (cells_pts1 (by repeat (first | with_reducible exact Sel.head | apply Sel.tail)) rfl)) ?_)
      first | (refine run_skip rfl rfl ?_) | (refine run_read rfl (by decide) (fun _ => nofun) (rd_lens Try.underlying9 rfl) ?_)
      first | (refine run_skip rfl rfl ?_) | (first | refine run_read rfl (by decide) (fun _ => nofun) ((rd_gt rfl rfl).eq (show _ = Value.bool true by simp [ByteArray.size]; omega)) ?_ | refine run_read rfl (by decide) (fun _ => nofun) ((rd_gt rfl rfl).eq (show _ = Value.bool false by simp [ByteArray.size]; omega)) ?_)
      first | refine run_read rfl (by decide) (fun _ => nofun) (rd_pick_t rfl rfl) ?_ | refine run_read rfl (by decide) (fun _ => nofun) (rd_pick_f rfl rfl) ?_
      refine run_nil ?_
      refine St.keep (β' := [(1, _), (48, _)]) ⟨rfl, rfl, trivial⟩ ?_
      refine St.then_n ?_
      exact St.keep (β' := [(1, _), (48, _)]) ⟨rfl, rfl, trivial⟩ (hK _ (by first | exact (decide_eq_true (by omega)).symm | exact (decide_eq_false (by omega)).symm))
    · refine do_region ?_
      first | refine run_read rfl (by decide) (fun _ => nofun) (rd_fieldAddr0 rfl fld30_1) ?_ | refine run_read rfl (by decide) (fun _ => nofun) (rd_fieldAddr rfl fld30_1) ?_
      first | refine run_read rfl (by decide) (fun _ => nofun) (rd_fieldAddr0 rfl fld28_10) ?_ | refine run_read rfl (by decide) (fun _ => nofun) (rd_fieldAddr rfl fld28_10) ?_
      refine run_read rfl (by decide) (fun _ => nofun) (rd_load rfl row26 (cells_pts1 (by repeat (first | with_reducible exact Sel.head | apply Sel.tail)) rfl)) ?_
      refine run_read rfl (by decide) (fun _ => nofun) (rd_len Try.underlying26 rfl) ?_
      first | refine run_read rfl (by decide) (fun _ => nofun) ((rd_gt rfl rfl).eq (show _ = Value.bool true by simp; omega)) ?_ | refine run_read rfl (by decide) (fun _ => nofun) ((rd_gt rfl rfl).eq (show _ = Value.bool false by simp; omega)) ?_
      refine run_read rfl (by decide) (fun _ => nofun) (rd_move rfl) ?_
      first | (refine run_skip rfl rfl ?_) | (first | refine run_read rfl (by decide) (fun _ => nofun) (rd_fieldAddr0 rfl fld30_1) ?_ | refine run_read rfl (by decide) (fun _ => nofun) (rd_fieldAddr rfl fld30_1) ?_)
      first | (refine run_skip rfl rfl ?_) | (first | refine run_read rfl (by decide) (fun _ => nofun) (rd_fieldAddr0 rfl fld28_2) ?_ | refine run_read rfl (by decide) (fun _ => nofun) (rd_fieldAddr rfl fld28_2) ?_)
      first | (refine run_skip rfl rfl ?_) | (refine run_read rfl (by decide) (fun _ => nofun) (rd_load rfl row9 (cells_pts1 (by repeat (first | with_reducible exact Sel.head | apply Sel.tail)) rfl)) ?_)
      first | (refine run_skip rfl rfl ?_) | (refine run_read rfl (by decide) (fun _ => nofun) (rd_lens Try.underlying9 rfl) ?_)
      first | (refine run_skip rfl rfl ?_) | (first | refine run_read rfl (by decide) (fun _ => nofun) ((rd_gt rfl rfl).eq (show _ = Value.bool true by simp [ByteArray.size]; omega)) ?_ | refine run_read rfl (by decide) (fun _ => nofun) ((rd_gt rfl rfl).eq (show _ = Value.bool false by simp [ByteArray.size]; omega)) ?_)
      first | refine run_read rfl (by decide) (fun _ => nofun) (rd_pick_t rfl rfl) ?_ | refine run_read rfl (by decide) (fun _ => nofun) (rd_pick_f rfl rfl) ?_
      refine run_read rfl (by decide) (fun _ => nofun) (rd_move rfl) ?_
      first | (refine run_skip rfl rfl ?_) | (first | refine run_read rfl (by decide) (fun _ => nofun) (rd_fieldAddr0 rfl fld30_1) ?_ | refine run_read rfl (by decide) (fun _ => nofun) (rd_fieldAddr rfl fld30_1) ?_)
      first | (refine run_skip rfl rfl ?_) | (first | refine run_read rfl (by decide) (fun _ => nofun) (rd_fieldAddr0 rfl fld28_3) ?_ | refine run_read rfl (by decide) (fun _ => nofun) (rd_fieldAddr rfl fld28_3) ?_)
      first | (refine run_skip rfl rfl ?_) | (refine run_read rfl (by decide) (fun _ => nofun) (rd_load rfl row9 (cells_pts1 (by repeat (first | with_reducible exact Sel.head | apply Sel.tail)) rfl)) ?_)
      first | (refine run_skip rfl rfl ?_) | (refine run_read rfl (by decide) (fun _ => nofun) (rd_lens Try.underlying9 rfl) ?_)
      first | (refine run_skip rfl rfl ?_) | (first | refine run_read rfl (by decide) (fun _ => nofun) ((rd_gt rfl rfl).eq (show _ = Value.bool true by simp [ByteArray.size]; omega)) ?_ | refine run_read rfl (by decide) (fun _ => nofun) ((rd_gt rfl rfl).eq (show _ = Value.bool false by simp [ByteArray.size]; omega)) ?_)
      first | refine run_read rfl (by decide) (fun _ => nofun) (rd_pick_t rfl rfl) ?_ | refine run_read rfl (by decide) (fun _ => nofun) (rd_pick_f rfl rfl) ?_
      refine run_read rfl (by decide) (fun _ => nofun) (rd_move rfl) ?_
      first | (refine run_skip rfl rfl ?_) | (first | refine run_read rfl (by decide) (fun _ => nofun) (rd_fieldAddr0 rfl fld30_1) ?_ | refine run_read rfl (by decide) (fun _ => nofun) (rd_fieldAddr rfl fld30_1) ?_)
      first | (refine run_skip rfl rfl ?_) | (first | refine run_read rfl (by decide) (fun _ => nofun) (rd_fieldAddr0 rfl fld28_1) ?_ | refine run_read rfl (by decide) (fun _ => nofun) (rd_fieldAddr rfl fld28_1) ?_)
      first | (refine run_skip rfl rfl ?_) | (first | refine run_read rfl (by decide) (fun _ => nofun) (rd_fieldAddr0 rfl fld24_1) ?_ | refine run_read rfl (by decide) (fun _ => nofun) (rd_fieldAddr rfl fld24_1) ?_)
      first | (refine run_skip rfl rfl ?_) | (refine run_read rfl (by decide) (fun _ => nofun) (rd_load rfl row9 (cells_pts1 (by repeat (first | with_reducible exact Sel.head | apply Sel.tail)) rfl)) ?_)
      first | (refine run_skip rfl rfl ?_) | (refine run_read rfl (by decide) (fun _ => nofun) (rd_lens Try.underlying9 rfl) ?_)
      first | (refine run_skip rfl rfl ?_) | (first | refine run_read rfl (by decide) (fun _ => nofun) ((rd_gt rfl rfl).eq (show _ = Value.bool true by simp [ByteArray.size]; omega)) ?_ | refine run_read rfl (by decide) (fun _ => nofun) ((rd_gt rfl rfl).eq (show _ = Value.bool false by simp [ByteArray.size]; omega)) ?_)
      first | refine run_read rfl (by decide) (fun _ => nofun) (rd_pick_t rfl rfl) ?_ | refine run_read rfl (by decide) (fun _ => nofun) (rd_pick_f rfl rfl) ?_
      refine run_read rfl (by decide) (fun _ => nofun) (rd_move rfl) ?_
      first | (refine run_skip rfl rfl ?_) | (first | refine run_read rfl (by decide) (fun _ => nofun) (rd_fieldAddr0 rfl fld30_1) ?_ | refine run_read rfl (by decide) (fun _ => nofun) (rd_fieldAddr rfl fld30_1) ?_)
      first | (refine run_skip rfl rfl ?_) | (first | refine run_read rfl (by decide) (fun _ => nofun) (rd_fieldAddr0 rfl fld28_1) ?_ | refine run_read rfl (by decide) (fun _ => nofun) (rd_fieldAddr rfl fld28_1) ?_)
      first | (refine run_skip rfl rfl ?_) | (first | refine run_read rfl (by decide) (fun _ => nofun) (rd_fieldAddr0 rfl fld24_2) ?_ | refine run_read rfl (by decide) (fun _ => nofun) (rd_fieldAddr rfl fld24_2) ?_)
      first | (refine run_skip rfl rfl ?_) | (refine run_read rfl (by decide) (fun _ => nofun) (rd_load rfl row9 (cells_pts1 (by repeat (first | with_reducible exact Sel.head | apply Sel.tail)) rfl)) ?_)
      first | (refine run_skip rfl rfl ?_) | (refine run_read rfl (by decide) (fun _ => nofun) (rd_lens Try.underlying9 rfl) ?_)
      first | (refine run_skip rfl rfl ?_) | (first | refine run_read rfl (by decide) (fun _ => nofun) ((rd_gt rfl rfl).eq (show _ = Value.bool true by simp [ByteArray.size]; omega)) ?_ | refine run_read rfl (by decide) (fun _ => nofun) ((rd_gt rfl rfl).eq (show _ = Value.bool false by simp [ByteArray.size]; omega)) ?_)
      first | refine run_read rfl (by decide) (fun _ => nofun) (rd_pick_t rfl rfl) ?_ | refine run_read rfl (by decide) (fun _ => nofun) (rd_pick_f rfl rfl) ?_
      refine run_read rfl (by decide) (fun _ => nofun) (rd_move rfl) ?_
      first | (refine run_skip rfl rfl ?_) | (first | refine run_read rfl (by decide) (fun _ => nofun) (rd_fieldAddr0 rfl fld30_1) ?_ | refine run_read rfl (by decide) (fun _ => nofun) (rd_fieldAddr rfl fld30_1) ?_)
      first | (refine run_skip rfl rfl ?_) | (first | refine run_read rfl (by decide) (fun _ => nofun) (rd_fieldAddr0 rfl fld28_1) ?_ | refine run_read rfl (by decide) (fun _ => nofun) (rd_fieldAddr rfl fld28_1) ?_)
      first | (refine run_skip rfl rfl ?_) | (first | refine run_read rfl (by decide) (fun _ => nofun) (rd_fieldAddr0 rfl fld24_4) ?_ | refine run_read rfl (by decide) (fun _ => nofun) (rd_fieldAddr rfl fld24_4) ?_)
      first | (refine run_skip rfl rfl ?_) | (refine run_read rfl (by decide) (fun _ => nofun) (rd_load rfl row9 (cells_pts1 (by repeat (first | with_reducible exact Sel.head | apply Sel.tail)) rfl)) ?_)
      first | (refine run_skip rfl rfl ?_) | (refine run_read rfl (by decide) (fun _ => nofun) (rd_lens Try.underlying9 rfl) ?_)
      first | (refine run_skip rfl rfl ?_) | (first | refine run_read rfl (by decide) (fun _ => nofun) ((rd_gt rfl rfl).eq (show _ = Value.bool true by simp [ByteArray.size]; omega)) ?_ | refine run_read rfl (by decide) (fun _ => nofun) ((rd_gt rfl rfl).eq (show _ = Value.bool false by simp [ByteArray.size]; omega)) ?_)
      first | refine run_read rfl (by decide) (fun _ => nofun) (rd_pick_t rfl rfl) ?_ | refine run_read rfl (by decide) (fun _ => nofun) (rd_pick_f rfl rfl) ?_
      refine run_nil ?_
      refine St.keep (β' := [(1, _), (48, _)]) ⟨rfl, rfl, trivial⟩ ?_
      refine St.then_n ?_
      exact St.keep (β' := [(1, _), (48, _)]) ⟨rfl, rfl, trivial⟩ (hK _ (by first | exact (decide_eq_true (by omega)).symm | exact (decide_eq_false (by omega)).symm))
  rintro z hz
  first | refine do_condp rfl (fun h48 => ?_) (fun h48 => ?_) | refine do_cond rfl (fun h48 => ?_) (fun h48 => ?_)
  · obtain ⟨e1, e2⟩ := long_yes (k := 65536) (b := ab) (hbig (of_decide_eq_true (hz.symm.trans h48)))
    rw [e1, e2]
    refine do_seq ?_
    refine do_region ?_
    refine run_read rfl (by decide) (fun _ => nofun) (rd_assign rfl) ?_
    refine run_read rfl (by decide) (fun _ => nofun) (rd_assign rfl) ?_
    refine run_nil ?_
    refine St.then_n ?_
    refine do_ret ?_
    refine St.then_r ?_
    refine do_ret2 Try.results39 (res_tmp rfl) (res_tmp rfl) ?_
    intro w hw
    exact ⟨_, trivial, rfl, Holds.own_nil (hw.sub (by repeat (first | exact Pick.nil | apply Pick.cons (by repeat (first | with_reducible exact Sel.head | apply Sel.tail)))))⟩
  · refine do_skip ?_
    refine St.then_n ?_
    refine do_seq ?_
    refine do_region ?_
    first | refine run_read rfl (by decide) (fun _ => nofun) (rd_fieldAddr0 rfl fld30_1) ?_ | refine run_read rfl (by decide) (fun _ => nofun) (rd_fieldAddr rfl fld30_1) ?_
    refine run_read rfl (by decide) (fun _ => nofun) (rd_load_row (vs := [_, _, _, _, _, _, _, _, _, _, _, _, _, _, _, _, _]) rfl row28 rfl (cells_pts (by repeat (first | with_reducible exact Sel.head | apply Sel.tail)) rfl)) ?_
    refine run_spec rfl (by decide) (by kernel_rfl) rfl (by repeat (first | exact Pick.nil | apply Pick.cons (by repeat (first | with_reducible exact Sel.head | apply Sel.tail)))) (ref13Bytes_spec _ ⟨kind, op, id, name, n, why, slot, epoch, at_, last, Ad, cd, data⟩ (Vw.sep hF (by repeat (first | with_reducible exact Sel.head | apply Sel.tail))) h2) ?_
    rintro v1 -
    rw [hcb]
    try simp only [List.cons_append, List.nil_append]
    refine run_read rfl (by decide) (fun _ => nofun) (rd_assign rfl) ?_
    refine run_nil ?_
    refine St.keep (β' := [(1, _), (4, _)]) ⟨rfl, rfl, trivial⟩ ?_
    refine St.then_n ?_
    refine do_seq ?_
    refine do_region ?_
    first | refine run_read rfl (by decide) (fun _ => nofun) (rd_fieldAddr0 rfl fld30_0) ?_ | refine run_read rfl (by decide) (fun _ => nofun) (rd_fieldAddr rfl fld30_0) ?_
    refine run_read rfl (by decide) (fun _ => nofun) (rd_load rfl row3 (cells_pts1 (by repeat (first | with_reducible exact Sel.head | apply Sel.tail)) rfl)) ?_
    refine run_spec rfl (by decide) (by kernel_rfl) rfl (by repeat (first | exact Pick.nil | apply Pick.cons (by repeat (first | with_reducible exact Sel.head | apply Sel.tail)))) (refInt_spec _ _ _ _ (by first | with_reducible exact vwb_nil _ | exact Vw.sep hF (by repeat (first | with_reducible exact Sel.head | apply Sel.tail)) | exact Vw.sep hG (by repeat (first | with_reducible exact Sel.head | apply Sel.tail)) | exact Vw.sep vw_bytes (by repeat (first | with_reducible exact Sel.head | apply Sel.tail))) h1 (by first | omega | (simp only [List.length_append, List.length_nil, List.length_cons]; omega))) ?_
    rintro v2 -
    try simp only [List.cons_append, List.nil_append]
    refine run_read rfl (by decide) (fun _ => nofun) (rd_assign rfl) ?_
    refine run_nil ?_
    refine St.keep (β' := [(4, _), (5, _)]) ⟨rfl, rfl, trivial⟩ ?_
    refine St.then_n ?_
    refine do_seq ?_
    refine do_region ?_
    refine run_read rfl (by decide) (fun _ => nofun) (rd_move rfl) ?_
    refine run_read rfl (by decide) (fun _ => nofun) (rd_move rfl) ?_
    refine run_spec rfl (by decide) (by kernel_rfl) rfl (by repeat (first | exact Pick.nil | apply Pick.cons (by repeat (first | with_reducible exact Sel.head | apply Sel.tail)))) (refByt_spec _ _ _ [] cb (by first | with_reducible exact vwb_nil _ | exact Vw.sep hF (by repeat (first | with_reducible exact Sel.head | apply Sel.tail)) | exact Vw.sep hG (by repeat (first | with_reducible exact Sel.head | apply Sel.tail)) | exact Vw.sep vw_bytes (by repeat (first | with_reducible exact Sel.head | apply Sel.tail))) (Vw.sep vw_bytes (by repeat (first | with_reducible exact Sel.head | apply Sel.tail))) hl (by first | omega | (simp only [List.length_append, List.length_nil, List.length_cons]; omega))) ?_
    rintro v3 -
    try simp only [List.cons_append, List.nil_append]
    refine run_append rfl (by decide) Try.underlying26 ei5 rfl rfl (n := (ivar group).length) (cs := (ivar group).map bcell) (.tail .head) (X := bytesO v3 (uvar cb.length ++ cb)) vw_bytes (by repeat (first | with_reducible exact Sel.head | apply Sel.tail)) (fun c hc => by obtain ⟨b, _, rfl⟩ := List.mem_map.1 hc; rfl) (by simp [maxLen]; omega) (by simp; omega) (fun v4 _ => ?_)
    rw [own_bytes (v := v4) (bs := ab) (by rw [← hab']; simp) (by rw [← hab']; simp)]
    refine St.vw vw_bytes .head (fun A4 c4 hv4 _ _ _ => ?_)
    subst hv4
    refine run_read rfl (by decide) (fun _ => nofun) (rd_assign rfl) ?_
    refine run_nil ?_
    refine St.keep (β' := [(5, _)]) ⟨rfl, trivial⟩ ?_
    refine St.then_n ?_
    refine do_seq ?_
    refine do_seq ?_
    refine do_region ?_
    refine run_read rfl (by decide) (fun _ => nofun) (rd_move rfl) ?_
    refine run_read rfl (by decide) (fun _ => nofun) (rd_len Try.underlying26 rfl) ?_
    refine run_read rfl (by decide) (fun _ => nofun) (rd_gt rfl rfl) ?_
    refine run_nil ?_
    refine St.then_n ?_
    first | refine do_condp rfl (fun h61 => ?_) (fun h61 => ?_) | refine do_cond rfl (fun h61 => ?_) (fun h61 => ?_)
    · refine do_seq ?_
      refine do_region ?_
      refine run_read rfl (by decide) (fun _ => nofun) (rd_assign rfl) ?_
      refine run_read rfl (by decide) (fun _ => nofun) (rd_assign rfl) ?_
      refine run_nil ?_
      refine St.keep (β' := [(2, _), (3, _)]) ⟨rfl, rfl, trivial⟩ ?_
      refine St.then_n ?_
      refine do_ret ?_
      refine St.then_r ?_
      refine do_ret2 Try.results39 (res_tmp rfl) (res_tmp rfl) ?_
      intro w hw
      obtain ⟨e1, e2⟩ := long_yes (k := 65536) (b := ab) (by omega)
      rw [e1, e2]
      exact ⟨_, trivial, rfl, Holds.own_nil (hw.sub (by repeat (first | exact Pick.nil | apply Pick.cons (by repeat (first | with_reducible exact Sel.head | apply Sel.tail)))))⟩
    · refine do_skip ?_
      refine St.then_n ?_
      refine do_seq ?_
      refine do_region ?_
      refine run_read rfl (by decide) (fun _ => nofun) (rd_move rfl) ?_
      refine run_read rfl (by decide) (fun _ => nofun) (rd_assign rfl) ?_
      refine run_read rfl (by decide) (fun _ => nofun) (rd_assign rfl) ?_
      refine run_nil ?_
      refine St.keep (β' := [(2, _), (3, _)]) ⟨rfl, rfl, trivial⟩ ?_
      refine St.then_n ?_
      refine do_ret ?_
      refine do_ret2 Try.results39 (res_tmp rfl) (res_tmp rfl) ?_
      intro w hw
      obtain ⟨e1, e2⟩ := long_no (k := 65536) (b := ab) (by omega)
      rw [e1, e2]
      exact ⟨_, trivial, rfl, hw.sub (by repeat (first | exact Pick.nil | apply Pick.cons (by repeat (first | with_reducible exact Sel.head | apply Sel.tail))))⟩
end Go.Proofs.Ytglcmlicfmmlpaa
