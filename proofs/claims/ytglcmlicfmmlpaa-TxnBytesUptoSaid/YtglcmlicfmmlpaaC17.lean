/-
  The reference's results as bytes; the reference's reader: its numbers.
-/
import Derived.Test.YtglcmlicfmmlpaaC16
namespace Go.Proofs.Ytglcmlicfmmlpaa
open Go.RowKit
set_option linter.unusedSimpArgs false
set_option linter.unusedVariables false

theorem St.bytes_some {ω : Amb} {m : Nat} {ds : List Deferred} {Γ : List HP} {β : List (Nat × Value)} {K : Act → World → Prop} {v : Value} {bs : List UInt8} (hn : 0 < bs.length)
    (h1 : ∀ g c, v = .slice (some ⟨g, 0, none⟩) bs.length c → bs.length ≤ c → c ≤ maxLen → St ω m ds (bytesO v bs :: Γ) β K) : St ω m ds (bytesO v bs :: Γ) β K :=
  St.own_some hn (fun g c e h2 h3 _ => h1 g c e h2 h3)
set_option maxRecDepth 4000 in
theorem ref15PutResult_spec (F : HP) (x : GRes) (hF : VwB F x.v x.data) (hR : VwRows F x.reply) (hx : x.ok) :
    Spec Try.prog 41 [.agg x.L.toArray] [] F (fun _ : Value => True) (fun v' => .tuple #[v', .int .i64 (resWhy x)]) (fun v' => [bytesO v' (resOut x)]) := by
  intro ω w hh
  refine enter Try.func41 rfl Try.ntmps41 rfl hh ?_
  simp only [List.nil_append, argsB]
  obtain ⟨why, wait, reply, A, c, data⟩ := x
  obtain ⟨h1, h2, h3⟩ := hx
  dsimp only at h1 h2 h3 hF hR
  simp only [GRes.L, GRes.v] at hF ⊢
  refine St.vw hR .head (fun A' c' hv hc hm _ => ?_)
  have hn : reply.rows.length ≤ 9223372036854775807 := by simp only [maxLen] at hm; omega
  have l1 := ivar_len h1
  have l2 := uvar_len64 (n := bnat wait) (by unfold bnat; split <;> decide)
  have l3 := replyB_len h2 hn
  have l4 := uvar_len64 (n := data.length) (by unfold shortS at h3; omega)
  obtain ⟨ab, hab⟩ : ∃ ab, resB ⟨why, wait, reply, A, c, data⟩ = ab := ⟨_, rfl⟩
  have hab' : ivar why ++ uvar (bnat wait) ++ replyB reply ++ (uvar data.length ++ data) = ab := by rw [← hab]; simp [resB, txt]
  have hlen : ab.length ≤ 17592186044416 := by
    unfold shortS at h3
    rw [← hab']; simp only [List.length_append]; omega
  unfold i64r at h1
  unfold shortS at h3
  unfold resOut resWhy
  rw [hab]
  dsimp only
  refine do_seq ?_
  refine do_region ?_
  refine run_box_row rfl (by decide) rfl (fun b1 => ?_)
  refine run_read rfl (by decide) (fun _ => nofun) (rd_assign rfl) ?_
  refine run_read rfl (by decide) (fun _ => nofun) (rd_assign rfl) ?_
  refine run_nil ?_
  refine St.then_n ?_
  refine do_seq ?_
  refine do_seq ?_
  refine do_cut (fun b : Bool => b = decide (65536 < data.length ∨ 600 < reply.rows.length)) (fun b => [(1, .pointer (some ⟨b1, 0, none⟩)), (15, .bool b)]) (fun _ => [pts b1 35 [.int .i64 why, .bool wait, .int .i64 reply.why, .int .i64 reply.amount, reply.v, .slice A data.length c], F]) (fun K hK => ?_) ?_
  · by_cases hA : 65536 < data.length
    · refine do_region ?_
      first | refine run_read rfl (by decide) (fun _ => nofun) (rd_fieldAddr0 rfl fld35_3) ?_ | refine run_read rfl (by decide) (fun _ => nofun) (rd_fieldAddr rfl fld35_3) ?_
      refine run_read rfl (by decide) (fun _ => nofun) (rd_load rfl row26 (cells_pts1 (by repeat (first | with_reducible exact Sel.head | apply Sel.tail)) rfl)) ?_
      refine run_read rfl (by decide) (fun _ => nofun) (rd_len Try.underlying26 rfl) ?_
      first | refine run_read rfl (by decide) (fun _ => nofun) ((rd_gt rfl rfl).eq (show _ = Value.bool true by simp; omega)) ?_ | refine run_read rfl (by decide) (fun _ => nofun) ((rd_gt rfl rfl).eq (show _ = Value.bool false by simp; omega)) ?_
      refine run_read rfl (by decide) (fun _ => nofun) (rd_move rfl) ?_
      first | (refine run_skip rfl rfl ?_) | (first | refine run_read rfl (by decide) (fun _ => nofun) (rd_fieldAddr0 rfl fld35_2) ?_ | refine run_read rfl (by decide) (fun _ => nofun) (rd_fieldAddr rfl fld35_2) ?_)
      first | (refine run_skip rfl rfl ?_) | (first | refine run_read rfl (by decide) (fun _ => nofun) (rd_fieldAddr0 rfl fld33_2) ?_ | refine run_read rfl (by decide) (fun _ => nofun) (rd_fieldAddr rfl fld33_2) ?_)
      first | (refine run_skip rfl rfl ?_) | (refine run_read rfl (by decide) (fun _ => nofun) (rd_load rfl row31 (cells_pts1 (by repeat (first | with_reducible exact Sel.head | apply Sel.tail)) rfl)) ?_)
      first | (refine run_skip rfl rfl ?_) | (refine run_read rfl (by decide) (fun _ => nofun) (rd_len Try.underlying31 rfl) ?_)
      first | (refine run_skip rfl rfl ?_) | (refine run_read rfl (by decide) (fun _ => nofun) (rd_gt rfl rfl) ?_)
      first | refine run_read rfl (by decide) (fun _ => nofun) (rd_pick_t rfl rfl) ?_ | refine run_read rfl (by decide) (fun _ => nofun) (rd_pick_f rfl rfl) ?_
      refine run_nil ?_
      refine St.keep (β' := [(1, _), (15, _)]) ⟨rfl, rfl, trivial⟩ ?_
      refine St.then_n ?_
      exact St.keep (β' := [(1, _), (15, _)]) ⟨rfl, rfl, trivial⟩ (hK _ (by first | exact (decide_eq_true (Or.inl hA)).symm | exact decide_eq_decide.2 (by omega)))
    · refine do_region ?_
      first | refine run_read rfl (by decide) (fun _ => nofun) (rd_fieldAddr0 rfl fld35_3) ?_ | refine run_read rfl (by decide) (fun _ => nofun) (rd_fieldAddr rfl fld35_3) ?_
      refine run_read rfl (by decide) (fun _ => nofun) (rd_load rfl row26 (cells_pts1 (by repeat (first | with_reducible exact Sel.head | apply Sel.tail)) rfl)) ?_
      refine run_read rfl (by decide) (fun _ => nofun) (rd_len Try.underlying26 rfl) ?_
      first | refine run_read rfl (by decide) (fun _ => nofun) ((rd_gt rfl rfl).eq (show _ = Value.bool true by simp; omega)) ?_ | refine run_read rfl (by decide) (fun _ => nofun) ((rd_gt rfl rfl).eq (show _ = Value.bool false by simp; omega)) ?_
      refine run_read rfl (by decide) (fun _ => nofun) (rd_move rfl) ?_
      first | (refine run_skip rfl rfl ?_) | (first | refine run_read rfl (by decide) (fun _ => nofun) (rd_fieldAddr0 rfl fld35_2) ?_ | refine run_read rfl (by decide) (fun _ => nofun) (rd_fieldAddr rfl fld35_2) ?_)
      first | (refine run_skip rfl rfl ?_) | (first | refine run_read rfl (by decide) (fun _ => nofun) (rd_fieldAddr0 rfl fld33_2) ?_ | refine run_read rfl (by decide) (fun _ => nofun) (rd_fieldAddr rfl fld33_2) ?_)
      first | (refine run_skip rfl rfl ?_) | (refine run_read rfl (by decide) (fun _ => nofun) (rd_load rfl row31 (cells_pts1 (by repeat (first | with_reducible exact Sel.head | apply Sel.tail)) rfl)) ?_)
      first | (refine run_skip rfl rfl ?_) | (refine run_read rfl (by decide) (fun _ => nofun) (rd_len Try.underlying31 rfl) ?_)
      first | (refine run_skip rfl rfl ?_) | (refine run_read rfl (by decide) (fun _ => nofun) (rd_gt rfl rfl) ?_)
      first | refine run_read rfl (by decide) (fun _ => nofun) (rd_pick_t rfl rfl) ?_ | refine run_read rfl (by decide) (fun _ => nofun) (rd_pick_f rfl rfl) ?_
      refine run_nil ?_
      refine St.keep (β' := [(1, _), (15, _)]) ⟨rfl, rfl, trivial⟩ ?_
      refine St.then_n ?_
      exact St.keep (β' := [(1, _), (15, _)]) ⟨rfl, rfl, trivial⟩ (hK _ (by first | exact (decide_eq_true (Or.inl hA)).symm | exact decide_eq_decide.2 (by omega)))
  rintro b hb
  first | refine do_condp rfl (fun h15 => ?_) (fun h15 => ?_) | refine do_cond rfl (fun h15 => ?_) (fun h15 => ?_)
  · rw [if_pos (of_decide_eq_true (hb.symm.trans h15)), if_pos (of_decide_eq_true (hb.symm.trans h15))]
    refine do_seq ?_
    refine do_region ?_
    refine run_read rfl (by decide) (fun _ => nofun) (rd_assign rfl) ?_
    refine run_read rfl (by decide) (fun _ => nofun) (rd_assign rfl) ?_
    refine run_nil ?_
    refine St.then_n ?_
    refine do_ret ?_
    refine St.then_r ?_
    refine do_ret2 Try.results41 (res_tmp rfl) (res_tmp rfl) ?_
    intro w hw
    exact ⟨_, trivial, rfl, Holds.own_nil (hw.sub (by repeat (first | exact Pick.nil | apply Pick.cons (by repeat (first | with_reducible exact Sel.head | apply Sel.tail)))))⟩
  · rw [if_neg (of_decide_eq_false (hb.symm.trans h15)), if_neg (of_decide_eq_false (hb.symm.trans h15))]
    refine do_skip ?_
    refine St.then_n ?_
    refine do_seq ?_
    refine do_region ?_
    first | refine run_read rfl (by decide) (fun _ => nofun) (rd_fieldAddr0 rfl fld35_0) ?_ | refine run_read rfl (by decide) (fun _ => nofun) (rd_fieldAddr rfl fld35_0) ?_
    refine run_read rfl (by decide) (fun _ => nofun) (rd_load rfl row25 (cells_pts1 (by repeat (first | with_reducible exact Sel.head | apply Sel.tail)) rfl)) ?_
    refine run_spec rfl (by decide) (by kernel_rfl) rfl (by repeat (first | exact Pick.nil | apply Pick.cons (by repeat (first | with_reducible exact Sel.head | apply Sel.tail)))) (refInt_spec _ _ _ _ (by first | with_reducible exact vwb_nil _ | exact Vw.sep hF (by repeat (first | with_reducible exact Sel.head | apply Sel.tail)) | exact Vw.sep hG (by repeat (first | with_reducible exact Sel.head | apply Sel.tail)) | exact Vw.sep vw_bytes (by repeat (first | with_reducible exact Sel.head | apply Sel.tail))) h1 (by first | omega | (simp only [List.length_append, List.length_nil, List.length_cons]; omega))) ?_
    rintro v1 -
    try simp only [List.cons_append, List.nil_append]
    refine run_read rfl (by decide) (fun _ => nofun) (rd_assign rfl) ?_
    refine run_nil ?_
    refine St.keep (β' := [(1, _), (4, _)]) ⟨rfl, rfl, trivial⟩ ?_
    refine St.then_n ?_
    refine do_seq ?_
    refine do_region ?_
    refine run_read rfl (by decide) (fun _ => nofun) (rd_move rfl) ?_
    first | refine run_read rfl (by decide) (fun _ => nofun) (rd_fieldAddr0 rfl fld35_1) ?_ | refine run_read rfl (by decide) (fun _ => nofun) (rd_fieldAddr rfl fld35_1) ?_
    refine run_read rfl (by decide) (fun _ => nofun) (rd_load rfl row4 (cells_pts1 (by repeat (first | with_reducible exact Sel.head | apply Sel.tail)) rfl)) ?_
    refine run_spec rfl (by decide) (by kernel_rfl) rfl (by repeat (first | exact Pick.nil | apply Pick.cons (by repeat (first | with_reducible exact Sel.head | apply Sel.tail)))) (refBool_spec _ _ _ wait (by first | with_reducible exact vwb_nil _ | exact Vw.sep hF (by repeat (first | with_reducible exact Sel.head | apply Sel.tail)) | exact Vw.sep hG (by repeat (first | with_reducible exact Sel.head | apply Sel.tail)) | exact Vw.sep vw_bytes (by repeat (first | with_reducible exact Sel.head | apply Sel.tail))) (by first | omega | (simp only [List.length_append, List.length_nil, List.length_cons]; omega))) ?_
    rintro v2 -
    try simp only [List.cons_append, List.nil_append]
    refine run_read rfl (by decide) (fun _ => nofun) (rd_assign rfl) ?_
    refine run_nil ?_
    refine St.keep (β' := [(1, _), (4, _)]) ⟨rfl, rfl, trivial⟩ ?_
    refine St.then_n ?_
    refine do_seq ?_
    refine do_region ?_
    refine run_read rfl (by decide) (fun _ => nofun) (rd_move rfl) ?_
    first | refine run_read rfl (by decide) (fun _ => nofun) (rd_fieldAddr0 rfl fld35_2) ?_ | refine run_read rfl (by decide) (fun _ => nofun) (rd_fieldAddr rfl fld35_2) ?_
    refine run_read rfl (by decide) (fun _ => nofun) (rd_load_row (vs := [_, _, _]) rfl row33 rfl (cells_pts (by repeat (first | with_reducible exact Sel.head | apply Sel.tail)) rfl)) ?_
    refine run_spec rfl (by decide) (by kernel_rfl) rfl (by repeat (first | exact Pick.nil | apply Pick.cons (by repeat (first | with_reducible exact Sel.head | apply Sel.tail)))) (refPutReply_spec _ _ _ reply (by first | with_reducible exact vwb_nil _ | exact Vw.sep hF (by repeat (first | with_reducible exact Sel.head | apply Sel.tail)) | exact Vw.sep hG (by repeat (first | with_reducible exact Sel.head | apply Sel.tail)) | exact Vw.sep vw_bytes (by repeat (first | with_reducible exact Sel.head | apply Sel.tail))) (Vw.sep hR (by repeat (first | with_reducible exact Sel.head | apply Sel.tail))) h2 (by first | omega | (simp only [List.length_append, List.length_nil, List.length_cons]; omega))) ?_
    rintro v3 -
    try simp only [List.cons_append, List.nil_append]
    refine run_read rfl (by decide) (fun _ => nofun) (rd_assign rfl) ?_
    refine run_nil ?_
    refine St.keep (β' := [(1, _), (4, _)]) ⟨rfl, rfl, trivial⟩ ?_
    refine St.then_n ?_
    refine do_seq ?_
    refine do_region ?_
    refine run_read rfl (by decide) (fun _ => nofun) (rd_move rfl) ?_
    first | refine run_read rfl (by decide) (fun _ => nofun) (rd_fieldAddr0 rfl fld35_3) ?_ | refine run_read rfl (by decide) (fun _ => nofun) (rd_fieldAddr rfl fld35_3) ?_
    refine run_read rfl (by decide) (fun _ => nofun) (rd_load rfl row26 (cells_pts1 (by repeat (first | with_reducible exact Sel.head | apply Sel.tail)) rfl)) ?_
    refine run_spec rfl (by decide) (by kernel_rfl) rfl (by repeat (first | exact Pick.nil | apply Pick.cons (by repeat (first | with_reducible exact Sel.head | apply Sel.tail)))) (refByt_spec _ _ _ [] data (by first | with_reducible exact vwb_nil _ | exact Vw.sep hF (by repeat (first | with_reducible exact Sel.head | apply Sel.tail)) | exact Vw.sep hG (by repeat (first | with_reducible exact Sel.head | apply Sel.tail)) | exact Vw.sep vw_bytes (by repeat (first | with_reducible exact Sel.head | apply Sel.tail))) (Vw.sep hF (by repeat (first | with_reducible exact Sel.head | apply Sel.tail))) h3 (by first | omega | (simp only [List.length_append, List.length_nil, List.length_cons]; omega))) ?_
    rintro v4 -
    try simp only [List.cons_append, List.nil_append]
    refine run_append rfl (by decide) Try.underlying26 ei5 rfl rfl (n := (ivar why ++ uvar (bnat wait) ++ replyB reply).length) (cs := (ivar why ++ uvar (bnat wait) ++ replyB reply).map bcell) (.tail .head) (X := bytesO v4 (uvar data.length ++ data)) vw_bytes (by repeat (first | with_reducible exact Sel.head | apply Sel.tail)) (fun c hc => by obtain ⟨b, _, rfl⟩ := List.mem_map.1 hc; rfl) (by simp [maxLen]; omega) (by simp; omega) (fun v5 _ => ?_)
    rw [own_bytes (v := v5) (bs := ab) (by rw [← hab']; simp; omega) (by rw [← hab']; simp)]
    refine St.vw vw_bytes .head (fun A5 c5 hv5 _ _ _ => ?_)
    subst hv5
    refine run_read rfl (by decide) (fun _ => nofun) (rd_assign rfl) ?_
    refine run_nil ?_
    refine St.keep (β' := [(4, _)]) ⟨rfl, trivial⟩ ?_
    refine St.then_n ?_
    refine do_seq ?_
    refine do_seq ?_
    refine do_region ?_
    refine run_read rfl (by decide) (fun _ => nofun) (rd_move rfl) ?_
    refine run_read rfl (by decide) (fun _ => nofun) (rd_len Try.underlying26 rfl) ?_
    refine run_read rfl (by decide) (fun _ => nofun) (rd_gt rfl rfl) ?_
    refine run_nil ?_
    refine St.then_n ?_
    first | refine do_condp rfl (fun h34 => ?_) (fun h34 => ?_) | refine do_cond rfl (fun h34 => ?_) (fun h34 => ?_)
    · refine do_seq ?_
      refine do_region ?_
      refine run_read rfl (by decide) (fun _ => nofun) (rd_assign rfl) ?_
      refine run_read rfl (by decide) (fun _ => nofun) (rd_assign rfl) ?_
      refine run_nil ?_
      refine St.keep (β' := [(2, _), (3, _)]) ⟨rfl, rfl, trivial⟩ ?_
      refine St.then_n ?_
      refine do_ret ?_
      refine St.then_r ?_
      refine do_ret2 Try.results41 (res_tmp rfl) (res_tmp rfl) ?_
      intro w hw
      obtain ⟨e1, e2⟩ := long_yes (k := 1048576) (b := ab) (by omega)
      rw [e1, e2]
      exact ⟨_, trivial, rfl, Holds.own_nil (hw.sub (by repeat (first | exact Pick.nil | apply Pick.cons (by repeat (first | with_reducible exact Sel.head | apply Sel.tail)))))⟩
    · refine do_skip ?_
      refine St.then_n ?_
      refine do_seq ?_
      refine do_region ?_
      refine run_read rfl (by decide) (fun _ => nofun) (rd_move rfl) ?_
      refine run_read rfl (by decide) (fun _ => nofun) (rd_assign rfl) ?_
      refine run_read rfl (by decide) (fun _ => nofun) (rd_assign rfl) ?_
      refine run_nil ?_
      refine St.keep (β' := [(2, _), (3, _)]) ⟨rfl, rfl, trivial⟩ ?_
      refine St.then_n ?_
      refine do_ret ?_
      refine do_ret2 Try.results41 (res_tmp rfl) (res_tmp rfl) ?_
      intro w hw
      obtain ⟨e1, e2⟩ := long_no (k := 1048576) (b := ab) (by omega)
      rw [e1, e2]
      exact ⟨_, trivial, rfl, hw.sub (by repeat (first | exact Pick.nil | apply Pick.cons (by repeat (first | with_reducible exact Sel.head | apply Sel.tail))))⟩
theorem refOf_spec (F : HP) (v : Value) (B : List UInt8) (hF : VwB F v B) (hl : B.length ≤ 140737488355328) : Spec Try.prog 87 [v] [] F (fun _ : Nat => True) (fun r => .pointer (some ⟨r, 0, none⟩)) (fun r => [rdO 194 r B ⟨0, 0⟩]) := by
  intro ω w hh
  refine enter Try.func87 rfl Try.ntmps87 rfl hh ?_
  simp only [List.nil_append, argsB]
  refine do_seq ?_
  refine do_region ?_
  refine run_read rfl (by decide) (fun _ => nofun) (rd_assign rfl) ?_
  refine run_nil ?_
  refine St.then_n ?_
  refine do_seq ?_
  refine do_region ?_
  refine run_read rfl (by decide) (fun _ => nofun) (rd_buildM (l := []) (vs := [_, _, _]) zero194 plc194 rfl rfl) ?_
  refine run_box_row rfl (by decide) rfl (fun b5 => ?_)
  refine run_read rfl (by decide) (fun _ => nofun) (rd_assign rfl) ?_
  refine run_nil ?_
  refine St.then_n ?_
  refine do_seq ?_
  refine do_region ?_
  refine run_read rfl (by decide) (fun _ => nofun) (rd_move rfl) ?_
  refine run_read rfl (by decide) (fun _ => nofun) (rd_move rfl) ?_
  refine run_read rfl (by decide) (fun _ => nofun) (rd_nilCheck rfl) ?_
  first | refine run_read rfl (by decide) (fun _ => nofun) (rd_fieldAddr0 rfl fld194_0) ?_ | refine run_read rfl (by decide) (fun _ => nofun) (rd_fieldAddr rfl fld194_0) ?_
  refine run_read rfl (by decide) (fun _ => nofun) (rd_load rfl row26 (cells_pts1 (by repeat (first | with_reducible exact Sel.head | apply Sel.tail)) rfl)) ?_
  refine run_read rfl (by decide) (fun _ => nofun) (rd_move rfl) ?_
  refine St.own_nil (T := 5) (k := 1) ?_
  refine run_append rfl (by decide) Try.underlying26 ei5 rfl rfl .head (X := F) hF (by repeat (first | with_reducible exact Sel.head | apply Sel.tail)) (by simp only [List.mem_map]; rintro c ⟨b, _, rfl⟩; rfl) (by simp [maxLen]; omega) (by simp; omega) (fun v1 _ => ?_)
  rw [own_bytes (v := v1) (bs := B) (by simp) (by simp)]
  refine St.vw vw_bytes .head (fun A1 c1 hv1 _ _ _ => ?_)
  subst hv1
  refine run_read rfl (by decide) (fun _ => nofun) (rd_nilCheck rfl) ?_
  first | refine run_read rfl (by decide) (fun _ => nofun) (rd_fieldAddr0 rfl fld194_0) ?_ | refine run_read rfl (by decide) (fun _ => nofun) (rd_fieldAddr rfl fld194_0) ?_
  refine run_store rfl rfl rfl (by repeat (first | with_reducible exact Sel.head | apply Sel.tail)) row26 rfl rfl (by simp only [List.set_cons_succ, List.set_cons_zero]; exact rfl) ?_
  refine run_nil ?_
  refine St.keep (β' := [(3, _)]) ⟨rfl, trivial⟩ ?_
  refine St.then_n ?_
  refine do_seq ?_
  refine do_region ?_
  refine run_read rfl (by decide) (fun _ => nofun) (rd_move rfl) ?_
  refine run_read rfl (by decide) (fun _ => nofun) (rd_assign rfl) ?_
  refine run_nil ?_
  refine St.then_n ?_
  refine do_ret ?_
  refine do_ret1 Try.results87 (res_tmp rfl) ?_
  intro w hw
  have h9 : Holds ω [pts b5 194 [.slice A1 B.length c1, .int .i64 0, .int .i64 0], bytesO (.slice A1 B.length c1) B, F] w := hw.sub (by repeat (first | exact Pick.nil | apply Pick.cons (by repeat (first | with_reducible exact Sel.head | apply Sel.tail))))
  exact ⟨b5, trivial, rfl, Holds.rd_shut (A := A1) (cap := c1) ⟨0, 0⟩ (.cons .head (.cons .head .nil)) h9⟩
theorem tmod_u8 (c : UInt8) : Value.int .u8 ((c.toNat : Int).tmod 128) = .int .u8 ((c.toNat % 128 : Nat) : Int) := by
  have e : (c.toNat : Int).tmod 128 = ((c.toNat % 128 : Nat) : Int) := by rw [Int.tmod_eq_emod_of_nonneg (by omega)]; rfl
  rw [e]
theorem tmod2 (q : Nat) : Value.int .u64 ((q : Int).tmod 2) = .int .u64 ((q % 2 : Nat) : Int) := by
  have e : (q : Int).tmod 2 = ((q % 2 : Nat) : Int) := by rw [Int.tmod_eq_emod_of_nonneg (by omega)]; rfl
  rw [e]
theorem tdiv2 (q : Nat) (hq : q < 18446744073709551616) : Value.int .u64 (IntKind.u64.wrap ((q : Int).tdiv 2)) = .int .u64 ((q / 2 : Nat) : Int) := by
  have e : (q : Int).tdiv 2 = ((q / 2 : Nat) : Int) := by rw [Int.tdiv_eq_ediv_of_nonneg (by omega)]; rfl
  rw [e, IntWalk.u64_in _ (by omega)]
section
variable {r : Nat} {B : List UInt8} {s : RS}
set_option maxHeartbeats 1000000 in
theorem refRdUint_spec (F : HP) (hs : s.at_ ≤ B.length) (hl : B.length ≤ 140737488355328) :
    Spec Try.prog 125 [.pointer (some ⟨r, 0, none⟩)] [rdO 194 r B s] F (fun _ : Unit => True) (fun _ => .int .u64 (rU B s).1) (fun _ => [rdO 194 r B (rU B s).2]) := by
  intro ω w hh
  refine enter Try.func125 rfl Try.ntmps125 rfl hh ?_
  simp only [List.cons_append, List.nil_append, argsB]
  refine St.rd_open fun A cap => ?_
  by_cases hy : s.why = 0
  · obtain ⟨⟨n, z, y⟩, he⟩ : ∃ q, scanF 0 0 (B.drop s.at_) = q := ⟨_, rfl⟩
    refine do_seq ?_
    refine do_region ?_
    refine run_read rfl (by decide) (fun _ => nofun) (rd_assign rfl) ?_
    refine run_nil ?_
    refine St.then_n ?_
    refine do_seq ?_
    refine do_seq ?_
    refine do_region ?_
    refine run_read rfl (by decide) (fun _ => nofun) (rd_move rfl) ?_
    refine run_read rfl (by decide) (fun _ => nofun) (rd_nilCheck rfl) ?_
    first | refine run_read rfl (by decide) (fun _ => nofun) (rd_fieldAddr0 rfl fld194_2) ?_ | refine run_read rfl (by decide) (fun _ => nofun) (rd_fieldAddr rfl fld194_2) ?_
    refine run_read rfl (by decide) (fun _ => nofun) (rd_load rfl row25 (cells_pts1 (by repeat (first | with_reducible exact Sel.head | apply Sel.tail)) rfl)) ?_
    refine run_read rfl (by decide) (fun _ => nofun) (rd_ne rfl rfl) ?_
    refine run_nil ?_
    refine St.keep (β' := [(0, _), (10, _)]) ⟨rfl, rfl, trivial⟩ ?_
    refine St.then_n ?_
    refine do_condp rfl (fun h10 => absurd h10 (by omega)) (fun h10 => ?_)
    refine do_skip ?_
    refine St.then_n ?_
    refine do_seq ?_
    refine do_region ?_
    refine run_read rfl (by decide) (fun _ => nofun) (rd_assign rfl) ?_
    refine run_nil ?_
    refine St.then_n ?_
    refine do_seq ?_
    refine do_seq ?_
    refine do_region ?_
    refine run_read rfl (by decide) (fun _ => nofun) (rd_assign rfl) ?_
    refine run_nil ?_
    refine St.then_n ?_
    refine do_block ?_
    refine do_loop (fun q : Nat × Nat => q.1 ≤ 9 ∧ s.at_ + q.1 ≤ B.length ∧ q.2 < 128 ^ q.1 ∧ scanF q.1 q.2 (B.drop (s.at_ + q.1)) = (n, z, y)) (fun q => [(0, .pointer (some ⟨r, 0, none⟩)), (3, .int .u64 q.2), (4, .int .i64 q.1)]) (fun _ => [pts r 194 [.slice A B.length cap, .int .i64 s.at_, .int .i64 s.why], bytesO (.slice A B.length cap) B, F]) (fun q => 10 - q.1) (0, 0) ⟨by omega, by omega, by simp, he⟩ ⟨rfl, rfl, rfl, trivial⟩ (by repeat (first | exact Pick.nil | apply Pick.cons (by repeat (first | with_reducible exact Sel.head | apply Sel.tail)))) ?_
    rintro ⟨i, acc⟩ ⟨hi9, hi, ha, hq⟩
    dsimp only at hi9 hi ha hq ⊢
    refine do_seq ?_
    refine do_seq ?_
    refine do_region ?_
    refine run_read rfl (by decide) (fun _ => nofun) (rd_move rfl) ?_
    refine run_read rfl (by decide) (fun _ => nofun) (rd_lt rfl rfl) ?_
    refine run_nil ?_
    refine St.then_n ?_
    refine do_condp rfl (fun h12 => ?_) (fun h12 => absurd (by omega) h12)
    refine do_skip ?_
    refine St.then_n ?_
    refine do_seq ?_
    refine do_block ?_
    refine do_seq ?_
    refine do_seq ?_
    refine do_draw [[1, 2, 3, 5, 11], [2, 3, 5, 11], [3, 5, 11], [5, 11], [5, 11], [11], [7, 8, 9, 10, 11], [8, 9, 10, 11], [9, 10, 11], [10, 11], [11], []] (by kernel_rfl) rfl ?_
    refine any_take (i := 0) (by kernel_rfl) rfl rfl (by decide) (fun _ _ _ _ _ h => h) rfl (rd_move rfl) ?_
    refine any_take (i := 1) (by kernel_rfl) rfl rfl (by decide) (fun _ _ _ _ _ h => h) rfl (rd_nilCheck rfl) ?_
    first | refine any_take (i := 2) (by kernel_rfl) rfl rfl (by decide) (fun _ _ _ _ _ h => h) rfl (rd_fieldAddr0 rfl fld194_1) ?_ | refine any_take (i := 2) (by kernel_rfl) rfl rfl (by decide) (fun _ _ _ _ _ h => h) rfl (rd_fieldAddr rfl fld194_1) ?_
    refine any_take (i := 3) (by kernel_rfl) rfl rfl (by decide) (fun _ _ _ _ _ h => h) rfl (rd_load rfl row3 (cells_pts1 (by repeat (first | with_reducible exact Sel.head | apply Sel.tail)) rfl)) ?_
    refine any_take (i := 4) (by kernel_rfl) rfl rfl (by decide) (fun _ _ _ _ _ h => h) rfl (rd_move rfl) ?_
    first | refine any_take (i := 5) (by kernel_rfl) rfl rfl (by decide) (fun _ _ _ _ _ h => h) rfl ((rd_add rfl rfl).eq (congrArg (Value.int .i64) (IntWalk.i64_in _ (by omega)))) ?_ | refine any_take (i := 5) (by kernel_rfl) rfl rfl (by decide) (fun _ _ _ _ _ h => h) rfl (rd_add rfl rfl) ?_
    refine any_take (i := 6) (by kernel_rfl) rfl rfl (by decide) (fun _ _ _ _ _ h => h) rfl (rd_move rfl) ?_
    refine any_take (i := 7) (by kernel_rfl) rfl rfl (by decide) (fun _ _ _ _ _ h => h) rfl (rd_nilCheck rfl) ?_
    first | refine any_take (i := 8) (by kernel_rfl) rfl rfl (by decide) (fun _ _ _ _ _ h => h) rfl (rd_fieldAddr0 rfl fld194_0) ?_ | refine any_take (i := 8) (by kernel_rfl) rfl rfl (by decide) (fun _ _ _ _ _ h => h) rfl (rd_fieldAddr rfl fld194_0) ?_
    refine any_take (i := 9) (by kernel_rfl) rfl rfl (by decide) (fun _ _ _ _ _ h => h) rfl (rd_load rfl row26 (cells_pts1 (by repeat (first | with_reducible exact Sel.head | apply Sel.tail)) rfl)) ?_
    refine any_take (i := 10) (by kernel_rfl) rfl rfl (by decide) (fun _ _ _ _ _ h => h) rfl (rd_len Try.underlying26 rfl) ?_
    refine any_take (i := 11) (by kernel_rfl) rfl rfl (by decide) (fun _ _ _ _ _ h => h) rfl (rd_ge rfl rfl) ?_
    refine any_nil (by kernel_rfl) ?_
    refine St.keep (β' := [(0, _), (3, _), (4, _), (26, _)]) ⟨rfl, rfl, rfl, rfl, trivial⟩ ?_
    refine St.then_n ?_
    first | refine do_condp rfl (fun h26 => ?_) (fun h26 => ?_) | refine do_cond rfl (fun h26 => ?_) (fun h26 => ?_)
    · have hz : B.drop (s.at_ + i) = [] := List.drop_eq_nil_of_le (by omega)
      rw [hz] at hq
      simp only [scanF, Prod.mk.injEq] at hq
      obtain ⟨rfl, rfl, rfl⟩ := hq
      refine do_seq ?_
      refine do_region ?_
      refine run_read rfl (by decide) (fun _ => nofun) (rd_move rfl) ?_
      refine run_read rfl (by decide) (fun _ => nofun) (rd_nilCheck rfl) ?_
      first | refine run_read rfl (by decide) (fun _ => nofun) (rd_fieldAddr0 rfl fld194_2) ?_ | refine run_read rfl (by decide) (fun _ => nofun) (rd_fieldAddr rfl fld194_2) ?_
      refine run_store rfl rfl rfl (by repeat (first | with_reducible exact Sel.head | apply Sel.tail)) row25 rfl rfl (by simp only [List.set_cons_succ, List.set_cons_zero]; exact rfl) ?_
      refine run_nil ?_
      refine St.keep (β' := []) trivial ?_
      refine St.then_n ?_
      refine do_seq ?_
      refine do_region ?_
      refine run_read rfl (by decide) (fun _ => nofun) (rd_assign rfl) ?_
      refine run_nil ?_
      refine St.then_n ?_
      refine do_ret ?_
      refine St.then_r ?_
      refine St.blk_r ?_
      refine St.then_r ?_
      refine St.then_r ?_
      refine St.blk_r ?_
      refine St.then_r ?_
      refine do_ret1 Try.results125 (res_tmp rfl) ?_
      intro w hw
      rw [rU_bad hy he (by decide)]
      exact ⟨(), trivial, rfl, Holds.rd_shut (A := A) (cap := cap) ⟨s.at_, 10⟩ (by repeat (first | exact Pick.nil | apply Pick.cons (by repeat (first | with_reducible exact Sel.head | apply Sel.tail)))) hw⟩
    · have hx := List.getElem?_eq_getElem (l := B) (i := s.at_ + i) (by omega)
      have hd := List.drop_eq_getElem_cons (l := B) (i := s.at_ + i) (by omega)
      generalize B[s.at_ + i]'_ = c at hx hd
      have hc : c.toNat < 256 := c.toNat_lt
      have hcell : (B.map bcell)[s.at_ + i]? = some (bcell c) := by rw [List.getElem?_map, hx]; rfl
      rw [hd] at hq
      refine St.sel (P := bytesO (.slice A B.length cap) B) (by repeat (first | with_reducible exact Sel.head | apply Sel.tail)) (St.bytes_some (by omega) (fun g c1 hg _ _ => ?_))
      cases hg
      refine do_skip ?_
      refine St.then_n ?_
      refine do_seq ?_
      refine do_draw [[1, 2, 3, 10, 11, 12], [2, 3, 10, 11, 12], [3, 10, 11, 12], [10, 11, 12], [5, 6, 7, 9, 10, 11, 12], [6, 7, 9, 10, 11, 12], [7, 9, 10, 11, 12], [9, 10, 11, 12], [9, 10, 11, 12], [10, 11, 12], [11, 12], [12], []] (by kernel_rfl) rfl ?_
      refine any_take (i := 0) (by kernel_rfl) rfl rfl (by decide) (fun _ _ _ _ _ h => h) rfl (rd_move rfl) ?_
      refine any_take (i := 1) (by kernel_rfl) rfl rfl (by decide) (fun _ _ _ _ _ h => h) rfl (rd_nilCheck rfl) ?_
      first | refine any_take (i := 2) (by kernel_rfl) rfl rfl (by decide) (fun _ _ _ _ _ h => h) rfl (rd_fieldAddr0 rfl fld194_0) ?_ | refine any_take (i := 2) (by kernel_rfl) rfl rfl (by decide) (fun _ _ _ _ _ h => h) rfl (rd_fieldAddr rfl fld194_0) ?_
      refine any_take (i := 3) (by kernel_rfl) rfl rfl (by decide) (fun _ _ _ _ _ h => h) rfl (rd_load rfl row26 (cells_pts1 (by repeat (first | with_reducible exact Sel.head | apply Sel.tail)) rfl)) ?_
      refine any_take (i := 4) (by kernel_rfl) rfl rfl (by decide) (fun _ _ _ _ _ h => h) rfl (rd_move rfl) ?_
      refine any_take (i := 5) (by kernel_rfl) rfl rfl (by decide) (fun _ _ _ _ _ h => h) rfl (rd_nilCheck rfl) ?_
      first | refine any_take (i := 6) (by kernel_rfl) rfl rfl (by decide) (fun _ _ _ _ _ h => h) rfl (rd_fieldAddr0 rfl fld194_1) ?_ | refine any_take (i := 6) (by kernel_rfl) rfl rfl (by decide) (fun _ _ _ _ _ h => h) rfl (rd_fieldAddr rfl fld194_1) ?_
      refine any_take (i := 7) (by kernel_rfl) rfl rfl (by decide) (fun _ _ _ _ _ h => h) rfl (rd_load rfl row3 (cells_pts1 (by repeat (first | with_reducible exact Sel.head | apply Sel.tail)) rfl)) ?_
      refine any_take (i := 8) (by kernel_rfl) rfl rfl (by decide) (fun _ _ _ _ _ h => h) rfl (rd_move rfl) ?_
      first | refine any_take (i := 9) (by kernel_rfl) rfl rfl (by decide) (fun _ _ _ _ _ h => h) rfl ((rd_add rfl rfl).eq (congrArg (Value.int .i64) (IntWalk.i64_in _ (by omega)))) ?_ | refine any_take (i := 9) (by kernel_rfl) rfl rfl (by decide) (fun _ _ _ _ _ h => h) rfl (rd_add rfl rfl) ?_
      refine any_take (i := 10) (by kernel_rfl) rfl rfl (by decide) (fun _ _ _ _ _ h => h) rfl ((rd_indexAddr Try.underlying26 ei5 rfl rfl (by omega) (by omega)).eq (show _ = Value.pointer (some ⟨g, 0 + (s.at_ + i), none⟩) by rw [show Int.toNat ((s.at_ : Int) + i) = s.at_ + i by omega]; simp)) ?_
      refine any_take (i := 11) (by kernel_rfl) rfl rfl (by decide) (fun _ _ _ _ _ h => h) rfl (rd_load rfl row5 (Vw.cells1 (X := bytesO (.slice (some ⟨g, 0, none⟩) B.length cap) B) vw_bytes (by repeat (first | with_reducible exact Sel.head | apply Sel.tail)) (by omega) hcell)) ?_
      refine any_take (i := 12) (by kernel_rfl) rfl rfl (by decide) (fun _ _ _ _ _ h => h) rfl (rd_assign rfl) ?_
      refine any_nil (by kernel_rfl) ?_
      refine St.keep (β' := [(0, _), (3, _), (4, _), (5, _)]) ⟨rfl, rfl, rfl, rfl, trivial⟩ ?_
      refine St.then_n ?_
      refine do_seq ?_
      refine do_seq ?_
      refine do_cut (fun b : Bool => b = decide (i = 9 ∧ 1 < c.toNat ∨ 0 < i ∧ c.toNat = 0)) (fun b => [(0, .pointer (some ⟨r, 0, none⟩)), (3, .int .u64 acc), (4, .int .i64 i), (5, .int .u8 c.toNat), (55, .bool b)]) (fun _ => [pts r 194 [.slice (some ⟨g, 0, none⟩) B.length cap, .int .i64 s.at_, .int .i64 s.why], bytesO (.slice (some ⟨g, 0, none⟩) B.length cap) B, F]) (fun K hK => ?_) ?_
      · rcases (show (i = 9 ∧ 1 < c.toNat) ∨ (i = 9 ∧ ¬ 1 < c.toNat) ∨ (i ≠ 9 ∧ i = 0) ∨ (i ≠ 9 ∧ 0 < i) by omega) with hA | hA | hA | hA
        · refine do_region ?_
          refine run_read rfl (by decide) (fun _ => nofun) (rd_move rfl) ?_
          first | refine run_read rfl (by decide) (fun _ => nofun) ((rd_eq rfl rfl).eq (show _ = Value.bool true by simp; omega)) ?_ | refine run_read rfl (by decide) (fun _ => nofun) ((rd_eq rfl rfl).eq (show _ = Value.bool false by simp; omega)) ?_
          refine run_read rfl (by decide) (fun _ => nofun) (rd_move rfl) ?_
          first | (refine run_skip rfl rfl ?_) | (refine run_read rfl (by decide) (fun _ => nofun) (rd_move rfl) ?_)
          first | (refine run_skip rfl rfl ?_) | (first | refine run_read rfl (by decide) (fun _ => nofun) ((rd_gt rfl rfl).eq (show _ = Value.bool true by simp; omega)) ?_ | refine run_read rfl (by decide) (fun _ => nofun) ((rd_gt rfl rfl).eq (show _ = Value.bool false by simp; omega)) ?_)
          first | refine run_read rfl (by decide) (fun _ => nofun) (rd_pick_t rfl rfl) ?_ | refine run_read rfl (by decide) (fun _ => nofun) (rd_pick_f rfl rfl) ?_
          refine run_read rfl (by decide) (fun _ => nofun) (rd_move rfl) ?_
          first | (refine run_skip rfl rfl ?_) | (refine run_read rfl (by decide) (fun _ => nofun) (rd_move rfl) ?_)
          first | (refine run_skip rfl rfl ?_) | (first | refine run_read rfl (by decide) (fun _ => nofun) ((rd_gt rfl rfl).eq (show _ = Value.bool true by simp; omega)) ?_ | refine run_read rfl (by decide) (fun _ => nofun) ((rd_gt rfl rfl).eq (show _ = Value.bool false by simp; omega)) ?_)
          first | (refine run_skip rfl rfl ?_) | (refine run_read rfl (by decide) (fun _ => nofun) (rd_move rfl) ?_)
          first | (refine run_skip rfl rfl ?_) | (refine run_read rfl (by decide) (fun _ => nofun) (rd_move rfl) ?_)
          first | (refine run_skip rfl rfl ?_) | (refine run_read rfl (by decide) (fun _ => nofun) (rd_eq rfl rfl) ?_)
          first | (refine run_skip rfl rfl ?_) | (first | refine run_read rfl (by decide) (fun _ => nofun) (rd_pick_t rfl rfl) ?_ | refine run_read rfl (by decide) (fun _ => nofun) (rd_pick_f rfl rfl) ?_)
          first | refine run_read rfl (by decide) (fun _ => nofun) (rd_pick_t rfl rfl) ?_ | refine run_read rfl (by decide) (fun _ => nofun) (rd_pick_f rfl rfl) ?_
          refine run_nil ?_
          refine St.keep (β' := [(0, _), (3, _), (4, _), (5, _), (45, _), (46, _), (49, _), (50, _), (51, _), (52, _), (53, _), (54, _), (55, _)]) ⟨rfl, rfl, rfl, rfl, rfl, rfl, rfl, rfl, rfl, rfl, rfl, rfl, rfl, trivial⟩ ?_
          refine St.then_n ?_
          exact St.sub (by repeat (first | exact Pick.nil | apply Pick.cons (by repeat (first | with_reducible exact Sel.head | apply Sel.tail)))) (St.keep (β' := [(0, _), (3, _), (4, _), (5, _), (55, _)]) ⟨rfl, rfl, rfl, rfl, rfl, trivial⟩ (hK _ (by first | exact (decide_eq_true (by omega)).symm | exact (decide_eq_false (by omega)).symm | exact decide_eq_decide.2 (by omega))))
        · refine do_region ?_
          refine run_read rfl (by decide) (fun _ => nofun) (rd_move rfl) ?_
          first | refine run_read rfl (by decide) (fun _ => nofun) ((rd_eq rfl rfl).eq (show _ = Value.bool true by simp; omega)) ?_ | refine run_read rfl (by decide) (fun _ => nofun) ((rd_eq rfl rfl).eq (show _ = Value.bool false by simp; omega)) ?_
          refine run_read rfl (by decide) (fun _ => nofun) (rd_move rfl) ?_
          first | (refine run_skip rfl rfl ?_) | (refine run_read rfl (by decide) (fun _ => nofun) (rd_move rfl) ?_)
          first | (refine run_skip rfl rfl ?_) | (first | refine run_read rfl (by decide) (fun _ => nofun) ((rd_gt rfl rfl).eq (show _ = Value.bool true by simp; omega)) ?_ | refine run_read rfl (by decide) (fun _ => nofun) ((rd_gt rfl rfl).eq (show _ = Value.bool false by simp; omega)) ?_)
          first | refine run_read rfl (by decide) (fun _ => nofun) (rd_pick_t rfl rfl) ?_ | refine run_read rfl (by decide) (fun _ => nofun) (rd_pick_f rfl rfl) ?_
          refine run_read rfl (by decide) (fun _ => nofun) (rd_move rfl) ?_
          first | (refine run_skip rfl rfl ?_) | (refine run_read rfl (by decide) (fun _ => nofun) (rd_move rfl) ?_)
          first | (refine run_skip rfl rfl ?_) | (first | refine run_read rfl (by decide) (fun _ => nofun) ((rd_gt rfl rfl).eq (show _ = Value.bool true by simp; omega)) ?_ | refine run_read rfl (by decide) (fun _ => nofun) ((rd_gt rfl rfl).eq (show _ = Value.bool false by simp; omega)) ?_)
          first | (refine run_skip rfl rfl ?_) | (refine run_read rfl (by decide) (fun _ => nofun) (rd_move rfl) ?_)
          first | (refine run_skip rfl rfl ?_) | (refine run_read rfl (by decide) (fun _ => nofun) (rd_move rfl) ?_)
          first | (refine run_skip rfl rfl ?_) | (refine run_read rfl (by decide) (fun _ => nofun) (rd_eq rfl rfl) ?_)
          first | (refine run_skip rfl rfl ?_) | (first | refine run_read rfl (by decide) (fun _ => nofun) (rd_pick_t rfl rfl) ?_ | refine run_read rfl (by decide) (fun _ => nofun) (rd_pick_f rfl rfl) ?_)
          first | refine run_read rfl (by decide) (fun _ => nofun) (rd_pick_t rfl rfl) ?_ | refine run_read rfl (by decide) (fun _ => nofun) (rd_pick_f rfl rfl) ?_
          refine run_nil ?_
          refine St.keep (β' := [(0, _), (3, _), (4, _), (5, _), (45, _), (46, _), (49, _), (50, _), (51, _), (52, _), (53, _), (54, _), (55, _)]) ⟨rfl, rfl, rfl, rfl, rfl, rfl, rfl, rfl, rfl, rfl, rfl, rfl, rfl, trivial⟩ ?_
          refine St.then_n ?_
          exact St.sub (by repeat (first | exact Pick.nil | apply Pick.cons (by repeat (first | with_reducible exact Sel.head | apply Sel.tail)))) (St.keep (β' := [(0, _), (3, _), (4, _), (5, _), (55, _)]) ⟨rfl, rfl, rfl, rfl, rfl, trivial⟩ (hK _ (by first | exact (decide_eq_true (by omega)).symm | exact (decide_eq_false (by omega)).symm | exact decide_eq_decide.2 (by omega))))
        · refine do_region ?_
          refine run_read rfl (by decide) (fun _ => nofun) (rd_move rfl) ?_
          first | refine run_read rfl (by decide) (fun _ => nofun) ((rd_eq rfl rfl).eq (show _ = Value.bool true by simp; omega)) ?_ | refine run_read rfl (by decide) (fun _ => nofun) ((rd_eq rfl rfl).eq (show _ = Value.bool false by simp; omega)) ?_
          refine run_read rfl (by decide) (fun _ => nofun) (rd_move rfl) ?_
          first | (refine run_skip rfl rfl ?_) | (refine run_read rfl (by decide) (fun _ => nofun) (rd_move rfl) ?_)
          first | (refine run_skip rfl rfl ?_) | (first | refine run_read rfl (by decide) (fun _ => nofun) ((rd_gt rfl rfl).eq (show _ = Value.bool true by simp; omega)) ?_ | refine run_read rfl (by decide) (fun _ => nofun) ((rd_gt rfl rfl).eq (show _ = Value.bool false by simp; omega)) ?_)
          first | refine run_read rfl (by decide) (fun _ => nofun) (rd_pick_t rfl rfl) ?_ | refine run_read rfl (by decide) (fun _ => nofun) (rd_pick_f rfl rfl) ?_
          refine run_read rfl (by decide) (fun _ => nofun) (rd_move rfl) ?_
          first | (refine run_skip rfl rfl ?_) | (refine run_read rfl (by decide) (fun _ => nofun) (rd_move rfl) ?_)
          first | (refine run_skip rfl rfl ?_) | (first | refine run_read rfl (by decide) (fun _ => nofun) ((rd_gt rfl rfl).eq (show _ = Value.bool true by simp; omega)) ?_ | refine run_read rfl (by decide) (fun _ => nofun) ((rd_gt rfl rfl).eq (show _ = Value.bool false by simp; omega)) ?_)
          first | (refine run_skip rfl rfl ?_) | (refine run_read rfl (by decide) (fun _ => nofun) (rd_move rfl) ?_)
          first | (refine run_skip rfl rfl ?_) | (refine run_read rfl (by decide) (fun _ => nofun) (rd_move rfl) ?_)
          first | (refine run_skip rfl rfl ?_) | (refine run_read rfl (by decide) (fun _ => nofun) (rd_eq rfl rfl) ?_)
          first | (refine run_skip rfl rfl ?_) | (first | refine run_read rfl (by decide) (fun _ => nofun) (rd_pick_t rfl rfl) ?_ | refine run_read rfl (by decide) (fun _ => nofun) (rd_pick_f rfl rfl) ?_)
          first | refine run_read rfl (by decide) (fun _ => nofun) (rd_pick_t rfl rfl) ?_ | refine run_read rfl (by decide) (fun _ => nofun) (rd_pick_f rfl rfl) ?_
          refine run_nil ?_
          refine St.keep (β' := [(0, _), (3, _), (4, _), (5, _), (45, _), (46, _), (49, _), (50, _), (51, _), (52, _), (53, _), (54, _), (55, _)]) ⟨rfl, rfl, rfl, rfl, rfl, rfl, rfl, rfl, rfl, rfl, rfl, rfl, rfl, trivial⟩ ?_
          refine St.then_n ?_
          exact St.sub (by repeat (first | exact Pick.nil | apply Pick.cons (by repeat (first | with_reducible exact Sel.head | apply Sel.tail)))) (St.keep (β' := [(0, _), (3, _), (4, _), (5, _), (55, _)]) ⟨rfl, rfl, rfl, rfl, rfl, trivial⟩ (hK _ (by first | exact (decide_eq_true (by omega)).symm | exact (decide_eq_false (by omega)).symm | exact decide_eq_decide.2 (by omega))))
        · refine do_region ?_
          refine run_read rfl (by decide) (fun _ => nofun) (rd_move rfl) ?_
          first | refine run_read rfl (by decide) (fun _ => nofun) ((rd_eq rfl rfl).eq (show _ = Value.bool true by simp; omega)) ?_ | refine run_read rfl (by decide) (fun _ => nofun) ((rd_eq rfl rfl).eq (show _ = Value.bool false by simp; omega)) ?_
          refine run_read rfl (by decide) (fun _ => nofun) (rd_move rfl) ?_
          first | (refine run_skip rfl rfl ?_) | (refine run_read rfl (by decide) (fun _ => nofun) (rd_move rfl) ?_)
          first | (refine run_skip rfl rfl ?_) | (first | refine run_read rfl (by decide) (fun _ => nofun) ((rd_gt rfl rfl).eq (show _ = Value.bool true by simp; omega)) ?_ | refine run_read rfl (by decide) (fun _ => nofun) ((rd_gt rfl rfl).eq (show _ = Value.bool false by simp; omega)) ?_)
          first | refine run_read rfl (by decide) (fun _ => nofun) (rd_pick_t rfl rfl) ?_ | refine run_read rfl (by decide) (fun _ => nofun) (rd_pick_f rfl rfl) ?_
          refine run_read rfl (by decide) (fun _ => nofun) (rd_move rfl) ?_
          first | (refine run_skip rfl rfl ?_) | (refine run_read rfl (by decide) (fun _ => nofun) (rd_move rfl) ?_)
          first | (refine run_skip rfl rfl ?_) | (first | refine run_read rfl (by decide) (fun _ => nofun) ((rd_gt rfl rfl).eq (show _ = Value.bool true by simp; omega)) ?_ | refine run_read rfl (by decide) (fun _ => nofun) ((rd_gt rfl rfl).eq (show _ = Value.bool false by simp; omega)) ?_)
          first | (refine run_skip rfl rfl ?_) | (refine run_read rfl (by decide) (fun _ => nofun) (rd_move rfl) ?_)
          first | (refine run_skip rfl rfl ?_) | (refine run_read rfl (by decide) (fun _ => nofun) (rd_move rfl) ?_)
          first | (refine run_skip rfl rfl ?_) | (refine run_read rfl (by decide) (fun _ => nofun) (rd_eq rfl rfl) ?_)
          first | (refine run_skip rfl rfl ?_) | (first | refine run_read rfl (by decide) (fun _ => nofun) (rd_pick_t rfl rfl) ?_ | refine run_read rfl (by decide) (fun _ => nofun) (rd_pick_f rfl rfl) ?_)
          first | refine run_read rfl (by decide) (fun _ => nofun) (rd_pick_t rfl rfl) ?_ | refine run_read rfl (by decide) (fun _ => nofun) (rd_pick_f rfl rfl) ?_
          refine run_nil ?_
          refine St.keep (β' := [(0, _), (3, _), (4, _), (5, _), (45, _), (46, _), (49, _), (50, _), (51, _), (52, _), (53, _), (54, _), (55, _)]) ⟨rfl, rfl, rfl, rfl, rfl, rfl, rfl, rfl, rfl, rfl, rfl, rfl, rfl, trivial⟩ ?_
          refine St.then_n ?_
          exact St.sub (by repeat (first | exact Pick.nil | apply Pick.cons (by repeat (first | with_reducible exact Sel.head | apply Sel.tail)))) (St.keep (β' := [(0, _), (3, _), (4, _), (5, _), (55, _)]) ⟨rfl, rfl, rfl, rfl, rfl, trivial⟩ (hK _ (by first | exact (decide_eq_true (by omega)).symm | exact (decide_eq_false (by omega)).symm | exact decide_eq_decide.2 (by omega))))
      rintro b hb
      first | refine do_condp rfl (fun h55 => ?_) (fun h55 => ?_) | refine do_cond rfl (fun h55 => ?_) (fun h55 => ?_)
      · have hf := of_decide_eq_true (hb.symm.trans h55)
        rw [scanF_cons, if_pos hf] at hq
        simp only [Prod.mk.injEq] at hq
        obtain ⟨rfl, rfl, rfl⟩ := hq
        refine do_seq ?_
        refine do_region ?_
        refine run_read rfl (by decide) (fun _ => nofun) (rd_move rfl) ?_
        refine run_read rfl (by decide) (fun _ => nofun) (rd_nilCheck rfl) ?_
        first | refine run_read rfl (by decide) (fun _ => nofun) (rd_fieldAddr0 rfl fld194_2) ?_ | refine run_read rfl (by decide) (fun _ => nofun) (rd_fieldAddr rfl fld194_2) ?_
        refine run_store rfl rfl rfl (by repeat (first | with_reducible exact Sel.head | apply Sel.tail)) row25 rfl rfl (by simp only [List.set_cons_succ, List.set_cons_zero]; exact rfl) ?_
        refine run_nil ?_
        refine St.keep (β' := []) trivial ?_
        refine St.then_n ?_
        refine do_seq ?_
        refine do_region ?_
        refine run_read rfl (by decide) (fun _ => nofun) (rd_assign rfl) ?_
        refine run_nil ?_
        refine St.then_n ?_
        refine do_ret ?_
        refine St.then_r ?_
        refine St.blk_r ?_
        refine St.then_r ?_
        refine St.then_r ?_
        refine St.blk_r ?_
        refine St.then_r ?_
        refine do_ret1 Try.results125 (res_tmp rfl) ?_
        intro w hw
        rw [rU_bad hy he (by decide)]
        exact ⟨(), trivial, rfl, Holds.rd_shut (A := some ⟨g, 0, none⟩) (cap := cap) ⟨s.at_, 11⟩ (by repeat (first | exact Pick.nil | apply Pick.cons (by repeat (first | with_reducible exact Sel.head | apply Sel.tail)))) hw⟩
      · have hf := of_decide_eq_false (hb.symm.trans h55)
        rw [scanF_cons, if_neg hf] at hq
        have hq8 : c.toNat % 128 < 128 := Nat.mod_lt _ (by omega)
        obtain ⟨sh1, sh2⟩ := shl_in (c.toNat % 128) i hq8 hi9 (by intro h; omega)
        have hacc : acc < 18446744073709551616 := by
          have : 128 ^ i ≤ 128 ^ 9 := Nat.pow_le_pow_right (by omega) hi9
          have h8 : (128 : Nat) ^ 9 = 9223372036854775808 := by decide
          omega
        have hor := or_add acc (c.toNat % 128) i ha
        refine do_skip ?_
        refine St.then_n ?_
        refine do_seq ?_
        refine do_region ?_
        refine run_read rfl (by decide) (fun _ => nofun) (rd_move rfl) ?_
        refine run_read rfl (by decide) (fun _ => nofun) (rd_move rfl) ?_
        refine run_read rfl (by decide) (fun _ => nofun) ((rd_rem (by decide) rfl rfl).eq (tmod_u8 c)) ?_
        refine run_read rfl (by decide) (fun _ => nofun) ((rd_conv Try.underlying5 Try.underlying183 rfl).eq (show _ = Value.int .u64 ((c.toNat % 128 : Nat) : Int) from congrArg _ (IntWalk.u64_in _ (by omega)))) ?_
        refine run_read rfl (by decide) (fun _ => nofun) (rd_move rfl) ?_
        first | refine run_read rfl (by decide) (fun _ => nofun) ((rd_mul rfl rfl).eq (congrArg (Value.int .i64) (IntWalk.i64_in _ (by omega)))) ?_ | refine run_read rfl (by decide) (fun _ => nofun) (rd_mul rfl rfl) ?_
        first | refine run_read rfl (by decide) (fun _ => nofun) ((rd_conv Try.underlying3 Try.underlying184 rfl).eq (congrArg (Value.int .u64) (IntWalk.u64_in _ (by omega)))) ?_ | refine run_read rfl (by decide) (fun _ => nofun) (rd_conv Try.underlying3 Try.underlying184 rfl) ?_
        refine run_read rfl (by decide) (fun _ => nofun) ((rd_shl (by omega) rfl rfl).eq sh1) ?_
        refine run_read rfl (by decide) (fun _ => nofun) ((rd_or rfl rfl).eq ((u64_or acc _ hacc sh2).trans (show _ = Value.int .u64 ((acc + c.toNat % 128 * 128 ^ i : Nat) : Int) by rw [hor]))) ?_
        refine run_read rfl (by decide) (fun _ => nofun) (rd_assign rfl) ?_
        refine run_nil ?_
        refine St.keep (β' := [(0, _), (3, _), (4, _), (5, _)]) ⟨rfl, rfl, rfl, rfl, trivial⟩ ?_
        refine St.then_n ?_
        refine do_seq ?_
        refine do_region ?_
        refine run_read rfl (by decide) (fun _ => nofun) (rd_move rfl) ?_
        refine run_read rfl (by decide) (fun _ => nofun) (rd_lt rfl rfl) ?_
        refine run_nil ?_
        refine St.then_n ?_
        first | refine do_condp rfl (fun h69 => ?_) (fun h69 => ?_) | refine do_cond rfl (fun h69 => ?_) (fun h69 => ?_)
        · rw [if_pos (by omega)] at hq
          simp only [Prod.mk.injEq] at hq
          obtain ⟨rfl, rfl, rfl⟩ := hq
          refine do_seq ?_
          refine do_region ?_
          refine run_read rfl (by decide) (fun _ => nofun) (rd_move rfl) ?_
          refine run_read rfl (by decide) (fun _ => nofun) (rd_move rfl) ?_
          refine run_read rfl (by decide) (fun _ => nofun) (rd_nilCheck rfl) ?_
          first | refine run_read rfl (by decide) (fun _ => nofun) (rd_fieldAddr0 rfl fld194_1) ?_ | refine run_read rfl (by decide) (fun _ => nofun) (rd_fieldAddr rfl fld194_1) ?_
          refine run_read rfl (by decide) (fun _ => nofun) (rd_load rfl row3 (cells_pts1 (by repeat (first | with_reducible exact Sel.head | apply Sel.tail)) rfl)) ?_
          refine run_read rfl (by decide) (fun _ => nofun) (rd_move rfl) ?_
          first | refine run_read rfl (by decide) (fun _ => nofun) ((rd_add rfl rfl).eq (congrArg (Value.int .i64) (IntWalk.i64_in _ (by omega)))) ?_ | refine run_read rfl (by decide) (fun _ => nofun) (rd_add rfl rfl) ?_
          first | refine run_read rfl (by decide) (fun _ => nofun) ((rd_add rfl rfl).eq (congrArg (Value.int .i64) (IntWalk.i64_in _ (by omega)))) ?_ | refine run_read rfl (by decide) (fun _ => nofun) (rd_add rfl rfl) ?_
          refine run_read rfl (by decide) (fun _ => nofun) (rd_nilCheck rfl) ?_
          first | refine run_read rfl (by decide) (fun _ => nofun) (rd_fieldAddr0 rfl fld194_1) ?_ | refine run_read rfl (by decide) (fun _ => nofun) (rd_fieldAddr rfl fld194_1) ?_
          refine run_store rfl rfl rfl (by repeat (first | with_reducible exact Sel.head | apply Sel.tail)) row3 rfl rfl (by simp only [List.set_cons_succ, List.set_cons_zero]; exact rfl) ?_
          refine run_nil ?_
          refine St.keep (β' := [(3, _)]) ⟨rfl, trivial⟩ ?_
          refine St.then_n ?_
          refine do_seq ?_
          refine do_region ?_
          refine run_read rfl (by decide) (fun _ => nofun) (rd_move rfl) ?_
          refine run_read rfl (by decide) (fun _ => nofun) (rd_assign rfl) ?_
          refine run_nil ?_
          refine St.then_n ?_
          refine do_ret ?_
          refine St.blk_r ?_
          refine St.then_r ?_
          refine St.then_r ?_
          refine St.blk_r ?_
          refine St.then_r ?_
          refine do_ret1 Try.results125 (res_tmp rfl) ?_
          intro w hw
          rw [rU_good hy he rfl, ← hy]
          exact ⟨(), trivial, rfl, Holds.rd_shut (A := some ⟨g, 0, none⟩) (cap := cap) ⟨s.at_ + (i + 1), s.why⟩ (.cons .head (.cons (by repeat (first | with_reducible exact Sel.head | apply Sel.tail)) .nil)) hw⟩
        · rw [if_neg (by omega)] at hq
          refine do_skip ?_
          refine St.blk_n ?_
          refine St.then_n ?_
          refine do_region ?_
          refine run_read rfl (by decide) (fun _ => nofun) (rd_move rfl) ?_
          first | refine run_read rfl (by decide) (fun _ => nofun) ((rd_add rfl rfl).eq (congrArg (Value.int .i64) (IntWalk.i64_in _ (by omega)))) ?_ | refine run_read rfl (by decide) (fun _ => nofun) (rd_add rfl rfl) ?_
          refine run_read rfl (by decide) (fun _ => nofun) (rd_assign rfl) ?_
          refine run_nil ?_
          refine St.keep (β' := [(0, _), (3, _), (4, _)]) ⟨rfl, rfl, rfl, trivial⟩ ?_
          refine St.then_n ?_
          refine loop_back (i + 1, acc + c.toNat % 128 * 128 ^ i) ⟨by dsimp only; omega, by dsimp only; omega, ?_, hq⟩ (by dsimp only; omega) ⟨rfl, rfl, rfl, trivial⟩ (by repeat (first | exact Pick.nil | apply Pick.cons (by repeat (first | with_reducible exact Sel.head | apply Sel.tail))))
          dsimp only
          have : c.toNat % 128 * 128 ^ i ≤ 127 * 128 ^ i := Nat.mul_le_mul_right _ (by omega)
          rw [Nat.pow_succ]; omega
  · rw [rU_err hy]
    refine do_seq ?_
    refine do_region ?_
    refine run_read rfl (by decide) (fun _ => nofun) (rd_assign rfl) ?_
    refine run_nil ?_
    refine St.then_n ?_
    refine do_seq ?_
    refine do_seq ?_
    refine do_region ?_
    refine run_read rfl (by decide) (fun _ => nofun) (rd_move rfl) ?_
    refine run_read rfl (by decide) (fun _ => nofun) (rd_nilCheck rfl) ?_
    first | refine run_read rfl (by decide) (fun _ => nofun) (rd_fieldAddr0 rfl fld194_2) ?_ | refine run_read rfl (by decide) (fun _ => nofun) (rd_fieldAddr rfl fld194_2) ?_
    refine run_read rfl (by decide) (fun _ => nofun) (rd_load rfl row25 (cells_pts1 (by repeat (first | with_reducible exact Sel.head | apply Sel.tail)) rfl)) ?_
    refine run_read rfl (by decide) (fun _ => nofun) (rd_ne rfl rfl) ?_
    refine run_nil ?_
    refine St.keep (β' := [(0, _), (10, _)]) ⟨rfl, rfl, trivial⟩ ?_
    refine St.then_n ?_
    refine do_condp rfl (fun h10 => ?_) (fun h10 => absurd (by omega) h10)
    refine do_seq ?_
    refine do_region ?_
    refine run_read rfl (by decide) (fun _ => nofun) (rd_assign rfl) ?_
    refine run_nil ?_
    refine St.then_n ?_
    refine do_ret ?_
    refine St.then_r ?_
    refine do_ret1 Try.results125 (res_tmp rfl) ?_
    intro w hw
    exact ⟨(), trivial, rfl, Holds.rd_shut (A := A) (cap := cap) s (by repeat (first | exact Pick.nil | apply Pick.cons (by repeat (first | with_reducible exact Sel.head | apply Sel.tail)))) hw⟩
theorem refRdInt_spec (F : HP) (hs : s.at_ ≤ B.length) (hl : B.length ≤ 140737488355328) :
    Spec Try.prog 88 [.pointer (some ⟨r, 0, none⟩)] [rdO 194 r B s] F (fun _ : Unit => True) (fun _ => .int .i64 (rI B s).1) (fun _ => [rdO 194 r B (rI B s).2]) := by
  intro ω w hh
  refine enter Try.func88 rfl Try.ntmps88 rfl hh ?_
  simp only [List.cons_append, List.nil_append, argsB]
  have hlt := rU_lt B s
  unfold rI
  dsimp only
  refine do_seq ?_
  refine do_region ?_
  refine run_read rfl (by decide) (fun _ => nofun) (rd_assign rfl) ?_
  refine run_nil ?_
  refine St.then_n ?_
  refine do_seq ?_
  refine do_region ?_
  refine run_read rfl (by decide) (fun _ => nofun) (rd_move rfl) ?_
  refine run_spec rfl (by decide) (by kernel_rfl) rfl (by repeat (first | exact Pick.nil | apply Pick.cons (by repeat (first | with_reducible exact Sel.head | apply Sel.tail)))) (refRdUint_spec _ hs hl) ?_
  rintro ⟨⟩ -
  generalize (rU B s).1 = n at hlt
  try simp only [List.cons_append, List.nil_append]
  refine run_read rfl (by decide) (fun _ => nofun) (rd_assign rfl) ?_
  refine run_nil ?_
  refine St.keep (β' := [(3, _)]) ⟨rfl, trivial⟩ ?_
  refine St.then_n ?_
  refine do_seq ?_
  refine do_seq ?_
  refine do_region ?_
  refine run_read rfl (by decide) (fun _ => nofun) (rd_move rfl) ?_
  refine run_read rfl (by decide) (fun _ => nofun) ((rd_rem (by decide) rfl rfl).eq (tmod2 n)) ?_
  refine run_read rfl (by decide) (fun _ => nofun) (rd_eq rfl rfl) ?_
  refine run_nil ?_
  refine St.then_n ?_
  first | refine do_condp rfl (fun h8 => ?_) (fun h8 => ?_) | refine do_cond rfl (fun h8 => ?_) (fun h8 => ?_)
  · refine do_seq ?_
    refine do_region ?_
    refine run_read rfl (by decide) (fun _ => nofun) (rd_move rfl) ?_
    refine run_read rfl (by decide) (fun _ => nofun) ((rd_quo (by decide) rfl rfl).eq (tdiv2 n hlt)) ?_
    first | refine run_read rfl (by decide) (fun _ => nofun) ((rd_conv Try.underlying183 Try.underlying2 rfl).eq (congrArg (Value.int .i64) (IntWalk.i64_in _ (by omega)))) ?_ | refine run_read rfl (by decide) (fun _ => nofun) (rd_conv Try.underlying183 Try.underlying2 rfl) ?_
    refine run_read rfl (by decide) (fun _ => nofun) ((rd_neg rfl).eq (show _ = Value.int .i64 (0 - ((n / 2 : Nat) : Int)) from congrArg _ (IntWalk.i64_in _ (by omega)))) ?_
    first | refine run_read rfl (by decide) (fun _ => nofun) ((rd_sub rfl rfl).eq (congrArg (Value.int .i64) (IntWalk.i64_in _ (by omega)))) ?_ | refine run_read rfl (by decide) (fun _ => nofun) (rd_sub rfl rfl) ?_
    refine run_read rfl (by decide) (fun _ => nofun) (rd_assign rfl) ?_
    refine run_nil ?_
    refine St.keep (β' := [(2, _)]) ⟨rfl, trivial⟩ ?_
    refine St.then_n ?_
    refine do_ret ?_
    refine St.then_r ?_
    refine do_ret1 Try.results88 (res_tmp rfl) ?_
    intro w hw
    exact ⟨(), trivial, by unfold unzig; rw [if_pos (by omega), Int.zero_sub], hw⟩
  · refine do_skip ?_
    refine St.then_n ?_
    refine do_seq ?_
    refine do_region ?_
    refine run_read rfl (by decide) (fun _ => nofun) (rd_move rfl) ?_
    refine run_read rfl (by decide) (fun _ => nofun) ((rd_quo (by decide) rfl rfl).eq (tdiv2 n hlt)) ?_
    first | refine run_read rfl (by decide) (fun _ => nofun) ((rd_conv Try.underlying183 Try.underlying2 rfl).eq (congrArg (Value.int .i64) (IntWalk.i64_in _ (by omega)))) ?_ | refine run_read rfl (by decide) (fun _ => nofun) (rd_conv Try.underlying183 Try.underlying2 rfl) ?_
    refine run_read rfl (by decide) (fun _ => nofun) (rd_assign rfl) ?_
    refine run_nil ?_
    refine St.keep (β' := [(2, _)]) ⟨rfl, trivial⟩ ?_
    refine St.then_n ?_
    refine do_ret ?_
    refine do_ret1 Try.results88 (res_tmp rfl) ?_
    intro w hw
    exact ⟨(), trivial, by unfold unzig; rw [if_neg (by omega)], hw⟩
end
end Go.Proofs.Ytglcmlicfmmlpaa
