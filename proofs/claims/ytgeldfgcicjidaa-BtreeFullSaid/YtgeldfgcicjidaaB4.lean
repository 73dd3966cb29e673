/-
  The disk.
-/
import Derived.Test.YtgeldfgcicjidaaB3
namespace Go.Proofs.Ytgeldfgcicjidaa
open Go.RowKit
set_option linter.unusedSimpArgs false
set_option linter.unusedVariables false

theorem i256 {i k : Nat} (hi : i < k) : i * 256 + 256 ≤ k * 256 := by omega
theorem i256_int (i : Nat) : ((i : Int) + 1) * 256 = ((i * 256 + 256 : Nat) : Int) := by omega
/-- A disk: what is safe, what is there, the writes that are not safe yet. -/
structure DS where
  safe : List UInt8
  now : List UInt8
  l : List (Nat × List UInt8)
  fl : Bool
  fu : Bool
  de : Bool
abbrev pad6 (b : List UInt8) : List UInt8 := (b ++ List.replicate 256 (0 : UInt8)).take 256
theorem pad6_len (b : List UInt8) : (pad6 b).length = 256 := by
  rw [List.length_take, List.length_append, List.length_replicate]; omega
theorem pad6_same {b : List UInt8} (h : b.length = 256) : pad6 b = b := by unfold pad6; rw [List.take_left' h]
def chC (x : Nat × List UInt8) : List Value := .int .i64 x.1 :: (pad6 x.2).map bcell
theorem chC_len (x : Nat × List UInt8) : (chC x).length = 257 := by unfold chC; rw [List.length_cons, List.length_map, pad6_len]
theorem chC_one (x : Nat × List UInt8) : (chC x).all (·.oneCell') = true := by unfold chC; rw [List.all_cons, bcells_all]; rfl
def diskO (d : Nat) (S : DS) : HP := fun h => ∃ v1 v2 v3, Sep [pts d 113 [v1, v2, v3, .bool S.fl, .bool S.fu, .bool S.de], bytesO v1 S.safe, bytesO v2 S.now, ownQ chC 117 257 v3 S.l.length S.l] h
section
variable {ω : Amb} {m : Nat} {ds : List Deferred} {Γ Γ1 : List HP} {β : List (Nat × Value)} {K : Act → World → Prop} {d : Nat}
theorem St.dk_open {S : DS} (h : ∀ v1 v2 v3, St ω m ds (pts d 113 [v1, v2, v3, .bool S.fl, .bool S.fu, .bool S.de] :: bytesO v1 S.safe :: bytesO v2 S.now :: ownQ chC 117 257 v3 S.l.length S.l :: Γ) β K) : St ω m ds (diskO d S :: Γ) β K := by
  unfold diskO
  exact St.ex fun v1 => St.ex fun v2 => St.ex fun v3 => St.flat (h v1 v2 v3)
theorem Holds.dk_shut {w : World} (S : DS) (v1 v2 v3 : Value) (h : Holds ω Γ w) (p : Pick [pts d 113 [v1, v2, v3, .bool S.fl, .bool S.fu, .bool S.de], bytesO v1 S.safe, bytesO v2 S.now, ownQ chC 117 257 v3 S.l.length S.l] Γ Γ1 := by (try dsimp only [List.length_nil]); repeat (first | exact Pick.nil | apply Pick.cons (by repeat (first | with_reducible exact Sel.head | apply Sel.tail)))) : Holds ω (diskO d S :: Γ1) w :=
  Holds.ent (fun _ h => ⟨v1, v2, v3, h⟩) (Holds.flat.2 (Holds.unpick (h.pick p)))
theorem St.dk_shut (S : DS) (v1 v2 v3 : Value) (h : St ω m ds (diskO d S :: Γ1) β K) (p : Pick [pts d 113 [v1, v2, v3, .bool S.fl, .bool S.fu, .bool S.de], bytesO v1 S.safe, bytesO v2 S.now, ownQ chC 117 257 v3 S.l.length S.l] Γ Γ1 := by (try dsimp only [List.length_nil]); repeat (first | exact Pick.nil | apply Pick.cons (by repeat (first | with_reducible exact Sel.head | apply Sel.tail)))) : St ω m ds Γ β K := fun a w b c =>
  h a w (Holds.dk_shut S v1 v2 v3 b p) c
end
theorem diskLoad_spec (F : HP) (v : Value) (bs : List UInt8) (k : Nat) (hF : VwB F v bs) (hk : bs.length = k * 256) (h1 : 1 ≤ k) (h2 : k ≤ 4096) :
    Spec Try.prog 43 [v] [] F (fun _ : Nat => True) (fun d => .tuple #[.pointer (some ⟨d, 0, none⟩), .int .i64 0]) (fun d => [diskO d ⟨bs, bs, [], false, false, false⟩]) := by
  intro ω w hh
  refine enter Try.func43 rfl Try.ntmps43 rfl hh ?_
  simp only [List.nil_append, argsB]
  refine St.vw hF .head (fun A c hv _ _ _ => ?_)
  subst hv
  rw [hk]
  refine sr ?_
  refine rr (rd_assign rfl) ?_
  refine rr (rd_assign rfl) ?_
  refine nx ?_
  refine sr ?_
  refine rr (rd_move rfl) ?_
  refine rr (rd_len Try.underlying44 rfl) ?_
  refine rr ((rd_quo (by omega) rfl rfl).eq (show _ = Value.int .i64 (k : Int) by rw [Int.tdiv_eq_ediv_of_nonneg (by omega), IntWalk.i64_in _ (by omega)]; congr 1; omega)) ?_
  refine rr (rd_assign rfl) ?_
  refine run_nil ?_
  refine St.kp [(0, _), (4, _)] ?_
  refine St.then_n ?_
  refine do_seq ?_
  refine sr ?_
  refine rr (rd_move rfl) ?_
  refine rr (rd_muli rfl rfl) ?_
  refine rr (rd_move rfl) ?_
  refine rr (rd_len Try.underlying44 rfl) ?_
  refine rr ((rd_ne rfl rfl).eq (show _ = Value.bool false by simp)) ?_
  refine rr (rd_move rfl) ?_
  first | refine sk ?_ | (refine rr (rd_move rfl) ?_)
  first | refine sk ?_ | (refine rr ((rd_lt rfl rfl).eq (show _ = Value.bool false by simp; omega)) ?_)
  refine rr (rd_pick rfl rfl) ?_
  refine rr (rd_move rfl) ?_
  first | refine sk ?_ | (refine rr (rd_move rfl) ?_)
  first | refine sk ?_ | (refine rr ((rd_gt rfl rfl).eq (show _ = Value.bool false by simp; omega)) ?_)
  refine rr (rd_pick rfl rfl) ?_
  refine run_nil ?_
  refine St.kp [(0, _), (20, _)] ?_
  refine St.then_n ?_
  refine do_cond_f rfl ?_
  refine do_skip ?_
  refine St.then_n ?_
  refine sr ?_
  refine rr (rd_move rfl) ?_
  refine rc (hs := cloneB_spec _ _ bs (by rw [← hk]; exact hF.sep (by repeat (first | with_reducible exact Sel.head | apply Sel.tail))) (by omega)) (k := ?_)
  rintro v1 -
  refine St.vw vw_bytes .head (fun A1 c1 hv1 _ _ _ => ?_)
  subst hv1
  try simp only [List.cons_append, List.nil_append]
  refine rr (rd_move rfl) ?_
  refine rc (hs := cloneB_spec _ _ bs (by rw [← hk]; exact hF.sep (by repeat (first | with_reducible exact Sel.head | apply Sel.tail))) (by omega)) (k := ?_)
  rintro v2 -
  refine St.vw vw_bytes .head (fun A2 c2 hv2 _ _ _ => ?_)
  subst hv2
  try simp only [List.cons_append, List.nil_append]
  refine rr (rd_bd [_, _, _, _, _, _] zero113 plc113) ?_
  refine r_bx fun b26 => ?_
  refine rr (rd_assign rfl) ?_
  refine rr (rd_assign rfl) ?_
  refine run_nil ?_
  refine St.kp [(2, _), (3, _)] ?_
  refine St.then_n ?_
  refine do_ret ?_
  refine do_ret2 Try.results43 (res_tmp rfl) (res_tmp rfl) ?_
  intro w hw
  refine ⟨b26, trivial, rfl, ?_⟩
  exact Holds.dk_shut ⟨bs, bs, [], false, false, false⟩ (.slice A1 bs.length c1) (.slice A2 bs.length c2) (.slice none 0 0) (Holds.ent (Q := ownQ chC 117 257 (.slice none 0 0) 0 []) (fun _ h => ⟨rfl, h⟩) (Holds.own_nil hw))
theorem diskNew_spec (F : HP) (k : Nat) (h1 : 1 ≤ k) (h2 : k ≤ 4096) :
    Spec Try.prog 23 [.int .i64 k] [] F (fun _ : Nat => True) (fun d => .tuple #[.pointer (some ⟨d, 0, none⟩), .int .i64 0]) (fun d => [diskO d ⟨List.replicate (k * 256) 0, List.replicate (k * 256) 0, [], false, false, false⟩]) := by
  intro ω w hh
  refine enter Try.func23 rfl Try.ntmps23 rfl hh ?_
  simp only [List.nil_append, argsB]
  refine sr ?_
  refine rr (rd_assign rfl) ?_
  refine rr (rd_assign rfl) ?_
  refine nx ?_
  refine do_seq ?_
  refine sr ?_
  refine rr (rd_move rfl) ?_
  refine rr ((rd_lt rfl rfl).eq (show _ = Value.bool false by simp; omega)) ?_
  refine rr (rd_move rfl) ?_
  first | refine sk ?_ | (refine rr (rd_move rfl) ?_)
  first | refine sk ?_ | (refine rr ((rd_gt rfl rfl).eq (show _ = Value.bool false by simp; omega)) ?_)
  refine rr (rd_pick rfl rfl) ?_
  refine run_nil ?_
  refine St.kp [(0, _), (9, _)] ?_
  refine St.then_n ?_
  refine do_cond_f rfl ?_
  refine do_skip ?_
  refine St.then_n ?_
  refine sr ?_
  refine rr (rd_move rfl) ?_
  refine rr (rd_muli rfl rfl) ?_
  refine r_mk (i := (k : Int) * 256) Try.underlying44 ei5 (k * 256) (by omega) (by omega) (by omega) (fun b12 => ?_)
  rw [zeros_b]
  refine rc (hs := diskLoad_spec _ _ (List.replicate (k * 256) 0) k (Vw.sep (X := pts b12 5 ((List.replicate (k * 256) (0 : UInt8)).map bcell)) (by rw [List.length_replicate]; exact vw_pts (Nat.le_refl _) (by simp only [maxLen]; omega) (by simp) (by simp)) (by repeat (first | with_reducible exact Sel.head | apply Sel.tail))) (by rw [List.length_replicate]) h1 h2) (k := ?_)
  rintro d -
  try simp only [List.cons_append, List.nil_append]
  refine rr (rd_extract rfl rfl) ?_
  refine rr (rd_extract rfl rfl) ?_
  refine rr (rd_assign rfl) ?_
  refine rr (rd_assign rfl) ?_
  refine run_nil ?_
  refine St.kp [(2, _), (3, _)] ?_
  refine St.then_n ?_
  refine do_ret ?_
  refine do_ret2 Try.results23 (res_tmp rfl) (res_tmp rfl) ?_
  intro w hw
  exact ⟨d, trivial, rfl, hw.sb⟩
theorem diskSize_spec (F : HP) (d k : Nat) (S : DS) (hk : S.safe.length = k * 256) (h2 : k ≤ 4096) :
    Spec Try.prog 44 [.pointer (some ⟨d, 0, none⟩)] [diskO d S] F (fun _ : Unit => True) (fun _ => .int .i64 k) (fun _ => [diskO d S]) := by
  intro ω w hh
  refine enter Try.func44 rfl Try.ntmps44 rfl hh ?_
  simp only [List.cons_append, List.nil_append, argsB]
  refine St.dk_open fun v1 v2 v3 => ?_
  refine St.vw vw_bytes (.tail .head) (fun A c hv _ _ _ => ?_)
  subst hv
  refine sr ?_
  refine rr (rd_assign rfl) ?_
  refine nx ?_
  refine do_seq ?_
  refine sr ?_
  refine rr (rd_move rfl) ?_
  refine rr (rd_ptr_eq_nil Try.underlying25 rfl rfl) ?_
  refine nx ?_
  refine do_cond_f rfl ?_
  refine do_skip ?_
  refine St.then_n ?_
  refine sr ?_
  refine rr (rd_move rfl) ?_
  refine rr (rd_nilCheck rfl) ?_
  refine rr (rd_fa rfl fld113_0) ?_
  refine rr (rd_ld rfl row44) ?_
  refine rr (rd_len Try.underlying44 rfl) ?_
  refine rr ((rd_quo (by omega) rfl rfl).eq (show _ = Value.int .i64 (k : Int) by rw [Int.tdiv_eq_ediv_of_nonneg (by omega), IntWalk.i64_in _ (by omega)]; congr 1; omega)) ?_
  refine rr (rd_assign rfl) ?_
  refine run_nil ?_
  refine St.kp [(2, _)] ?_
  refine St.then_n ?_
  refine do_ret ?_
  refine do_ret1 Try.results44 (res_tmp rfl) ?_
  intro w hw
  exact ⟨(), trivial, rfl, Holds.dk_shut S _ v2 v3 hw⟩
theorem at_spec (F : HP) (A : Option Addr) (n c i : Nat) (h : i * 256 + 256 ≤ c) (hi : i ≤ 4096) :
    Spec Try.prog 54 [.slice A n c, .int .i64 i] [] F (fun _ : Unit => True) (fun _ => .slice (subA A (i * 256 + 256) (i * 256) 1) 256 256) (fun _ => []) := by
  intro ω w hh
  refine enter Try.func54 rfl Try.ntmps54 rfl hh ?_
  simp only [List.nil_append, argsB]
  have hd : i * 256 + 256 - i * 256 = 256 := Nat.add_sub_cancel_left ..
  have hij : i * 256 ≤ i * 256 + 256 := Nat.le_add_right ..
  refine sr ?_
  refine rr (rd_assign rfl) ?_
  refine nx ?_
  refine sr ?_
  refine rr (rd_move rfl) ?_
  refine rr (rd_move rfl) ?_
  refine rr ((rd_muli rfl rfl).eq (show _ = Value.int .i64 ((i * 256 : Nat) : Int) by simp)) ?_
  refine rr (rd_move rfl) ?_
  refine rr (rd_addi rfl rfl) ?_
  refine rr ((rd_muli rfl rfl).eq (show _ = Value.int .i64 ((i * 256 + 256 : Nat) : Int) from congrArg _ (i256_int i))) ?_
  refine rr (rd_move rfl) ?_
  refine rr (rd_addi rfl rfl) ?_
  refine rr ((rd_muli rfl rfl).eq (show _ = Value.int .i64 ((i * 256 + 256 : Nat) : Int) from congrArg _ (i256_int i))) ?_
  refine rr ((rd_slice3' (i := i * 256) (j := i * 256 + 256) Try.underlying44 ei5 rfl rfl rfl rfl hij h).eq (show _ = Value.slice (subA A (i * 256 + 256) (i * 256) 1) 256 256 by rw [hd])) ?_
  refine rr (rd_assign rfl) ?_
  refine run_nil ?_
  refine St.kp [(4, _)] ?_
  refine St.then_n ?_
  refine do_ret ?_
  refine do_ret1 Try.results54 (res_tmp rfl) ?_
  intro w hw
  exact ⟨(), trivial, rfl, hw.sb⟩
theorem wrong_spec (F : HP) (d k i : Nat) (S : DS) (hk : S.safe.length = k * 256) (h2 : k ≤ 4096) (hi : i < k) :
    Spec Try.prog 53 [.pointer (some ⟨d, 0, none⟩), .int .i64 i] [diskO d S] F (fun _ : Unit => True) (fun _ => .int .i64 0) (fun _ => [diskO d S]) := by
  intro ω w hh
  refine enter Try.func53 rfl Try.ntmps53 rfl hh ?_
  simp only [List.cons_append, List.nil_append, argsB]
  refine sr ?_
  refine rr (rd_assign rfl) ?_
  refine nx ?_
  refine do_seq ?_
  refine do_block ?_
  refine sr ?_
  refine rr (rd_move rfl) ?_
  refine rr (rd_ptr_eq_nil Try.underlying25 rfl rfl) ?_
  refine rr (rd_assign rfl) ?_
  refine nx ?_
  refine do_cond_f rfl ?_
  refine sr ?_
  refine rr (rd_move rfl) ?_
  refine rr ((rd_lt rfl rfl).eq (show _ = Value.bool false by simp)) ?_
  refine rr (rd_move rfl) ?_
  first | refine sk ?_ | (refine rr (rd_move rfl) ?_)
  first | refine sk ?_ | (refine rr (rd_move rfl) ?_)
  first
    | refine sk ?_
    | (refine rc (hs := diskSize_spec _ d k S hk h2) (k := ?_)
       rintro ⟨⟩ -
       try simp only [List.cons_append, List.nil_append])
  first | refine sk ?_ | (refine rr ((rd_ge rfl rfl).eq (show _ = Value.bool false by simp; omega)) ?_)
  refine rr (rd_pick rfl rfl) ?_
  refine rr (rd_assign rfl) ?_
  refine run_nil ?_
  refine St.kp [(8, _)] ?_
  refine St.then_n ?_
  refine do_cond_f rfl ?_
  refine do_skip ?_
  refine St.blk_n ?_
  refine St.then_n ?_
  refine sr ?_
  refine rr (rd_assign rfl) ?_
  refine nx ?_
  refine do_ret ?_
  refine do_ret1 Try.results53 (res_tmp rfl) ?_
  intro w hw
  exact ⟨(), trivial, rfl, hw.sb⟩
/-- Sector i of bytes. -/
def sec (b : List UInt8) (i : Nat) : List UInt8 := (b.drop (i * 256)).take 256
def setB (b : List UInt8) (i : Nat) (p : List UInt8) : List UInt8 := b.take (i * 256) ++ p ++ b.drop (i * 256 + p.length)
theorem setB_len {b p : List UInt8} {i : Nat} (h : i * 256 + p.length ≤ b.length) : (setB b i p).length = b.length := by
  simp only [setB, List.length_append, List.length_take, List.length_drop]; omega
theorem sec_len {b : List UInt8} {i : Nat} (h : i * 256 + 256 ≤ b.length) : (sec b i).length = 256 := by
  simp only [sec, List.length_take, List.length_drop]; omega
theorem sec_setB_same {b p : List UInt8} {i : Nat} (hp : p.length = 256) (h : i * 256 ≤ b.length) : sec (setB b i p) i = p := by
  unfold sec setB
  rw [List.append_assoc, List.drop_left' (by rw [List.length_take]; omega), List.take_left' hp]
set_option maxRecDepth 100000 in
theorem sec_setB_other {b p : List UInt8} {i j : Nat} (hp : p.length = 256) (h : i * 256 + 256 ≤ b.length) (hj : j ≠ i) : sec (setB b i p) j = sec b j := by
  unfold sec setB
  rw [hp]
  have hl : (b.take (i * 256)).length = i * 256 := by rw [List.length_take]; omega
  rcases Nat.lt_or_gt_of_ne hj with h1 | h1
  · have h2 := i256 h1
    rw [List.append_assoc, List.drop_append_of_le_length (by omega), List.take_append_of_le_length (by rw [List.length_drop]; omega), List.drop_take, List.take_take, Nat.min_eq_left (by omega)]
  · have h2 := i256 h1
    obtain ⟨q, hq⟩ := Nat.exists_eq_add_of_le h2
    rw [hq, ← List.drop_drop (i := q), ← List.drop_drop (i := q), List.drop_left' (by rw [List.length_append, hl, hp])]
theorem subA_some {g c l : Nat} (h : c ≠ l) : subA (some ⟨g, 0, none⟩) c l 1 = some ⟨g, l, none⟩ := by
  unfold subA; rw [if_neg h, Option.map_some, addr_add, Nat.mul_one, Nat.zero_add]
theorem vw_at {X : HP} {A : Option Addr} {c i : Nat} {bs : List UInt8} (h : VwB X (.slice A bs.length c) bs) (hi : i * 256 + 256 ≤ bs.length) (hc : bs.length ≤ c) : VwB X (.slice (subA A (i * 256 + 256) (i * 256) 1) 256 256) (sec bs i) := by
  have h1 := Vw.clip (Vw.sub (k := 1) h (i := i * 256) (j := i * 256 + 256) (by decide) (Nat.le_add_right _ _) hi)
  have e : subA A c (i * 256) 1 = subA A (i * 256 + 256) (i * 256) 1 := by
    unfold subA; rw [if_neg (by omega), if_neg (by omega)]
  rw [e, Nat.add_sub_cancel_left, Nat.mul_one, Nat.mul_one] at h1
  unfold VwB
  rw [sec_len hi]
  unfold sec
  rw [List.map_take, List.map_drop]
  exact h1
set_option maxRecDepth 100000 in
theorem diskRead_spec (F : HP) (d k i : Nat) (S : DS) (hk : S.safe.length = k * 256) (hn : S.now.length = k * 256) (h2 : k ≤ 4096) (hi : i < k) :
    Spec Try.prog 66 [.pointer (some ⟨d, 0, none⟩), .int .i64 i] [diskO d S] F (fun _ : Value => True) (fun v => .tuple #[v, .int .i64 0]) (fun v => [bytesO v (sec S.now i), diskO d S]) := by
  intro ω w hh
  refine enter Try.func66 rfl Try.ntmps66 rfl hh ?_
  simp only [List.cons_append, List.nil_append, argsB]
  have hi3 := i256 hi
  refine sr ?_
  refine rr (rd_assign rfl) ?_
  refine rr (rd_assign rfl) ?_
  refine nx ?_
  refine do_seq ?_
  refine sr ?_
  refine rr (rd_move rfl) ?_
  refine rr (rd_move rfl) ?_
  refine rc (hs := wrong_spec _ d k i S hk h2 hi) (k := ?_)
  rintro ⟨⟩ -
  try simp only [List.cons_append, List.nil_append]
  refine rr (rd_assign rfl) ?_
  refine run_nil ?_
  refine St.kp [(0, _), (1, _), (6, _)] ?_
  refine St.then_n ?_
  refine sr ?_
  refine rr (rd_move rfl) ?_
  refine rr ((rd_ne rfl rfl).eq (show _ = Value.bool false by simp)) ?_
  refine nx ?_
  refine do_cond_f rfl ?_
  refine do_skip ?_
  refine St.then_n ?_
  refine sr ?_
  refine St.dk_open fun v1 v2 v3 => ?_
  refine St.vw vw_bytes (.tail (.tail .head)) (fun A c hv hc hm _ => ?_)
  subst hv
  simp only [maxLen] at hm
  refine rr (rd_move rfl) ?_
  refine rr (rd_nilCheck rfl) ?_
  refine rr (rd_fa rfl fld113_1) ?_
  refine rr (rd_ld rfl row44) ?_
  refine rr (rd_move rfl) ?_
  refine rc (hs := at_spec _ A S.now.length c i (Nat.le_trans hi3 (hn ▸ hc)) (by omega)) (k := ?_)
  rintro ⟨⟩ -
  try simp only [List.cons_append, List.nil_append]
  refine rc (hs := cloneB_spec _ _ (sec S.now i) (Vw.sep (vw_at vw_bytes (hn ▸ hi3) hc) (by repeat (first | with_reducible exact Sel.head | apply Sel.tail))) (by rw [sec_len (hn ▸ hi3)]; exact Nat.le_of_ble_eq_true rfl)) (k := ?_)
  rintro v' -
  try simp only [List.cons_append, List.nil_append]
  refine rr (rd_assign rfl) ?_
  refine rr (rd_assign rfl) ?_
  refine run_nil ?_
  refine St.kp [(4, _), (5, _)] ?_
  refine St.then_n ?_
  refine do_ret ?_
  refine do_ret2 Try.results66 (res_tmp rfl) (res_tmp rfl) ?_
  intro w hw
  exact ⟨v', trivial, rfl, Holds.swap_ (Holds.dk_shut S v1 _ v3 hw)⟩
theorem chC_set {i : Nat} {b : List UInt8} (h : b.length ≤ 256) : setL (chC (i, [])) 1 (b.map bcell) = chC (i, b) := by
  unfold chC setL
  rw [List.take_succ_cons, List.take_zero, List.singleton_append, Nat.add_comm 1, List.drop_succ_cons, List.length_map, List.cons_append]
  congr 1
  unfold pad6
  rw [List.nil_append, List.take_of_length_le (by rw [List.length_replicate]; exact Nat.le_refl _), ← List.map_drop, List.drop_replicate, ← List.map_append, List.take_append, List.take_of_length_le h, List.take_replicate, Nat.min_eq_left (Nat.sub_le _ _)]
theorem setB_cells {b p : List UInt8} {i : Nat} {tail : List Value} (hp : p.length = 256) (h : i * 256 + 256 ≤ b.length) : setL (b.map bcell ++ tail) (i * 256) (p.map bcell) = (setB b i p).map bcell ++ tail := by
  unfold setL setB
  rw [List.length_map, hp, List.take_append_of_le_length (by rw [List.length_map]; exact Nat.le_trans (Nat.le_add_right _ _) h), List.drop_append_of_le_length (by rw [List.length_map]; exact h), ← List.map_take, ← List.map_drop, List.map_append, List.map_append]
  simp only [List.append_assoc]
set_option maxRecDepth 100000 in
set_option maxHeartbeats 1000000 in
theorem diskWrite_spec (F : HP) (d k i : Nat) (safe now : List UInt8) (l : List (Nat × List UInt8)) (fl : Bool) (v : Value) (b : List UInt8) (hF : VwB F v b) (hb : b.length ≤ 256) (hk : safe.length = k * 256) (hn : now.length = k * 256) (h2 : k ≤ 4096) (hi : i < k) (hl : l.length ≤ 1073741824) :
    Spec Try.prog 31 [.pointer (some ⟨d, 0, none⟩), .int .i64 i, v] [diskO d ⟨safe, now, l, fl, false, false⟩] F (fun _ : Unit => True) (fun _ => .int .i64 0) (fun _ => [diskO d ⟨safe, setB now i (pad6 b), l ++ [(i, b)], fl, false, false⟩]) := by
  intro ω w hh
  refine enter Try.func31 rfl Try.ntmps31 rfl hh ?_
  simp only [List.cons_append, List.nil_append, argsB]
  have hi3 := i256 hi
  have hnl : 0 < now.length := by omega
  refine St.vw hF (.tail .head) (fun A c hv _ _ _ => ?_)
  subst hv
  refine St.dk_open fun v1 v2 v3 => ?_
  dsimp only
  refine sr ?_
  refine rr (rd_assign rfl) ?_
  refine nx ?_
  refine do_seq ?_
  refine sr ?_
  refine rr (rd_move rfl) ?_
  refine rr (rd_ptr_ne_nil Try.underlying25 rfl rfl) ?_
  refine rr (rd_move rfl) ?_
  first | refine sk ?_ | (refine rr (rd_move rfl) ?_)
  first | refine sk ?_ | (refine rr (rd_nilCheck rfl) ?_)
  first | refine sk ?_ | (refine rr (rd_fa rfl fld113_5) ?_)
  first | refine sk ?_ | (refine rr (rd_ld rfl row4) ?_)
  refine rr (rd_pick rfl rfl) ?_
  refine run_nil ?_
  refine St.kp [(0, _), (1, _), (2, _), (16, _)] ?_
  refine St.then_n ?_
  refine do_cond_f rfl ?_
  refine do_skip ?_
  refine St.then_n ?_
  refine sr ?_
  refine St.dk_shut ⟨safe, now, l, fl, false, false⟩ v1 v2 v3 ?_
  refine rr (rd_move rfl) ?_
  refine rr (rd_move rfl) ?_
  refine rc (hs := wrong_spec _ d k i ⟨safe, now, l, fl, false, false⟩ hk h2 hi) (k := ?_)
  rintro ⟨⟩ -
  try simp only [List.cons_append, List.nil_append]
  refine rr (rd_assign rfl) ?_
  refine run_nil ?_
  refine St.kp [(0, _), (1, _), (2, _), (7, _)] ?_
  refine St.then_n ?_
  refine do_seq ?_
  refine do_block ?_
  refine sr ?_
  refine rr (rd_move rfl) ?_
  refine rr ((rd_ne rfl rfl).eq (show _ = Value.bool false by simp)) ?_
  refine rr (rd_assign rfl) ?_
  refine nx ?_
  refine do_cond_f rfl ?_
  refine sr ?_
  refine rr (rd_move rfl) ?_
  refine rr (rd_len Try.underlying44 rfl) ?_
  refine rr ((rd_gt rfl rfl).eq (show _ = Value.bool false from congrArg _ (decide_eq_false (by omega)))) ?_
  refine rr (rd_assign rfl) ?_
  refine run_nil ?_
  refine St.kp [(0, _), (1, _), (2, _), (24, _)] ?_
  refine St.then_n ?_
  refine do_cond_f rfl ?_
  refine sr ?_
  refine St.dk_open fun v1 v2 v3 => ?_
  dsimp only
  refine rr (rd_move rfl) ?_
  refine rr (rd_nilCheck rfl) ?_
  refine rr (rd_fa rfl fld113_4) ?_
  refine rr (rd_ld rfl row4) ?_
  refine rr (rd_assign rfl) ?_
  refine run_nil ?_
  refine St.kp [(0, _), (1, _), (2, _), (28, _)] ?_
  refine St.then_n ?_
  refine do_cond_f rfl ?_
  refine do_skip ?_
  refine St.blk_n ?_
  refine St.then_n ?_
  refine sr ?_
  refine rr (rd_move rfl) ?_
  refine rr (rd_buildM (l := [(0, Operand.tmp 33)]) (us := [.int .i64 i]) (vs := chC (i, [])) zero117 plc117 rfl (by kernel_rfl)) ?_
  refine r_al zero117 fun b8 => ?_
  refine r_sa row117 (vs := chC (i, [])) ?_ (hk := chC_len _) (h1 := chC_one _) (hle := by rfl)
  refine nx ?_
  refine sr ?_
  refine rr (rd_fa rfl fld117_1) ?_
  refine rr (rd_arr Try.underlying115 ei5 rfl) ?_
  refine rr (rd_move rfl) ?_
  refine r_cp (g := b8) (off := 1) (dl := 256) (cs := chC (i, [])) (cs' := chC (i, b)) (k := 1) b.length (b.map bcell) Try.underlying44 ei5 (cp_all hF (by repeat (first | with_reducible exact Sel.head | apply Sel.tail)) hb (by rw [List.length_map, Nat.mul_one])) (by rw [List.length_map, Nat.mul_one]) (by rw [List.length_map, chC_len]; omega) (bcells_all b) (chC_set hb) ?_
  refine run_nil ?_
  refine St.kp [(0, _), (1, _), (8, _)] ?_
  refine St.then_n ?_
  refine do_seq ?_
  refine do_draw [[8, 9, 10], [2, 3, 4, 7, 8, 9, 10], [3, 4, 7, 8, 9, 10], [4, 7, 8, 9, 10], [7, 8, 9, 10], [6, 7, 8, 9, 10], [7, 8, 9, 10], [8, 9, 10], [9, 10], [10], []] (by kernel_rfl) rfl ?_
  refine ta 0 rfl (rd_move rfl) ?_
  refine ta 1 rfl (rd_move rfl) ?_
  refine ta 2 rfl (rd_nilCheck rfl) ?_
  refine ta 3 rfl (rd_fa rfl fld113_2) ?_
  refine ta 4 rfl (rd_ld rfl row111) ?_
  refine ta 5 rfl (rd_load_row rfl row117 (chC_len (i, b)) (cells_pts (by repeat (first | with_reducible exact Sel.head | apply Sel.tail)) (by rw [List.drop_zero, List.take_length]))) ?_
  refine tr 6 ?_
  refine r_bs1 (f := chC) (i, b) (chC_len _) Try.underlying111 ei117 (by decide) (fun b45 => ?_)
  refine nx ?_
  refine any_next (by apply bd 5; apply bk 4 rfl (rd_ld rfl row111); apply bk 3 rfl (rd_fa rfl fld113_2); apply bk 2 rfl (rd_nilCheck rfl); apply bk 1 rfl (rd_move rfl); apply bk 0 rfl (rd_move rfl); exact .nil) ?_
  refine tr 7 ?_
  refine r_apQ (f := chC) (L := l) (M := [(i, b)]) (n := l.length) chC_len chC_one Try.underlying111 ei117 (X := ownQ chC 117 257 (.slice (some ⟨b45, 0, none⟩) 1 1) 1 [(i, b)]) vw_Q rfl (by omega) (by omega) (by omega) (fun v4 _ => ?_)
  refine St.vw vw_Q .head (fun A4 c4 hv4 _ _ _ => ?_)
  subst hv4
  refine nx ?_
  refine any_next (by apply bd 4; apply bd 3; apply bd 2; apply bd 1; apply bk 0 rfl (rd_move rfl); exact .nil) ?_
  refine ta 8 rfl (rd_nilCheck rfl) ?_
  refine ta 9 rfl (rd_fa rfl fld113_2) ?_
  refine tr 10 ?_
  refine r_st row111 ?_
  refine nx ?_
  refine any_next (by apply bd 9; apply bd 8; apply bd 0; exact .nil) ?_
  refine any_nil (by kernel_rfl) ?_
  refine St.sl (P := bytesO v2 now) (St.own_open (fun _ h0 _ => absurd h0 (Nat.ne_of_gt hnl)) fun g c2 tail hv2 hc hm hl1 hl2 => ?_)
  subst hv2
  have hne : i * 256 + 256 ≠ i * 256 := Nat.ne_of_gt (Nat.lt_add_of_pos_right (by decide))
  refine St.kp [(0, _), (1, _), (8, _)] ?_
  refine St.then_n ?_
  refine do_seq ?_
  refine do_draw [[1, 2, 3, 5, 8], [2, 3, 5, 8], [3, 5, 8], [5, 8], [5, 8], [8], [7, 8], [8], []] (by kernel_rfl) rfl ?_
  refine ta 0 rfl (rd_move rfl) ?_
  refine ta 1 rfl (rd_nilCheck rfl) ?_
  refine ta 2 rfl (rd_fa rfl fld113_1) ?_
  refine ta 3 rfl (rd_ld rfl row44) ?_
  refine ta 4 rfl (rd_move rfl) ?_
  refine ta 6 rfl (rd_fa rfl fld117_1) ?_
  refine ta 7 rfl (rd_arr Try.underlying115 ei5 rfl) ?_
  refine tr 5 ?_
  refine rc (hs := at_spec _ (some ⟨g, 0, none⟩) now.length c2 i (Nat.le_trans hi3 (hn ▸ hc)) (by omega)) (k := ?_)
  rintro ⟨⟩ -
  rw [subA_some hne]
  try simp only [List.cons_append, List.nil_append]
  refine nx ?_
  refine any_next (by apply bk 7 rfl (rd_arr Try.underlying115 ei5 rfl); apply bk 6 rfl (rd_fa rfl fld117_1); apply bd 4; apply bd 3; apply bd 2; apply bd 1; apply bd 0; exact .nil) ?_
  refine tr 8 ?_
  refine r_cp (g := g) (off := i * 256) (dl := 256) (cs := now.map bcell ++ tail) (cs' := (setB now i (pad6 b)).map bcell ++ tail) (k := 1) 256 ((pad6 b).map bcell) Try.underlying44 ei5 (cp_all (X := pts b8 117 (chC (i, b))) (vw_pts (Nat.le_refl _) (by decide) (by rw [List.length_map, pad6_len]) (by rw [List.length_map, pad6_len]; unfold chC; rw [List.drop_succ_cons, List.drop_zero, List.take_of_length_le (by rw [List.length_map, pad6_len]; exact Nat.le_refl _)])) (by repeat (first | with_reducible exact Sel.head | apply Sel.tail)) (Nat.le_refl _) (by rw [List.length_map, pad6_len])) (by rw [List.length_map, pad6_len]) (by rw [List.length_map, pad6_len, List.length_append, List.length_map]; exact Nat.le_trans (hn ▸ hi3) (Nat.le_add_right _ _)) (bcells_all _) (setB_cells (pad6_len b) (hn ▸ hi3)) ?_
  refine nx ?_
  refine any_next (by apply bd 7; apply bd 6; exact .nil) ?_
  refine any_nil (by kernel_rfl) ?_
  refine St.kp [] ?_
  refine St.then_n ?_
  refine sr ?_
  refine rr (rd_assign rfl) ?_
  refine nx ?_
  refine do_ret ?_
  refine do_ret1 Try.results31 (res_tmp rfl) ?_
  intro w hw
  have hsl : (setB now i (pad6 b)).length = now.length := setB_len (by rw [pad6_len]; exact hn ▸ hi3)
  refine ⟨(), trivial, rfl, Holds.sb (Holds.dk_shut (S := ⟨safe, setB now i (pad6 b), l ++ [(i, b)], fl, false, false⟩) v1 (.slice (some ⟨g, 0, none⟩) now.length c2) (.slice A4 (l.length + 1) c4) (Γ := bytesO (.slice (some ⟨g, 0, none⟩) now.length c2) (setB now i (pad6 b)) :: _) (Holds.ent (P := pts g 5 ((setB now i (pad6 b)).map bcell ++ tail)) (fun h hp => ?_) hw) (by simp only [List.length_append, List.length_cons, List.length_nil, Nat.zero_add]; exact (by repeat (first | exact Pick.nil | apply Pick.cons (by repeat (first | with_reducible exact Sel.head | apply Sel.tail))))))⟩
  have := pts_own' hc hm (T := 5) (k := 1) (tail := tail) (cs := (setB now i (pad6 b)).map bcell) (by rw [List.length_append, List.length_map, hsl]; rwa [List.length_append, List.length_map] at hl1) (by rw [List.length_map, hsl, Nat.mul_one]) h hp
  unfold bytesO
  rwa [hsl]
theorem diskWrite_spec' (F : HP) (d k i : Nat) (S : DS) (v : Value) (b : List UInt8) (hfu : S.fu = false) (hde : S.de = false) (hF : VwB F v b) (hb : b.length = 256) (hk : S.safe.length = k * 256) (hn : S.now.length = k * 256) (h2 : k ≤ 4096) (hi : i < k) (hl : S.l.length ≤ 1073741824) :
    Spec Try.prog 31 [.pointer (some ⟨d, 0, none⟩), .int .i64 i, v] [diskO d S] F (fun _ : Unit => True) (fun _ => .int .i64 0) (fun _ => [diskO d { S with now := setB S.now i b, l := S.l ++ [(i, b)] }]) := by
  obtain ⟨safe, now, l, fl, fu, de⟩ := S
  dsimp only at hfu hde
  subst hfu hde
  have := diskWrite_spec F d k i safe now l fl v b hF (Nat.le_of_eq hb) hk hn h2 hi hl
  rwa [pad6_same hb] at this
end Go.Proofs.Ytgeldfgcicjidaa
