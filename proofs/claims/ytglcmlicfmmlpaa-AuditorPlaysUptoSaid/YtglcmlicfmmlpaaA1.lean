/-
  Rows in the order of their names, kept in the order in which they came: by insertion, by merging; the same comes of it.
  Slices of one's own, element by element; ranges of rows swapped, rotated.
  Rows in the order of their names: the library's insertion sort, its merging in place, its stable sort.
-/
import Derived.Lib.Bytealg
import Derived.Test.YtglcmlicfmmlpaaC4
import Derived.Test.YtglcmlicfmmlpaaS13
import Derived.Laws.Externs
namespace Go.Proofs.Ytglcmlicfmmlpaa
open Go.RowKit
set_option linter.unusedSimpArgs false
set_option linter.unusedVariables false

/-- What comparing two texts tells. -/
abbrev cmpB (a b : List UInt8) : Int := Go.Lib.compareBytes a b
theorem cmpB_cons (a b : UInt8) (l m : List UInt8) : cmpB (a :: l) (b :: m) = if a < b then -1 else if b < a then 1 else cmpB l m := by simp [cmpB, Go.Lib.compareBytes]
theorem cmpB_trans : ∀ a b c : List UInt8, cmpB a b < 0 → cmpB b c < 0 → cmpB a c < 0
  | [], _, [], h1, h2 => by
    rename_i b
    cases b with
    | nil => exact h1
    | cons y b => simp [cmpB, Go.Lib.compareBytes] at h2
  | [], _, _ :: _, _, _ => by simp [cmpB, Go.Lib.compareBytes]
  | _ :: _, [], _, h1, _ => by simp [cmpB, Go.Lib.compareBytes] at h1
  | _ :: _, _ :: _, [], _, h2 => by simp [cmpB, Go.Lib.compareBytes] at h2
  | x :: a, y :: b, z :: c, h1, h2 => by
    rw [cmpB_cons] at h1 h2 ⊢
    have ih := cmpB_trans a b c
    simp only [UInt8.lt_iff_toNat_lt] at *
    repeat' split at h1
    all_goals (repeat' split at h2)
    all_goals (repeat' split)
    all_goals first
      | omega
      | exact ih h1 h2
theorem cmpB_swap : ∀ a b : List UInt8, cmpB a b = - cmpB b a
  | [], [] => rfl
  | [], _ :: _ => by simp [cmpB, Go.Lib.compareBytes]
  | _ :: _, [] => by simp [cmpB, Go.Lib.compareBytes]
  | x :: a, y :: b => by
    rw [cmpB_cons, cmpB_cons]
    have ih := cmpB_swap a b
    simp only [UInt8.lt_iff_toNat_lt]
    repeat' split
    all_goals omega
theorem cmpB_eq : ∀ a b : List UInt8, cmpB a b = 0 → a = b
  | [], [], _ => rfl
  | [], _ :: _, h => by simp [cmpB, Go.Lib.compareBytes] at h
  | _ :: _, [], h => by simp [cmpB, Go.Lib.compareBytes] at h
  | x :: a, y :: b, h => by
    rw [cmpB_cons] at h
    have ih := cmpB_eq a b
    simp only [UInt8.lt_iff_toNat_lt] at h
    split at h
    · omega
    · split at h
      · omega
      · rw [ih h, show x = y from UInt8.toNat_inj.1 (by omega)]
theorem cmpB_self (a : List UInt8) : cmpB a a = 0 := by have := cmpB_swap a a; omega
/-- a lies ahead of b. -/
def lt (a b : GRow) : Prop := cmpB a.name b.name < 0
instance (a b : GRow) : Decidable (lt a b) := by unfold lt; exact inferInstance
theorem lt_trans {a b c : GRow} (h1 : lt a b) (h2 : lt b c) : lt a c := cmpB_trans _ _ _ h1 h2
theorem nlt_trans {a b c : GRow} (h1 : ¬ lt b a) (h2 : ¬ lt c b) : ¬ lt c a := by
  unfold lt at *
  intro h3
  by_cases h4 : cmpB b.name a.name = 0
  · rw [cmpB_eq _ _ h4] at h2; exact h2 h3
  · have h5 : cmpB a.name b.name < 0 := by have := cmpB_swap a.name b.name; omega
    exact h2 (cmpB_trans _ _ _ h3 h5)
/-- Put in behind all that do not lie behind it. -/
def ins (x : GRow) : List GRow → List GRow
  | [] => [x]
  | y :: l => if lt x y then x :: y :: l else y :: ins x l
def insAll (u : List GRow) (L : List GRow) : List GRow := L.foldl (fun u x => ins x u) u
def isort (L : List GRow) : List GRow := insAll [] L
def mrg : List GRow → List GRow → List GRow
  | [], v => v
  | x :: u, [] => x :: u
  | x :: u, y :: v => if lt y x then y :: mrg (x :: u) v else x :: mrg u (y :: v)
termination_by u v => u.length + v.length
theorem mrg_nil_right (u : List GRow) : mrg u [] = u := by cases u <;> simp [mrg]
theorem mrg_cons (x y : GRow) (u v : List GRow) : mrg (x :: u) (y :: v) = if lt y x then y :: mrg (x :: u) v else x :: mrg u (y :: v) := by rw [mrg]
theorem mrg_ins (x : GRow) : ∀ u w : List GRow, mrg u (ins x w) = ins x (mrg u w)
  | [], w => by simp [mrg]
  | a :: u, [] => by
    rw [mrg_nil_right, ins, mrg_cons, ins]
    split
    · rw [mrg_nil_right]
    · have := mrg_ins x u []
      rw [ins, mrg_nil_right] at this
      rw [this]
  | a :: u, b :: w => by
    have ih1 := mrg_ins x u (b :: w)
    have ih2 := mrg_ins x (a :: u) w
    rw [mrg_cons a b u w]
    by_cases h : lt x b
    · have e : ins x (b :: w) = x :: b :: w := by rw [ins, if_pos h]
      rw [e] at ih1 ⊢
      rw [mrg_cons]
      by_cases h2 : lt b a
      · rw [if_pos h2, if_pos (lt_trans h h2), mrg_cons, if_pos h2, ins, if_pos h]
      · rw [if_neg h2, ins]
        split
        · rw [mrg_cons, if_neg h2]
        · rw [ih1]
    · have e : ins x (b :: w) = b :: ins x w := by rw [ins, if_neg h]
      rw [e] at ih1 ⊢
      rw [mrg_cons]
      by_cases h2 : lt b a
      · rw [if_pos h2, if_pos h2, ins, if_neg h, ih2]
      · rw [if_neg h2, if_neg h2, ins, if_neg (nlt_trans h2 h), ih1]
termination_by u w => u.length + w.length
theorem mrg_insAll (u L w : List GRow) : mrg u (insAll w L) = insAll (mrg u w) L := by
  induction L generalizing w with
  | nil => rfl
  | cons x L ih =>
    show mrg u (insAll (ins x w) L) = insAll (ins x (mrg u w)) L
    rw [ih, mrg_ins]
theorem isort_append (A B : List GRow) : mrg (isort A) (isort B) = isort (A ++ B) := by
  unfold isort
  rw [mrg_insAll, mrg_nil_right]
  unfold insAll
  rw [List.foldl_append]
theorem ins_len (x : GRow) : ∀ l, (ins x l).length = l.length + 1
  | [] => rfl
  | y :: l => by
    unfold ins
    split
    · rfl
    · rw [List.length_cons, ins_len x l]; rfl
theorem insAll_len : ∀ (L u : List GRow), (insAll u L).length = u.length + L.length
  | [], u => rfl
  | x :: L, u => by
    show (insAll (ins x u) L).length = _
    rw [insAll_len L, ins_len, List.length_cons]; omega
theorem isort_len (L : List GRow) : (isort L).length = L.length := by unfold isort; rw [insAll_len]; simp
theorem mrg_len : ∀ u v : List GRow, (mrg u v).length = u.length + v.length
  | [], v => by simp [mrg]
  | x :: u, [] => by simp [mrg]
  | x :: u, y :: v => by
    rw [mrg_cons]
    split
    · rw [List.length_cons, mrg_len (x :: u) v, List.length_cons]; simp only [List.length_cons]; omega
    · rw [List.length_cons, mrg_len u (y :: v), List.length_cons]; simp only [List.length_cons]; omega
termination_by u v => u.length + v.length
/-- In order. -/
def Srt (l : List GRow) : Prop := l.Pairwise fun a b => ¬ lt b a
theorem ins_mem {x z : GRow} : ∀ {l : List GRow}, z ∈ ins x l → z = x ∨ z ∈ l
  | [], h => by simp [ins] at h; exact .inl h
  | y :: l, h => by
    unfold ins at h
    split at h
    · rcases List.mem_cons.1 h with h | h
      · exact .inl h
      · exact .inr h
    · rcases List.mem_cons.1 h with h | h
      · exact .inr (by rw [h]; exact List.mem_cons_self ..)
      · rcases ins_mem h with h | h
        · exact .inl h
        · exact .inr (List.mem_cons_of_mem _ h)
theorem ins_srt (x : GRow) : ∀ {l : List GRow}, Srt l → Srt (ins x l)
  | [], _ => by simp [ins, Srt]
  | y :: l, h => by
    unfold Srt at h
    rw [List.pairwise_cons] at h
    unfold ins
    split
    · rename_i hx
      have hxy : ¬ lt y x := fun h2 => by have := lt_trans hx h2; unfold lt at this; rw [cmpB_self] at this; omega
      refine List.Pairwise.cons (fun z hz => ?_) (List.Pairwise.cons h.1 h.2)
      rcases List.mem_cons.1 hz with rfl | hz
      · exact hxy
      · exact nlt_trans hxy (h.1 z hz)
    · rename_i hx
      refine List.Pairwise.cons (fun z hz => ?_) (ins_srt x h.2)
      rcases ins_mem hz with rfl | hz
      · exact hx
      · exact h.1 z hz
theorem insAll_srt : ∀ (L : List GRow) {u : List GRow}, Srt u → Srt (insAll u L)
  | [], _, h => h
  | x :: L, _, h => insAll_srt L (ins_srt x h)
theorem isort_srt (L : List GRow) : Srt (isort L) := insAll_srt L (by simp [Srt])
/-- Merging in two parts. -/
theorem mrg_split : ∀ (u1 u2 v1 v2 : List GRow), (∀ x ∈ u1, ∀ y ∈ v2, ¬ lt y x) → (∀ y ∈ v1, ∀ x ∈ u2, lt y x) → mrg (u1 ++ u2) (v1 ++ v2) = mrg u1 v1 ++ mrg u2 v2
  | [], u2, [], v2, _, _ => by simp [mrg]
  | [], [], y :: v1, v2, _, _ => by simp [mrg]
  | [], x :: u2, y :: v1, v2, h1, h2 => by
    have ih := mrg_split [] (x :: u2) v1 v2 h1 (fun y hy => h2 y (List.mem_cons_of_mem _ hy))
    simp only [List.nil_append, List.cons_append, mrg] at ih ⊢
    rw [if_pos (h2 y (List.mem_cons_self ..) x (List.mem_cons_self ..)), ih]
  | x :: u1, u2, [], [], h1, h2 => by simp [mrg_nil_right]
  | x :: u1, u2, [], y :: v2, h1, h2 => by
    have ih := mrg_split u1 u2 [] (y :: v2) (fun x hx => h1 x (List.mem_cons_of_mem _ hx)) h2
    rw [List.nil_append] at ih ⊢
    rw [List.cons_append, mrg_cons, if_neg (h1 x (List.mem_cons_self ..) y (List.mem_cons_self ..)), ih, mrg_nil_right, mrg_nil_right, List.cons_append]
  | x :: u1, u2, y :: v1, v2, h1, h2 => by
    have ih1 := mrg_split (x :: u1) u2 v1 v2 h1 (fun y hy => h2 y (List.mem_cons_of_mem _ hy))
    have ih2 := mrg_split u1 u2 (y :: v1) v2 (fun x hx => h1 x (List.mem_cons_of_mem _ hx)) h2
    rw [List.cons_append, List.cons_append, mrg_cons, mrg_cons]
    rw [List.cons_append] at ih1 ih2
    split
    · rw [ih1, List.cons_append]
    · rw [ih2, List.cons_append]
termination_by u1 u2 v1 v2 => u1.length + v1.length
theorem Srt.app {u v : List GRow} (h : Srt (u ++ v)) : Srt u ∧ Srt v ∧ ∀ x ∈ u, ∀ y ∈ v, ¬ lt y x := List.pairwise_append.1 h
/-- Sorted by parts of so many. -/
def srtBy (k : Nat) (L : List GRow) : List GRow := if h : 0 < k ∧ 0 < L.length then isort (L.take k) ++ srtBy k (L.drop k) else []
termination_by L.length
decreasing_by simp only [List.length_drop]; omega
theorem srtBy_nil (k : Nat) : srtBy k [] = [] := by rw [srtBy]; simp
theorem srtBy_step {k : Nat} {L : List GRow} (hk : 0 < k) (hL : 0 < L.length) : srtBy k L = isort (L.take k) ++ srtBy k (L.drop k) := by rw [srtBy, dif_pos ⟨hk, hL⟩]
theorem srtBy_one {k : Nat} {L : List GRow} (hk : 0 < k) (hL : L.length ≤ k) : srtBy k L = isort L := by
  by_cases h : 0 < L.length
  · rw [srtBy_step hk h, List.take_of_length_le hL, List.drop_eq_nil_of_le hL, srtBy_nil, List.append_nil]
  · obtain rfl : L = [] := List.eq_nil_of_length_eq_zero (by omega)
    rw [srtBy_nil]; rfl
theorem srtBy_app {k : Nat} (hk : 0 < k) : ∀ (q : Nat) (X Y : List GRow), X.length = q * k → srtBy k (X ++ Y) = srtBy k X ++ srtBy k Y
  | 0, X, Y, h => by
    obtain rfl : X = [] := List.eq_nil_of_length_eq_zero (by omega)
    rw [srtBy_nil]; rfl
  | q + 1, X, Y, h => by
    have h1 : k ≤ X.length := by rw [h, Nat.succ_mul]; omega
    rw [srtBy_step hk (by rw [List.length_append]; omega), srtBy_step hk (L := X) (by omega), List.take_append_of_le_length h1, List.drop_append_of_le_length h1, srtBy_app hk q (X.drop k) Y (by rw [List.length_drop, h, Nat.succ_mul]; omega), List.append_assoc]
theorem srtBy_len {k : Nat} (hk : 0 < k) : ∀ (m : Nat) (L : List GRow), L.length ≤ m → (srtBy k L).length = L.length
  | 0, L, h => by
    obtain rfl : L = [] := List.eq_nil_of_length_eq_zero (by omega)
    rw [srtBy_nil]
  | m + 1, L, h => by
    by_cases h0 : 0 < L.length
    · rw [srtBy_step hk h0, List.length_append, isort_len, srtBy_len hk m _ (by rw [List.length_drop]; omega), List.length_take, List.length_drop]; omega
    · obtain rfl : L = [] := List.eq_nil_of_length_eq_zero (by omega)
      rw [srtBy_nil]
theorem rowC_len (x : GRow) : (rowC x).length = 2 := rfl
theorem rowC_one (x : GRow) : (rowC x).all (·.oneCell') = true := rfl
/-- Rows of one's own. -/
abbrev rq (v : Value) (n : Nat) (L : List GRow) : HP := ownQ rowC 108 2 v n L
def swapAt (a b i j : Nat) : Nat := if a ≤ j ∧ j < a + i then j + (b - a) else if b ≤ j ∧ j < b + i then j - (b - a) else j
theorem swap_lists {p u q w s L' : List GRow} (hu : u.length = w.length) (h : ∀ j, L'[j]? = (p ++ u ++ q ++ w ++ s)[swapAt p.length (p.length + u.length + q.length) u.length j]?) : L' = p ++ w ++ q ++ u ++ s := by
  refine List.ext_getElem? fun j => ?_
  rw [h j]
  unfold swapAt
  simp only [List.getElem?_append, List.length_append]
  repeat' split
  all_goals first
    | omega
    | (congr 1 <;> omega)
theorem swapRange_spec (F : HP) (v fv : Value) (n a b m : Nat) (L : List GRow) (h1 : a + m ≤ b) (h2 : b + m ≤ n) (hn : n ≤ 4611686018427387904) :
    Spec Try.prog 141 [v, .int .i64 a, .int .i64 b, .int .i64 m, fv] [rq v n L] F (fun L' : List GRow => ∀ j, L'[j]? = L[swapAt a b m j]?) (fun _ => .tuple #[]) (fun L' => [rq v n L']) := by
  intro ω w hh
  refine enter Try.func141 rfl Try.ntmps141 rfl hh ?_
  simp only [List.cons_append, List.nil_append, argsB]
  refine St.Q_sl fun A c hv hc hm hL => ?_
  subst hv
  refine sr ?_
  refine rr (rd_assign rfl) ?_
  refine nx ?_
  refine do_block ?_
  refine do_lp (fun x : Nat × List GRow => x.1 ≤ m ∧ x.2.length = n ∧ ∀ j, x.2[j]? = L[swapAt a b x.1 j]?) (fun x => [(0, .slice A n c), (1, .int .i64 a), (2, .int .i64 b), (3, .int .i64 m), (10, .int .i64 x.1)]) (fun x => [rq (.slice A n c) n x.2, F]) (fun x => m - x.1) (0, L) ⟨Nat.zero_le _, hL, fun j => by unfold swapAt; rw [if_neg (by omega), if_neg (by omega)]⟩ ?_
  rintro ⟨i, M⟩ ⟨hi, hM, hj⟩
  dsimp only at hi hM hj ⊢
  refine do_seq ?_
  refine sr ?_
  refine rr (rd_move rfl) ?_
  refine rr (rd_move rfl) ?_
  refine rr (rd_lt rfl rfl) ?_
  refine nx ?_
  first | refine do_condp rfl (fun h13 => ?_) (fun h13 => ?_) | refine do_cond rfl (fun h13 => ?_) (fun h13 => ?_)
  · have hx1 := List.getElem?_eq_getElem (l := M) (i := a + i) (by omega)
    have hx2 := List.getElem?_eq_getElem (l := M) (i := b + i) (by omega)
    generalize M[a + i]'_ = x at hx1
    generalize M[b + i]'_ = y at hx2
    refine St.sl (P := rq (.slice A n c) n M) (St.Q_some (by omega) fun g c1 hg _ _ => ?_)
    cases hg
    refine do_skip ?_
    refine St.then_n ?_
    refine do_seq ?_
    refine do_block ?_
    refine do_draw [[20, 21, 22, 23], [3, 20, 21, 22, 23], [3, 20, 21, 22, 23], [20, 21, 22, 23], [22, 23], [7, 22, 23], [7, 22, 23], [22, 23], [12, 13, 20, 21, 22, 23], [11, 12, 13, 20, 21, 22, 23], [11, 12, 13, 20, 21, 22, 23], [12, 13, 20, 21, 22, 23], [13, 20, 21, 22, 23], [20, 21, 22, 23], [18, 19, 20, 21, 22, 23], [17, 18, 19, 20, 21, 22, 23], [17, 18, 19, 20, 21, 22, 23], [18, 19, 20, 21, 22, 23], [19, 20, 21, 22, 23], [20, 21, 22, 23], [21, 22, 23], [22, 23], [23], []] (by kernel_rfl) rfl ?_
    refine ta 0 rfl (rd_move rfl) ?_
    refine ta 1 rfl (rd_move rfl) ?_
    refine ta 2 rfl (rd_move rfl) ?_
    refine ta 3 rfl (rd_addi rfl rfl) ?_
    refine ta 4 rfl (rd_move rfl) ?_
    refine ta 5 rfl (rd_move rfl) ?_
    refine ta 6 rfl (rd_move rfl) ?_
    refine ta 7 rfl (rd_addi rfl rfl) ?_
    refine ta 8 rfl (rd_move rfl) ?_
    refine ta 9 rfl (rd_move rfl) ?_
    refine ta 10 rfl (rd_move rfl) ?_
    refine ta 11 rfl (rd_addi rfl rfl) ?_
    refine ta 12 rfl ((rd_indexAddr Try.underlying31 ei108 rfl rfl (by omega) (by omega)).eq (show _ = Value.pointer (some ⟨g, 0 + (b + i) * 2, none⟩) by rw [show Int.toNat ((b : Int) + i) = b + i by omega])) ?_
    refine ta 13 rfl (rd_ldr _ rfl row108 (cells_Q rowC_len hx2)) ?_
    refine ta 14 rfl (rd_move rfl) ?_
    refine ta 15 rfl (rd_move rfl) ?_
    refine ta 16 rfl (rd_move rfl) ?_
    refine ta 17 rfl (rd_addi rfl rfl) ?_
    refine ta 18 rfl ((rd_indexAddr Try.underlying31 ei108 rfl rfl (by omega) (by omega)).eq (show _ = Value.pointer (some ⟨g, 0 + (a + i) * 2, none⟩) by rw [show Int.toNat ((a : Int) + i) = a + i by omega])) ?_
    refine ta 19 rfl (rd_ldr _ rfl row108 (cells_Q rowC_len hx1)) ?_
    refine ta 20 rfl ((rd_indexAddr Try.underlying31 ei108 rfl rfl (by omega) (by omega)).eq (show _ = Value.pointer (some ⟨g, 0 + (a + i) * 2, none⟩) by rw [show Int.toNat ((a : Int) + i) = a + i by omega])) ?_
    refine tr 21 ?_
    refine r_stQ (n := n) rowC_len rowC_one y (a + i) row108 (by omega) ?_
    refine nx ?_
    refine any_next (by apply bd 20; apply bd 19; apply bd 18; apply bd 17; apply bd 16; apply bd 15; apply bd 14; apply bd 13; apply bd 12; apply bd 11; apply bd 10; apply bd 9; apply bd 8; apply bk 7 rfl (rd_addi rfl rfl); apply bk 6 rfl (rd_move rfl); apply bk 5 rfl (rd_move rfl); apply bk 4 rfl (rd_move rfl); apply bd 3; apply bd 2; apply bd 1; apply bd 0; exact .nil) ?_
    refine ta 22 rfl ((rd_indexAddr Try.underlying31 ei108 rfl rfl (by omega) (by omega)).eq (show _ = Value.pointer (some ⟨g, 0 + (b + i) * 2, none⟩) by rw [show Int.toNat ((b : Int) + i) = b + i by omega])) ?_
    refine tr 23 ?_
    refine r_stQ (n := n) rowC_len rowC_one x (b + i) row108 (by omega) ?_
    refine nx ?_
    refine any_next (by apply bd 22; apply bd 7; apply bd 6; apply bd 5; apply bd 4; exact .nil) ?_
    refine any_nil (by kernel_rfl) ?_
    refine St.kp [(0, _), (1, _), (2, _), (3, _), (10, _)] ?_
    refine St.blk_n ?_
    refine St.then_n ?_
    refine do_region ?_
    refine rr (rd_move rfl) ?_
    refine rr (rd_addi rfl rfl) ?_
    refine rr (rd_assign rfl) ?_
    refine nx ?_
    refine loop_bk (i + 1, (M.set (a + i) y).set (b + i) x) ⟨by dsimp only; omega, by simp [hM], fun j => ?_⟩
    have e1 := hj (a + i)
    have e2 := hj (b + i)
    have e3 := hj j
    rw [hx1] at e1
    rw [hx2] at e2
    unfold swapAt at e1 e2 e3 ⊢
    rw [List.getElem?_set, List.getElem?_set, List.length_set]
    rw [if_neg (by omega), if_neg (by omega)] at e1
    rw [if_neg (by omega), if_neg (by omega)] at e2
    by_cases q1 : b + i = j
    · rw [if_pos q1, if_pos (by omega), if_neg (by omega), if_pos (by omega), e1]
      congr 1; omega
    · rw [if_neg q1]
      by_cases q2 : a + i = j
      · rw [if_pos q2, if_pos (by omega), if_pos (by omega), e2]
        congr 1; omega
      · rw [if_neg q2, e3]
        congr 1
        repeat' split
        all_goals omega
  · refine do_exit ?_
    refine St.then_x ?_
    refine St.then_x ?_
    refine St.blk_s ?_
    refine do_end0 Try.results141 ?_
    intro w hw
    obtain rfl : i = m := by omega
    exact ⟨M, hj, rfl, hw.sb⟩
theorem swap_spec (F : HP) (v fv : Value) (n a b m : Nat) (p u q x s : List GRow) (hp : p.length = a) (hu : u.length = m) (hx : x.length = m) (hb : a + m + q.length = b) (hl : b + m ≤ n) (hn : n ≤ 4611686018427387904) :
    Spec Try.prog 141 [v, .int .i64 a, .int .i64 b, .int .i64 m, fv] [rq v n (p ++ u ++ q ++ x ++ s)] F (fun _ : Unit => True) (fun _ => .tuple #[]) (fun _ => [rq v n (p ++ x ++ q ++ u ++ s)]) := by
  intro ω w hh
  refine (swapRange_spec F v fv n a b m _ (by omega) hl hn ω w hh).mono ?_
  rintro e w' ⟨L', hL', he, hw⟩
  subst hp hu
  have : L' = p ++ x ++ q ++ u ++ s := swap_lists hx.symm (by rw [hb]; exact hL')
  subst this
  exact ⟨(), trivial, he, hw⟩
theorem rotate_spec (F : HP) (v fv : Value) (n a m b : Nat) (p u x s : List GRow) (hp : p.length = a) (hu : a + u.length = m) (hx : m + x.length = b) (hu0 : 0 < u.length) (hx0 : 0 < x.length) (hl : b ≤ n) (hn : n ≤ 4611686018427387904) :
    Spec Try.prog 140 [v, .int .i64 a, .int .i64 m, .int .i64 b, fv] [rq v n (p ++ u ++ x ++ s)] F (fun _ : Unit => True) (fun _ => .tuple #[]) (fun _ => [rq v n (p ++ x ++ u ++ s)]) := by
  intro ω w hh
  refine enter Try.func140 rfl Try.ntmps140 rfl hh ?_
  simp only [List.cons_append, List.nil_append, argsB]
  have ei : ∀ {i : Int} {k : Nat}, i = k → Value.int .i64 i = .int .i64 (k : Int) := fun h => by rw [h]
  refine sr ?_
  refine rr (rd_move rfl) ?_
  refine rr (rd_move rfl) ?_
  refine rr ((rd_subi rfl rfl).eq (ei (k := u.length) (by omega))) ?_
  refine rr (rd_assign rfl) ?_
  refine run_nil ?_
  refine St.kp [(0, _), (2, _), (3, _), (4, _), (10, _)] ?_
  refine St.then_n ?_
  refine sr ?_
  refine rr (rd_move rfl) ?_
  refine rr (rd_move rfl) ?_
  refine rr ((rd_subi rfl rfl).eq (ei (k := x.length) (by omega))) ?_
  refine rr (rd_assign rfl) ?_
  refine run_nil ?_
  refine St.kp [(0, _), (2, _), (4, _), (10, _), (11, _)] ?_
  refine St.then_n ?_
  refine do_seq ?_
  refine do_block ?_
  refine do_lp (fun y : List GRow × List GRow × List GRow × List GRow => y.1.length + y.2.1.length = m ∧ 0 < y.2.1.length ∧ 0 < y.2.2.1.length ∧ m + y.2.2.1.length ≤ n ∧ y.1 ++ y.2.2.1 ++ y.2.1 ++ y.2.2.2 = p ++ x ++ u ++ s) (fun y => [(0, v), (2, .int .i64 m), (4, fv), (10, .int .i64 y.2.1.length), (11, .int .i64 y.2.2.1.length)]) (fun y => [rq v n (y.1 ++ y.2.1 ++ y.2.2.1 ++ y.2.2.2), F]) (fun y => y.2.1.length + y.2.2.1.length) (p, u, x, s) ⟨by dsimp only; omega, hu0, hx0, by dsimp only; omega, rfl⟩ ?_
  rintro ⟨p1, u1, x1, s1⟩ ⟨k1, k2, k3, k4, k5⟩
  dsimp only at k1 k2 k3 k4 k5 ⊢
  refine do_seq ?_
  refine sr ?_
  refine rr (rd_move rfl) ?_
  refine rr (rd_move rfl) ?_
  refine rr (rd_ne rfl rfl) ?_
  refine nx ?_
  first | refine do_condp rfl (fun h20 => ?_) (fun h20 => ?_) | refine do_cond rfl (fun h20 => ?_) (fun h20 => ?_)
  · refine do_skip ?_
    refine St.then_n ?_
    refine do_block ?_
    refine sr ?_
    refine rr (rd_move rfl) ?_
    refine rr (rd_move rfl) ?_
    refine rr (rd_gt rfl rfl) ?_
    refine run_nil ?_
    refine St.kp [(0, _), (2, _), (4, _), (10, _), (11, _), (23, _)] ?_
    refine St.then_n ?_
    first | refine do_condp rfl (fun h23 => ?_) (fun h23 => ?_) | refine do_cond rfl (fun h23 => ?_) (fun h23 => ?_)
    · obtain ⟨ua, ub, hab, hua⟩ : ∃ ua ub, u1 = ua ++ ub ∧ ua.length = x1.length := ⟨u1.take x1.length, u1.drop x1.length, (List.take_append_drop ..).symm, by rw [List.length_take]; omega⟩
      have hul : u1.length = ua.length + ub.length := by rw [hab, List.length_append]
      refine sr ?_
      refine rr (rd_move rfl) ?_
      refine rr (rd_move rfl) ?_
      refine rr (rd_move rfl) ?_
      refine rr ((rd_subi rfl rfl).eq (ei (k := m - u1.length) (by omega))) ?_
      refine rr (rd_move rfl) ?_
      refine rr (rd_move rfl) ?_
      refine rr (rd_move rfl) ?_
      rw [show p1 ++ u1 ++ x1 ++ s1 = p1 ++ ua ++ ub ++ x1 ++ s1 by rw [hab]; simp]
      refine rc (hs := (swap_spec _ v fv n (m - u1.length) m x1.length p1 ua ub x1 s1 (by omega) hua rfl (by omega) k4 hn)) (k := ?_)
      rintro ⟨⟩ -
      try simp only [List.cons_append, List.nil_append]
      refine run_nil ?_
      refine St.kp [(0, _), (2, _), (4, _), (10, _), (11, _)] ?_
      refine St.then_n ?_
      refine do_region ?_
      refine rr (rd_move rfl) ?_
      refine rr (rd_move rfl) ?_
      refine rr ((rd_subi rfl rfl).eq (ei (k := ub.length) (by omega))) ?_
      refine rr (rd_assign rfl) ?_
      refine run_nil ?_
      refine St.blk_n ?_
      refine St.then_n ?_
      first
        | (rw [show p1 ++ x1 ++ ub ++ ua ++ s1 = (p1 ++ x1) ++ ub ++ ua ++ s1 from rfl, ← hua]
           exact loop_bk (p1 ++ x1, ub, ua, s1) ⟨by simp; omega, by dsimp only; omega, by dsimp only; omega, by dsimp only; omega, by rw [← k5, hab]; simp⟩)
        | (rw [show p1 ++ xb ++ xa ++ u1 ++ s1 = p1 ++ xb ++ xa ++ (u1 ++ s1) by simp, ← hxb]
           exact loop_bk (p1, xb, xa, u1 ++ s1) ⟨by dsimp only; omega, by dsimp only; omega, by dsimp only; omega, by dsimp only; omega, by rw [← k5, hab]; simp⟩)
    · obtain ⟨xa, xb, hab, hxb⟩ : ∃ xa xb, x1 = xa ++ xb ∧ xb.length = u1.length := ⟨x1.take (x1.length - u1.length), x1.drop (x1.length - u1.length), (List.take_append_drop ..).symm, by rw [List.length_drop]; omega⟩
      have hxl : x1.length = xa.length + xb.length := by rw [hab, List.length_append]
      refine sr ?_
      refine rr (rd_move rfl) ?_
      refine rr (rd_move rfl) ?_
      refine rr (rd_move rfl) ?_
      refine rr ((rd_subi rfl rfl).eq (ei (k := m - u1.length) (by omega))) ?_
      refine rr (rd_move rfl) ?_
      refine rr (rd_move rfl) ?_
      refine rr (rd_addi rfl rfl) ?_
      refine rr (rd_move rfl) ?_
      refine rr ((rd_subi rfl rfl).eq (ei (k := m + x1.length - u1.length) (by omega))) ?_
      refine rr (rd_move rfl) ?_
      refine rr (rd_move rfl) ?_
      rw [show p1 ++ u1 ++ x1 ++ s1 = p1 ++ u1 ++ xa ++ xb ++ s1 by rw [hab]; simp]
      refine rc (hs := (swap_spec _ v fv n (m - u1.length) (m + x1.length - u1.length) u1.length p1 u1 xa xb s1 (by omega) rfl hxb (by omega) (by omega) hn)) (k := ?_)
      rintro ⟨⟩ -
      try simp only [List.cons_append, List.nil_append]
      refine run_nil ?_
      refine St.kp [(0, _), (2, _), (4, _), (10, _), (11, _)] ?_
      refine St.then_n ?_
      refine do_region ?_
      refine rr (rd_move rfl) ?_
      refine rr (rd_move rfl) ?_
      refine rr ((rd_subi rfl rfl).eq (ei (k := xa.length) (by omega))) ?_
      refine rr (rd_assign rfl) ?_
      refine run_nil ?_
      refine St.blk_n ?_
      refine St.then_n ?_
      first
        | (rw [show p1 ++ x1 ++ ub ++ ua ++ s1 = (p1 ++ x1) ++ ub ++ ua ++ s1 from rfl, ← hua]
           exact loop_bk (p1 ++ x1, ub, ua, s1) ⟨by simp; omega, by dsimp only; omega, by dsimp only; omega, by dsimp only; omega, by rw [← k5, hab]; simp⟩)
        | (rw [show p1 ++ xb ++ xa ++ u1 ++ s1 = p1 ++ xb ++ xa ++ (u1 ++ s1) by simp, ← hxb]
           exact loop_bk (p1, xb, xa, u1 ++ s1) ⟨by dsimp only; omega, by dsimp only; omega, by dsimp only; omega, by dsimp only; omega, by rw [← k5, hab]; simp⟩)
  · refine do_exit ?_
    refine St.then_x ?_
    refine St.then_x ?_
    refine St.blk_s ?_
    refine St.then_n ?_
    refine do_region ?_
    refine rr (rd_move rfl) ?_
    refine rr (rd_move rfl) ?_
    refine rr (rd_move rfl) ?_
    refine rr ((rd_subi rfl rfl).eq (ei (k := m - u1.length) (by omega))) ?_
    refine rr (rd_move rfl) ?_
    refine rr (rd_move rfl) ?_
    refine rr (rd_move rfl) ?_
    rw [show p1 ++ u1 ++ x1 ++ s1 = p1 ++ u1 ++ [] ++ x1 ++ s1 by simp]
    refine rc (hs := (swap_spec _ v fv n (m - u1.length) m u1.length p1 u1 [] x1 s1 (by omega) rfl (by omega) (by simp; omega) (by omega) hn)) (k := ?_)
    rintro ⟨⟩ -
    rw [show p1 ++ x1 ++ [] ++ u1 ++ s1 = p ++ x ++ u ++ s by rw [← k5]; simp]
    try simp only [List.cons_append, List.nil_append]
    refine run_nil ?_
    refine St.kp [] ?_
    refine do_end0 Try.results140 ?_
    intro w hw
    exact ⟨(), trivial, rfl, hw.sb⟩
section
variable {P : Program} {ω : Amb} {n : Nat} {ds : List Deferred} {Γ : List HP} {β : List (Nat × Value)} {d : Option Tmp} {ty : TypeId} {pos : String} {af : Array Edge} {gd : Option (Nat × Bool)}
/-- A call of a function that the model gives. -/
theorem rd_ext {f : FuncId} {fn : Func} {e : Array Value → Sem Value} {l : List Operand} {vs : List Value} {v : Value} {tys : Array TypeId} (hf : P.funcs[f]? = some fn) (hname : (fn.name == "runtime.NumGoroutine") = false)
    (hb : fn.body.isNone = true) (hn : Extern.findNext fn = none) (he : Extern.find fn = some e) (hl : evs β l = some vs) (hr : ∀ w, (e vs.toArray).run P w = .ok v w) :
    Reads P ω n ds Γ β ⟨d, .call { callee := .value (.func f), args := l.toArray, argTypes := tys }, ty, pos, af, gd⟩ v := fun a w hh hb' => by
  have hm := evs_map hb' l vs hl
  have h1 := run_callFunc_extern (P := P) hf hname hb hn he vs.toArray w
  rw [hr] at h1
  simp only [execOp, resolve, List.map_toArray, hm, Act.eval, Deferred.ofValue]
  simp [invoke, h1]
end
theorem cmpStr_spec (F : HP) (a b : List UInt8) : Spec Try.prog 133 [.string (strOf a), .string (strOf b)] [] F (fun _ : Unit => True) (fun _ => .int .i64 (cmpB a b)) (fun _ => []) := by
  intro ω w hh
  refine enter Try.func133 rfl Try.ntmps133 rfl hh ?_
  simp only [List.nil_append, argsB]
  refine sr ?_
  refine rr (rd_assign rfl) ?_
  refine nx ?_
  refine sr ?_
  refine rr (rd_move rfl) ?_
  refine rr (rd_move rfl) ?_
  refine rr (rd_ext (v := .int .i64 (cmpB a b)) Try.func139 (by kernel_rfl) (by kernel_rfl) (by kernel_rfl) (e := Extern.BytealgCompare.compare) (by kernel_rfl) rfl (fun w => by
  have h := Go.Lib.run_compareString (P := Try.prog) (strOf a) (strOf b) w
  exact h)) ?_
  refine rr (rd_assign rfl) ?_
  refine run_nil ?_
  refine St.kp [(4, _)] ?_
  refine St.then_n ?_
  refine do_ret ?_
  refine do_ret1 Try.results133 (res_tmp rfl) ?_
  intro w hw
  exact ⟨(), trivial, rfl, hw⟩
theorem compare_spec (F : HP) (a b : List UInt8) : Spec Try.prog 106 [.string (strOf a), .string (strOf b)] [] F (fun _ : Unit => True) (fun _ => .int .i64 (cmpB a b)) (fun _ => []) := by
  intro ω w hh
  refine enter Try.func106 rfl Try.ntmps106 rfl hh ?_
  simp only [List.nil_append, argsB]
  refine sr ?_
  refine rr (rd_assign rfl) ?_
  refine nx ?_
  refine sr ?_
  refine rr (rd_move rfl) ?_
  refine rr (rd_move rfl) ?_
  refine rc (hs := cmpStr_spec _ a b) (k := ?_)
  rintro ⟨⟩ -
  try simp only [List.cons_append, List.nil_append]
  refine rr (rd_assign rfl) ?_
  refine run_nil ?_
  refine St.kp [(4, _)] ?_
  refine St.then_n ?_
  refine do_ret ?_
  refine do_ret1 Try.results106 (res_tmp rfl) ?_
  intro w hw
  exact ⟨(), trivial, rfl, hw⟩
/-- A function that tells two rows' order. -/
abbrev cmpV : Value := .func (.func 105) #[] #[]
theorem rowCmp_spec (F : HP) (a b : GRow) : Spec Try.prog 105 ([.agg (rowC a).toArray, .agg (rowC b).toArray] ++ []) [] F (fun _ : Unit => True) (fun _ => .int .i64 (cmpB a.name b.name)) (fun _ => []) := by
  intro ω w hh
  rw [List.append_nil]
  refine enter Try.func105 rfl Try.ntmps105 rfl hh ?_
  simp only [List.nil_append, argsB]
  refine sr ?_
  refine r_bx fun b2 => ?_
  refine r_bx fun b3 => ?_
  refine rr (rd_assign rfl) ?_
  refine nx ?_
  refine sr ?_
  refine rr (rd_fa rfl fld108_0) ?_
  refine rr (rd_ld rfl row9) ?_
  refine rr (rd_fa rfl fld108_0) ?_
  refine rr (rd_ld rfl row9) ?_
  refine rc (hs := compare_spec _ a.name b.name) (k := ?_)
  rintro ⟨⟩ -
  try simp only [List.cons_append, List.nil_append]
  refine rr (rd_assign rfl) ?_
  refine run_nil ?_
  refine St.kp [(4, _)] ?_
  refine St.then_n ?_
  refine do_ret ?_
  refine do_ret1 Try.results105 (res_tmp rfl) ?_
  intro w hw
  exact ⟨(), trivial, rfl, hw.sb⟩
theorem ins_at {x : GRow} : ∀ {A B : List GRow}, (∀ y ∈ A, ¬ lt x y) → (∀ y ∈ B, lt x y) → ins x (A ++ B) = A ++ x :: B
  | [], [], _, _ => rfl
  | [], b :: B, _, h => by rw [List.nil_append, ins, if_pos (h b (List.mem_cons_self ..))]; rfl
  | a :: A, B, h1, h2 => by
    rw [List.cons_append, ins, if_neg (h1 a (List.mem_cons_self ..)), ins_at (fun y hy => h1 y (List.mem_cons_of_mem _ hy)) h2]; rfl
theorem nil_or_snoc {α : Type} (A : List α) : A = [] ∨ ∃ A' z, A = A' ++ [z] ∧ A.length = A'.length + 1 := by
  rcases List.eq_nil_or_concat A with h | ⟨A', z, h⟩
  · exact .inl h
  · exact .inr ⟨A', z, by rw [h, List.concat_eq_append], by rw [h]; simp⟩
theorem isort_snoc (L : List GRow) (x : GRow) : isort (L ++ [x]) = ins x (isort L) := by
  unfold isort insAll
  rw [List.foldl_append]; rfl
/-- In order: what holds of the last holds of all ahead of it. -/
theorem nlt_all {x z : GRow} {A : List GRow} (h : Srt (A ++ [z])) (hz : ¬ lt x z) : ∀ y ∈ A ++ [z], ¬ lt x y := fun y hy => by
  rcases List.mem_append.1 hy with hy | hy
  · exact nlt_trans (h.app.2.2 y hy z (List.mem_singleton.2 rfl)) hz
  · rw [List.mem_singleton.1 hy]; exact hz
theorem ei {i : Int} {k : Nat} (h : i = k) : Value.int .i64 i = .int .i64 (k : Int) := by rw [h]
theorem set2 (A B : List GRow) (z x : GRow) (p s : List GRow) : ((p ++ (A ++ [z]) ++ x :: B ++ s).set (p.length + A.length + 1) z).set (p.length + A.length) x = p ++ A ++ x :: (z :: B) ++ s := by
  have e1 : p ++ (A ++ [z]) ++ x :: B ++ s = (p ++ A ++ [z]) ++ x :: (B ++ s) := by simp
  rw [e1, List.set_append_right _ _ (by simp; omega), show p.length + A.length + 1 - (p ++ A ++ [z]).length = 0 by simp; omega, List.set_cons_zero]
  have e2 : p ++ A ++ [z] ++ z :: (B ++ s) = (p ++ A) ++ z :: (z :: (B ++ s)) := by simp
  rw [e2, List.set_append_right _ _ (by simp), show p.length + A.length - (p ++ A).length = 0 by simp, List.set_cons_zero]
  simp
theorem get2 (A B : List GRow) (z x : GRow) (p s : List GRow) : (p ++ (A ++ [z]) ++ x :: B ++ s)[p.length + A.length]? = some z := by
  have e : p ++ (A ++ [z]) ++ x :: B ++ s = p ++ A ++ z :: (x :: B ++ s) := by simp
  rw [e, List.getElem?_append_right (by simp)]
  simp
theorem get1 (A B : List GRow) (x : GRow) (p s : List GRow) : (p ++ A ++ x :: B ++ s)[p.length + A.length]? = some x := by
  rw [List.append_assoc, List.getElem?_append_right (by simp)]
  simp
set_option maxHeartbeats 1000000 in
theorem insertion_spec (F : HP) (v : Value) (n a b : Nat) (p X s : List GRow) (hp : p.length = a) (hX : a + X.length = b) (hb : b ≤ n) (hn : n ≤ 4611686018427387904) :
    Spec Try.prog 137 [v, .int .i64 a, .int .i64 b, cmpV] [rq v n (p ++ X ++ s)] F (fun _ : Unit => True) (fun _ => .tuple #[]) (fun _ => [rq v n (p ++ isort X ++ s)]) := by
  intro ω w hh
  refine enter Try.func137 rfl Try.ntmps137 rfl hh ?_
  simp only [List.cons_append, List.nil_append, argsB]
  subst hp
  refine St.Q_sl fun A0 c0 hv hc hm hL => ?_
  subst hv
  refine sr ?_
  refine rr (rd_move rfl) ?_
  refine rr ((rd_addi rfl rfl).eq (ei (k := p.length + 1) (by omega))) ?_
  refine rr (rd_assign rfl) ?_
  refine nx ?_
  refine do_block ?_
  refine do_lp (fun i : Nat => 1 ≤ i ∧ i ≤ X.length + 1) (fun i => [(0, .slice A0 n c0), (1, .int .i64 p.length), (2, .int .i64 b), (3, cmpV), (8, .int .i64 ((p.length + i : Nat) : Int))]) (fun i => [rq (.slice A0 n c0) n (p ++ (isort (X.take i) ++ X.drop i) ++ s), F]) (fun i => X.length + 1 - i) 1 ⟨by omega, by omega⟩ ?_ (hΓ := .cons (by rw [show isort (X.take 1) ++ X.drop 1 = X by cases X <;> rfl]; exact .head) (.cons (by repeat (first | with_reducible exact Sel.head | apply Sel.tail)) .nil))
  rintro i ⟨hi1, hi2⟩
  refine do_seq ?_
  refine sr ?_
  refine rr (rd_move rfl) ?_
  refine rr (rd_move rfl) ?_
  refine rr (rd_lt rfl rfl) ?_
  refine nx ?_
  first | refine do_condp rfl (fun h14 => ?_) (fun h14 => ?_) | refine do_cond rfl (fun h14 => ?_) (fun h14 => ?_)
  · have hx := List.getElem?_eq_getElem (l := X) (i := i) (by omega)
    have hdr := List.drop_eq_getElem_cons (l := X) (i := i) (by omega)
    generalize X[i]'_ = x at hx hdr
    have hsort := isort_srt (X.take i)
    have hlen := isort_len (X.take i)
    rw [List.length_take] at hlen
    have hnext : isort (X.take (i + 1)) = ins x (isort (X.take i)) := by rw [List.take_add_one, hx]; exact isort_snoc _ _
    generalize isort (X.take i) = U at hsort hlen hnext ⊢
    refine St.sl (P := rq (.slice A0 n c0) n (p ++ (U ++ X.drop i) ++ s)) (St.Q_some (by omega) fun g c1 hg _ _ => ?_)
    cases hg
    refine do_skip ?_
    refine St.then_n ?_
    refine do_seq ?_
    refine do_block ?_
    refine sr ?_
    refine rr (rd_move rfl) ?_
    refine rr (rd_assign rfl) ?_
    refine run_nil ?_
    refine St.kp [(0, _), (1, _), (2, _), (3, _), (8, _), (9, _)] ?_
    refine St.then_n ?_
    refine do_block ?_
    refine do_lp (fun y : List GRow × List GRow => y.1 ++ y.2 = U ∧ (∀ z ∈ y.2, lt x z)) (fun y => [(0, .slice (some ⟨g, 0, none⟩) n c0), (1, .int .i64 p.length), (2, .int .i64 b), (3, cmpV), (8, .int .i64 ((p.length + i : Nat) : Int)), (9, .int .i64 ((p.length + y.1.length : Nat) : Int))]) (fun y => [rq (.slice (some ⟨g, 0, none⟩) n c0) n (p ++ y.1 ++ x :: y.2 ++ (X.drop (i + 1) ++ s)), F]) (fun y => y.1.length) (U, []) ⟨by simp, by simp⟩ ?_ (hβ := ⟨rfl, rfl, rfl, rfl, rfl, by rw [show U.length = i by omega]; rfl, trivial⟩) (hΓ := .cons (by rw [show p ++ U ++ x :: [] ++ (X.drop (i + 1) ++ s) = p ++ (U ++ X.drop i) ++ s by rw [hdr]; simp]; exact .head) (.cons (by repeat (first | with_reducible exact Sel.head | apply Sel.tail)) .nil))
    rintro ⟨A, B⟩ ⟨hAB, hB⟩
    dsimp only at hAB hB ⊢
    have hABl : A.length + B.length = i := by rw [← List.length_append, hAB]; omega
    refine do_seq ?_
    refine do_seq ?_
    refine do_cut (fun q : Bool => (q = false → ins x U = A ++ x :: B) ∧ (q = true → ∃ A' z, A = A' ++ [z] ∧ lt x z)) (fun q => [(0, .slice (some ⟨g, 0, none⟩) n c0), (1, .int .i64 p.length), (2, .int .i64 b), (3, cmpV), (8, .int .i64 ((p.length + i : Nat) : Int)), (9, .int .i64 ((p.length + A.length : Nat) : Int)), (34, .bool q)]) (fun q => [rq (.slice (some ⟨g, 0, none⟩) n c0) n (p ++ A ++ x :: B ++ (X.drop (i + 1) ++ s)), F]) (fun K hK => ?_) ?_
    · rcases nil_or_snoc A with hA | ⟨A', z, hA, hAl⟩ <;> subst hA <;> simp only [List.length_append, List.length_cons, List.length_nil] at hABl
      · refine do_draw [[2, 3, 4, 5, 6, 7, 8, 9, 10, 11, 12, 13, 14, 15, 16], [2, 3, 4, 5, 6, 7, 8, 9, 10, 11, 12, 13, 14, 15, 16], [3, 4, 5, 6, 7, 8, 9, 10, 11, 12, 13, 14, 15, 16], [4, 5, 6, 7, 8, 9, 10, 11, 12, 13, 14, 15, 16], [14, 15, 16], [7, 8, 14, 15, 16], [7, 8, 14, 15, 16], [8, 14, 15, 16], [14, 15, 16], [12, 13, 14, 15, 16], [11, 12, 13, 14, 15, 16], [12, 13, 14, 15, 16], [13, 14, 15, 16], [14, 15, 16], [15, 16], [16], []] (by kernel_rfl) rfl ?_
        refine ta 0 rfl (rd_move rfl) ?_
        refine ta 1 rfl (rd_move rfl) ?_
        first | refine ta 2 rfl ((rd_gt rfl rfl).eq (congrArg Value.bool (decide_eq_true (by simp only [List.length_append, List.length_cons, List.length_nil]; omega)))) ?_ | refine ta 2 rfl ((rd_gt rfl rfl).eq (congrArg Value.bool (decide_eq_false (by simp only [List.length_nil]; omega)))) ?_
        refine ta 3 rfl (rd_move rfl) ?_
        first | refine ts 4 ?_ | refine ta 4 rfl (rd_move rfl) ?_
        first | refine ts 5 ?_ | refine ta 5 rfl (rd_move rfl) ?_
        first | refine ts 6 ?_ | refine ta 6 rfl (rd_move rfl) ?_
        first | refine ts 7 ?_ | refine ta 7 rfl ((rd_indexAddr Try.underlying31 ei108 rfl rfl (by omega) (by simp only [List.length_append, List.length_cons, List.length_nil]; omega)).eq (show _ = Value.pointer (some ⟨g, 0 + (p.length + (A' ++ [z]).length) * 2, none⟩) from rfl)) ?_
        first | refine ts 8 ?_ | refine ta 8 rfl (rd_ldr _ rfl row108 (cells_Q rowC_len (get1 _ _ _ _ _))) ?_
        first | refine ts 9 ?_ | refine ta 9 rfl (rd_move rfl) ?_
        first | refine ts 10 ?_ | refine ta 10 rfl (rd_move rfl) ?_
        first | refine ts 11 ?_ | refine ta 11 rfl (rd_subi rfl rfl) ?_
        first | refine ts 12 ?_ | refine ta 12 rfl ((rd_indexAddr Try.underlying31 ei108 rfl rfl (by simp only [List.length_append, List.length_cons, List.length_nil]; omega) (by simp only [List.length_append, List.length_cons, List.length_nil]; omega)).eq (show _ = Value.pointer (some ⟨g, 0 + (p.length + A'.length) * 2, none⟩) by rw [show Int.toNat (((p.length + (A' ++ [z]).length : Nat) : Int) - 1) = p.length + A'.length by simp only [List.length_append, List.length_cons, List.length_nil]; omega])) ?_
        first | refine ts 13 ?_ | refine ta 13 rfl (rd_ldr _ rfl row108 (cells_Q rowC_len (get2 _ _ _ _ _ _))) ?_
        refine tr 14 ?_
        first
          | refine sk ?_
          | (refine rcv (hs := rowCmp_spec _ x z) (k := ?_)
             rintro ⟨⟩ -
             try simp only [List.cons_append, List.nil_append])
        refine nx ?_
        refine any_next (by (try (apply bd 13)); (try (apply bd 12)); (try (apply bd 11)); (try (apply bd 10)); (try (apply bd 9)); (try (apply bd 8)); (try (apply bd 7)); (try (apply bd 6)); (try (apply bd 5)); (try (apply bd 4)); apply bd 3; apply bd 2; apply bd 1; apply bd 0; exact .nil) ?_
        first | refine ts 15 ?_ | refine ta 15 rfl (rd_lt rfl rfl) ?_
        refine ta 16 rfl (rd_pick rfl rfl) ?_
        refine any_nil (by kernel_rfl) ?_
        refine St.then_n ?_
        refine St.sb (St.kp [(0, _), (1, _), (2, _), (3, _), (8, _), (9, _), (34, _)] (hK _ ?_))
        subst hAB
        first
          | exact ⟨fun _ => ins_at (A := []) (by simp) hB, nofun⟩
          | exact ⟨fun h => ins_at (nlt_all (Srt.app hsort).1 (of_decide_eq_false h)) hB, fun h => ⟨_, _, rfl, of_decide_eq_true h⟩⟩
      · refine do_draw [[2, 3, 4, 5, 6, 7, 8, 9, 10, 11, 12, 13, 14, 15, 16], [2, 3, 4, 5, 6, 7, 8, 9, 10, 11, 12, 13, 14, 15, 16], [3, 4, 5, 6, 7, 8, 9, 10, 11, 12, 13, 14, 15, 16], [4, 5, 6, 7, 8, 9, 10, 11, 12, 13, 14, 15, 16], [14, 15, 16], [7, 8, 14, 15, 16], [7, 8, 14, 15, 16], [8, 14, 15, 16], [14, 15, 16], [12, 13, 14, 15, 16], [11, 12, 13, 14, 15, 16], [12, 13, 14, 15, 16], [13, 14, 15, 16], [14, 15, 16], [15, 16], [16], []] (by kernel_rfl) rfl ?_
        refine ta 0 rfl (rd_move rfl) ?_
        refine ta 1 rfl (rd_move rfl) ?_
        first | refine ta 2 rfl ((rd_gt rfl rfl).eq (congrArg Value.bool (decide_eq_true (by simp only [List.length_append, List.length_cons, List.length_nil]; omega)))) ?_ | refine ta 2 rfl ((rd_gt rfl rfl).eq (congrArg Value.bool (decide_eq_false (by simp only [List.length_nil]; omega)))) ?_
        refine ta 3 rfl (rd_move rfl) ?_
        first | refine ts 4 ?_ | refine ta 4 rfl (rd_move rfl) ?_
        first | refine ts 5 ?_ | refine ta 5 rfl (rd_move rfl) ?_
        first | refine ts 6 ?_ | refine ta 6 rfl (rd_move rfl) ?_
        first | refine ts 7 ?_ | refine ta 7 rfl ((rd_indexAddr Try.underlying31 ei108 rfl rfl (by omega) (by simp only [List.length_append, List.length_cons, List.length_nil]; omega)).eq (show _ = Value.pointer (some ⟨g, 0 + (p.length + (A' ++ [z]).length) * 2, none⟩) from rfl)) ?_
        first | refine ts 8 ?_ | refine ta 8 rfl (rd_ldr _ rfl row108 (cells_Q rowC_len (get1 _ _ _ _ _))) ?_
        first | refine ts 9 ?_ | refine ta 9 rfl (rd_move rfl) ?_
        first | refine ts 10 ?_ | refine ta 10 rfl (rd_move rfl) ?_
        first | refine ts 11 ?_ | refine ta 11 rfl (rd_subi rfl rfl) ?_
        first | refine ts 12 ?_ | refine ta 12 rfl ((rd_indexAddr Try.underlying31 ei108 rfl rfl (by simp only [List.length_append, List.length_cons, List.length_nil]; omega) (by simp only [List.length_append, List.length_cons, List.length_nil]; omega)).eq (show _ = Value.pointer (some ⟨g, 0 + (p.length + A'.length) * 2, none⟩) by rw [show Int.toNat (((p.length + (A' ++ [z]).length : Nat) : Int) - 1) = p.length + A'.length by simp only [List.length_append, List.length_cons, List.length_nil]; omega])) ?_
        first | refine ts 13 ?_ | refine ta 13 rfl (rd_ldr _ rfl row108 (cells_Q rowC_len (get2 _ _ _ _ _ _))) ?_
        refine tr 14 ?_
        first
          | refine sk ?_
          | (refine rcv (hs := rowCmp_spec _ x z) (k := ?_)
             rintro ⟨⟩ -
             try simp only [List.cons_append, List.nil_append])
        refine nx ?_
        refine any_next (by (try (apply bd 13)); (try (apply bd 12)); (try (apply bd 11)); (try (apply bd 10)); (try (apply bd 9)); (try (apply bd 8)); (try (apply bd 7)); (try (apply bd 6)); (try (apply bd 5)); (try (apply bd 4)); apply bd 3; apply bd 2; apply bd 1; apply bd 0; exact .nil) ?_
        first | refine ts 15 ?_ | refine ta 15 rfl (rd_lt rfl rfl) ?_
        refine ta 16 rfl (rd_pick rfl rfl) ?_
        refine any_nil (by kernel_rfl) ?_
        refine St.then_n ?_
        refine St.sb (St.kp [(0, _), (1, _), (2, _), (3, _), (8, _), (9, _), (34, _)] (hK _ ?_))
        subst hAB
        first
          | exact ⟨fun _ => ins_at (A := []) (by simp) hB, nofun⟩
          | exact ⟨fun h => ins_at (nlt_all (Srt.app hsort).1 (of_decide_eq_false h)) hB, fun h => ⟨_, _, rfl, of_decide_eq_true h⟩⟩
    rintro q ⟨hq1, hq2⟩
    first | refine do_condp rfl (fun h34 => ?_) (fun h34 => ?_) | refine do_cond rfl (fun h34 => ?_) (fun h34 => ?_)
    · obtain ⟨A', z, rfl, hxz⟩ := hq2 h34
      have hAl : (A' ++ [z]).length = A'.length + 1 := by simp
      refine do_skip ?_
      refine St.then_n ?_
      refine do_seq ?_
      refine do_block ?_
      refine do_draw [[14, 15, 16, 17], [14, 15, 16, 17], [16, 17], [4, 16, 17], [16, 17], [8, 9, 14, 15, 16, 17], [7, 8, 9, 14, 15, 16, 17], [8, 9, 14, 15, 16, 17], [9, 14, 15, 16, 17], [14, 15, 16, 17], [12, 13, 14, 15, 16, 17], [12, 13, 14, 15, 16, 17], [13, 14, 15, 16, 17], [14, 15, 16, 17], [15, 16, 17], [16, 17], [17], []] (by kernel_rfl) rfl ?_
      refine ta 0 rfl (rd_move rfl) ?_
      refine ta 1 rfl (rd_move rfl) ?_
      refine ta 2 rfl (rd_move rfl) ?_
      refine ta 3 rfl (rd_move rfl) ?_
      refine ta 4 rfl (rd_subi rfl rfl) ?_
      refine ta 5 rfl (rd_move rfl) ?_
      refine ta 6 rfl (rd_move rfl) ?_
      refine ta 7 rfl (rd_subi rfl rfl) ?_
      refine ta 8 rfl ((rd_indexAddr Try.underlying31 ei108 rfl rfl (by omega) (by omega)).eq (show _ = Value.pointer (some ⟨g, 0 + (p.length + A'.length) * 2, none⟩) by rw [show Int.toNat (((p.length + (A' ++ [z]).length : Nat) : Int) - 1) = p.length + A'.length by omega])) ?_
      refine ta 9 rfl (rd_ldr _ rfl row108 (cells_Q rowC_len (get2 _ _ _ _ _ _))) ?_
      refine ta 10 rfl (rd_move rfl) ?_
      refine ta 11 rfl (rd_move rfl) ?_
      refine ta 12 rfl ((rd_indexAddr Try.underlying31 ei108 rfl rfl (by omega) (by omega)).eq (show _ = Value.pointer (some ⟨g, 0 + (p.length + (A' ++ [z]).length) * 2, none⟩) from rfl)) ?_
      refine ta 13 rfl (rd_ldr _ rfl row108 (cells_Q rowC_len (get1 _ _ _ _ _))) ?_
      refine ta 14 rfl ((rd_indexAddr Try.underlying31 ei108 rfl rfl (by omega) (by omega)).eq (show _ = Value.pointer (some ⟨g, 0 + (p.length + A'.length + 1) * 2, none⟩) by rw [show Int.toNat ((p.length + (A' ++ [z]).length : Nat) : Int) = p.length + A'.length + 1 by omega])) ?_
      refine tr 15 ?_
      refine r_stQ (n := n) rowC_len rowC_one z (p.length + A'.length + 1) row108 (by omega) ?_
      refine nx ?_
      refine any_next (by apply bd 14; apply bd 13; apply bd 12; apply bd 11; apply bd 10; apply bd 9; apply bd 8; apply bd 7; apply bd 6; apply bd 5; apply bk 4 rfl (rd_subi rfl rfl); apply bk 3 rfl (rd_move rfl); apply bk 2 rfl (rd_move rfl); apply bd 1; apply bd 0; exact .nil) ?_
      refine ta 16 rfl ((rd_indexAddr Try.underlying31 ei108 rfl rfl (by omega) (by omega)).eq (show _ = Value.pointer (some ⟨g, 0 + (p.length + A'.length) * 2, none⟩) by rw [show Int.toNat (((p.length + (A' ++ [z]).length : Nat) : Int) - 1) = p.length + A'.length by omega])) ?_
      refine tr 17 ?_
      refine r_stQ (n := n) rowC_len rowC_one x (p.length + A'.length) row108 (by omega) ?_
      rw [set2]
      refine nx ?_
      refine any_next (by apply bd 16; apply bd 4; apply bd 3; apply bd 2; exact .nil) ?_
      refine any_nil (by kernel_rfl) ?_
      refine St.kp [(0, _), (1, _), (2, _), (3, _), (8, _), (9, _)] ?_
      refine St.blk_n ?_
      refine St.then_n ?_
      refine do_region ?_
      refine rr (rd_move rfl) ?_
      refine rr ((rd_subi rfl rfl).eq (ei (k := p.length + A'.length) (by omega))) ?_
      refine rr (rd_assign rfl) ?_
      refine nx ?_
      exact loop_bk (A', z :: B) ⟨by rw [← hAB]; simp, fun y hy => by rcases List.mem_cons.1 hy with rfl | hy; exact hxz; exact hB y hy⟩
    · have hins := hq1 h34
      refine do_exit ?_
      refine St.then_x ?_
      refine St.then_x ?_
      refine St.blk_s ?_
      refine St.blk_n ?_
      refine St.then_n ?_
      refine do_region ?_
      refine rr (rd_move rfl) ?_
      refine rr ((rd_addi rfl rfl).eq (ei (k := p.length + (i + 1)) (by omega))) ?_
      refine rr (rd_assign rfl) ?_
      refine run_nil ?_
      refine St.kp [(0, _), (1, _), (2, _), (3, _), (8, _)] ?_
      refine St.then_n ?_
      rw [show p ++ A ++ x :: B ++ (X.drop (i + 1) ++ s) = p ++ (isort (X.take (i + 1)) ++ X.drop (i + 1)) ++ s by rw [hnext, hins]; simp]
      exact loop_bk (i + 1) ⟨by omega, by omega⟩
  · refine do_exit ?_
    refine St.then_x ?_
    refine St.then_x ?_
    refine St.blk_s ?_
    refine do_end0 Try.results137 ?_
    intro w hw
    rw [show X.take i = X from List.take_of_length_le (by omega), show X.drop i = [] from List.drop_eq_nil_of_le (by omega), List.append_nil] at hw
    exact ⟨(), trivial, rfl, hw.sb⟩
end Go.Proofs.Ytglcmlicfmmlpaa
