/-
  slices.Clone, Grow, Concat, Insert of items.
-/
import Derived.Test.YtgeldfgcicjidaaT8
import Derived.Lib.AppendZerosOnto
import Derived.Lib.Overlaps
namespace Go.Proofs.Ytgeldfgcicjidaa
open Go.RowKit
set_option linter.unusedSimpArgs false
set_option linter.unusedVariables false

section
variable {P : Program} {ω : Amb} {m : Nat} {ds : List Deferred} {Γ Γ' Γ1 Γ2 Δ : List HP} {β β' : List (Nat × Value)} {r : Option Nat} {ops : Array Oper} {Q : Exit → Act → World → Prop} {rest : List Oper} {K : Act → World → Prop}
variable {d : Option Tmp} {ty : TypeId} {pos : String} {af : Array Edge} {gd : Option (Nat × Bool)} {x y : Operand} {v u : Value} {g off k n c : Nat} {T t e : TypeId} {cs vs : List Value} {A : Option Addr} {X F : HP} {w w' : World}
/-- append of a make where there is no room. -/
theorem r_az {d : Nat} {z : Value} {by_ : Nat} {tn : TypeId} {kn kq : IntKind} {i : Int} {olds : List Value} (q : Nat) (ht : P.underlying t = some (.slice e)) (htn : P.underlying tn = some (.int kn)) (hE : EI P e z k by_) (hi : i = q) (h0 : 0 < q) (hv : Vw X (.slice A n c) k n olds) (px : Sel X Γ Γ1) (hg : c < n + q) (hby : (n + q) * by_ ≤ 140737488355328) (h63 : n + q ≤ maxLen)
    (kk : ∀ g cc Z tail, n + q ≤ cc → cc ≤ maxLen → Z.length = q * k → (olds ++ Z ++ tail).length = cc * k → St ω m ds (pts g e (olds ++ Z ++ tail) :: Γ) ((d, .slice (some ⟨g, 0, none⟩) (n + q) cc) :: β) (Run P r ops Q rest))
    (hx : ev β x = some (.slice A n c) := by exact rfl) (hy : ev β y = some (.int kq i) := by exact rfl) (hw : wants ops β gd = some true := by exact rfl) (hd : d < m := by decide) :
    St ω m ds Γ β (Run P r ops Q (⟨some d, .call { callee := .builtin .append, args := #[x, y], argTypes := #[t, tn] }, ty, pos, af, gd⟩ :: rest)) := by
  intro a w hh hb
  obtain ⟨ii, hinf, hz, hs, hbb, hzs, hpos⟩ := hE
  subst hi
  have hsl := hv.sl px hh
  obtain ⟨_, _, he, hnc, _, hlen, _⟩ := id hsl
  cases he
  have hcap := nextslicecap_le hg
  have hcap2 : Builtin.nextslicecap (n + q) c * ii.bytes ≤ 281474976710656 := by
    have := Nat.mul_le_mul_right ii.bytes hcap
    rw [hbb] at this ⊢
    have e1 : 2 * (n + q) * by_ = 2 * ((n + q) * by_) := Nat.mul_assoc ..
    omega
  have hq2 : q * ii.bytes ≤ 281474976710656 := by
    rw [hbb]
    have := Nat.mul_le_mul_right by_ (Nat.le_add_left q n)
    omega
  have hr := Go.Lib.run_append_grow_zeros (P := P) w t tn ty e ii z kq kn ht htn hinf hz A n c olds (by rw [hs]; exact firstCells_sl hsl) q h0 (by omega) hg (by simp only [maxLen] at h63; omega) hq2 hcap2
  have hex := exec_append (P := P) (pos := pos) (af := af) (gd := gd) (d := some d) hb hx hy hr
  have hge := grownCap_ge w (n + q) c e
  have hmax := grownCap_le_maxLen w (n + q) c e h63
  refine wpListIn_ran (fun f => wd_fn r f) (wanted_of hb hw) ⟨by simp, .inl ⟨_, hex, rfl⟩⟩ (kk w.heap.size (grownCap w (n + q) c e) (Builtin.zeroCells z.cells q).toList (Builtin.zeroCells z.cells (grownCap w (n + q) c e - (n + q))).toList hge hmax (by rw [Array.length_toList, zeroCells_size, hzs]) (by
    rw [List.length_append, List.length_append, hlen, Array.length_toList, Array.length_toList, zeroCells_size, zeroCells_size, hzs, ← Nat.add_mul, ← Nat.add_mul]; congr 1; omega) _ _ ?_ (hb.put hd _))
  have := (hh.drew).alloc (.cells (olds.toArray ++ Builtin.zeroCells z.cells q ++ Builtin.zeroCells z.cells (grownCap w (n + q) c e - (n + q))) e)
  unfold pts
  have e2 : (olds ++ (Builtin.zeroCells z.cells q).toList ++ (Builtin.zeroCells z.cells (grownCap w (n + q) c e - (n + q))).toList).toArray = olds.toArray ++ Builtin.zeroCells z.cells q ++ Builtin.zeroCells z.cells (grownCap w (n + q) c e - (n + q)) := by
    apply Array.toList_inj.1; simp
  rw [e2]
  exact this
theorem Holds.apart2 {ga gb : Nat} {TA TB : TypeId} {ca cb : List Value} (h : Holds ω (pts ga TA ca :: pts gb TB cb :: Γ) w) : ga ≠ gb := fun e => by
  subst e
  obtain ⟨_, h1, h2, l1, l2, ap, p1, h3, h4, l3, l4, ap2, p2, _⟩ := h
  rcases ap ga with q | q
  · rw [show h1 ga = _ from p1] at q; cases q
  · rw [l3 _ _ p2] at q; cases q
/-- Do two slices in blocks of their own overlap? No. -/
theorem rd_ov {f : FuncId} {fn : Func} {tS tR : TypeId} {ga gb oa ob la ca lb cb : Nat} {TA TB : TypeId} {csA csB : List Value} {z : Value} {by_ : Nat} {l : List Operand} {tys : Array TypeId} (hf : P.funcs[f]? = some fn) (hname : (fn.name == "runtime.NumGoroutine") = false)
    (hb : fn.body.isNone = true) (hn : Extern.findNext fn = none) (he : Extern.find fn = some (Extern.SlicesOverlaps.overlaps #[tS, tS] #[tR])) (ht : P.underlying tS = some (.slice e)) (hE : EI P e z k by_)
    (hl : evs β l = some [.slice (some ⟨ga, oa, none⟩) la ca, .slice (some ⟨gb, ob, none⟩) lb cb]) (p : Pick [pts ga TA csA, pts gb TB csB] Γ Γ') (hB : csB.length ≠ 0) :
    Reads P ω m ds Γ β ⟨d, .call { callee := .value (.func f), args := l.toArray, argTypes := tys }, ty, pos, af, gd⟩ (.bool false) := fun a w hh hb' => by
  have hm := evs_map hb' l _ hl
  have h1 := run_callFunc_extern (P := P) hf hname hb hn he #[.slice (some ⟨ga, oa, none⟩) la ca, .slice (some ⟨gb, ob, none⟩) lb cb] w
  obtain ⟨ii, hinf, hz, hs, hbb, hzs, hpos⟩ := hE
  have h2 := hh.pick p
  have hne := Holds.apart2 (Γ := [Sep Γ']) h2
  have hA := h2.ptsAt .head
  have hBb := h2.ptsAt (.tail .head)
  have hr := Go.Lib.run_overlaps_apart (P := P) w tS tR e ht k (fun w => by simp [sizeOf, typeInfo, hinf, hs]) ⟨ga, oa, none⟩ ⟨gb, ob, none⟩ la ca lb cb hne TA TB csA.length csB.length (by simp [World.shape?, hA]) (by simp [World.shape?, hBb]) hB (by simp [World.frozen?, hA]) (by simp [World.frozen?, hA])
  rw [hr] at h1
  simp only [execOp, resolve, List.map_toArray, hm, Act.eval, Deferred.ofValue]
  simp [invoke, h1]
end
theorem cp_take {P : Program} {ω : Amb} {Γ Γ' : List HP} {X : HP} {v : Value} {k n q dl : Nat} {cs news : List Value} (s : Vw X v k n cs) (p : Sel X Γ Γ') (hq : Nat.min n dl = q) (hn : cs.take (q * k) = news) : Cp P ω Γ k v dl q news := hn ▸ cp_vw s p hq
theorem St.Q_pts {α : Type} {f : α → List Value} {ω : Amb} {m : Nat} {ds : List Deferred} {Γ : List HP} {β : List (Nat × Value)} {K : Act → World → Prop} {T k n c g : Nat} {L : List α} (hn : 0 < n) (h : ∀ tail, (L.flatMap f ++ tail).length = c * k → St ω m ds (pts g T (L.flatMap f ++ tail) :: Γ) β K) : St ω m ds (ownQ f T k (.slice (some ⟨g, 0, none⟩) n c) n L :: Γ) β K :=
  St.ent (Q := own (.slice (some ⟨g, 0, none⟩) n c) T k n (L.flatMap f)) (fun _ hp => hp.2) (St.own_open (fun _ h0 _ => absurd h0 (by omega)) fun g' c' tail hg _ _ h4 _ => by cases hg; exact h tail h4)
theorem setL_mid {A B C V : List Value} (h : V.length = B.length) : setL (A ++ B ++ C) A.length V = A ++ V ++ C := by
  have e1 : (A ++ B ++ C).take A.length = A := by rw [List.append_assoc, List.take_left]
  have e2 : (A ++ B ++ C).drop (A.length + V.length) = C := by rw [h, ← List.length_append, List.drop_left]
  unfold setL
  rw [e1, e2]
theorem cloneI_spec (F : HP) (A : Option Addr) (n c : Nat) (L : List Im) (hF : Vw F (.slice A n c) 3 n (L.flatMap imC)) (hn : L.length = n) (hl : n ≤ 1099511627776) :
    Spec Try.prog 37 [.slice A n c] [] F (fun _ : Option Addr × Nat => True) (fun x => .slice x.1 n x.2) (fun x => [ownI (.slice x.1 n x.2) n L]) := by
  intro ω w hh
  refine enter Try.func37 rfl Try.ntmps37 rfl hh ?_
  simp only [List.nil_append, argsB]
  refine sr ?_
  refine rr (rd_assign rfl) ?_
  refine nx ?_
  refine do_seq ?_
  refine sr ?_
  refine rr (rd_move rfl) ?_
  refine rr (rd_sl_eq_nil Try.underlying67 rfl rfl) ?_
  refine nx ?_
  first | refine do_condp rfl (fun h4 => ?_) (fun h4 => ?_) | refine do_cond rfl (fun h4 => ?_) (fun h4 => ?_)
  · obtain ⟨rfl, hA0⟩ : A = none ∧ True := by cases A <;> simp_all
    refine sr ?_
    refine rr (rd_assign rfl) ?_
    refine nx ?_
    refine do_ret ?_
    refine St.then_r ?_
    refine do_ret1 Try.results37 (res_tmp rfl) ?_
    intro w hw
    obtain ⟨h, l, hf⟩ := hw.get (P := F) (by repeat (first | with_reducible exact Sel.head | apply Sel.tail))
    obtain ⟨A', c', he, h1, h2, h3, h4⟩ := hF h hf
    cases he
    have h0 : n = 0 := by
      rcases Nat.eq_zero_or_pos n with h0 | h0
      · exact h0
      · obtain ⟨g, o, row, T, fr, hA, _⟩ := h4 h0
        cases hA
    subst h0
    obtain rfl := List.eq_nil_of_length_eq_zero hn
    exact ⟨(none, 0), trivial, rfl, Holds.ent (fun h hp => ⟨rfl, hp⟩) (Holds.own_nil hw.sb)⟩
  · refine do_skip ?_
    refine St.then_n ?_
    refine sr ?_
    refine r_bs0 (f := imC) Try.underlying67 ei69 (fun g => ?_)
    refine rr (rd_move rfl) ?_
    refine r_apQ (n := 0) imC_len imC_one Try.underlying67 ei69 (X := F) hF hn (by omega) (by omega) (by omega) (fun v3 _ => ?_)
    rw [Nat.zero_add, List.nil_append]
    refine St.vw vw_Q .head (fun A5 c5 hv5 _ _ _ => ?_)
    subst hv5
    refine rr (rd_assign rfl) ?_
    refine run_nil ?_
    refine St.kp [(2, _)] ?_
    refine St.then_n ?_
    refine do_ret ?_
    refine do_ret1 Try.results37 (res_tmp rfl) ?_
    intro w hw
    exact ⟨(A5, c5), trivial, rfl, hw.sb⟩
theorem growI_spec (F : HP) (n : Nat) (hn : n ≤ 1099511627776) : Spec Try.prog 88 [.slice none 0 0, .int .i64 n] [] F (fun _ : Value => True) (fun v' => v') (fun v' => [ownI v' 0 []]) := by
  intro ω w hh
  refine enter Try.func88 rfl Try.ntmps88 rfl hh ?_
  simp only [List.nil_append, argsB]
  refine sr ?_
  refine rr (rd_assign rfl) ?_
  refine nx ?_
  refine do_seq ?_
  refine sr ?_
  refine rr (rd_move rfl) ?_
  refine rr (rd_lt rfl rfl) ?_
  refine nx ?_
  refine do_condp rfl (fun h6 => absurd h6 (by omega)) (fun h6 => ?_)
  refine do_skip ?_
  refine St.then_n ?_
  refine do_seq ?_
  refine sr ?_
  refine rr (rd_move rfl) ?_
  refine rr (rd_move rfl) ?_
  refine rr (rd_cap Try.underlying67 rfl) ?_
  refine rr (rd_move rfl) ?_
  refine rr (rd_len Try.underlying67 rfl) ?_
  refine rr (rd_subi rfl rfl) ?_
  refine rr (rd_subi rfl rfl) ?_
  refine rr (rd_assign rfl) ?_
  refine run_nil ?_
  refine St.kp [(0, _), (1, _)] ?_
  refine St.then_n ?_
  refine sr ?_
  refine rr (rd_move rfl) ?_
  refine rr (rd_gt rfl rfl) ?_
  refine nx ?_
  first | refine do_condp rfl (fun h16 => ?_) (fun h16 => ?_) | refine do_cond rfl (fun h16 => ?_) (fun h16 => ?_)
  · refine do_region ?_
    refine rr (rd_move rfl) ?_
    refine rr (rd_move rfl) ?_
    refine rr (rd_cap Try.underlying67 rfl) ?_
    refine rr ((rd_slice (i := 0) (j := ((0 : Nat) : Int)) Try.underlying67 ei69 rfl rfl rfl (by omega) (by omega) (by omega)).eq (show _ = Value.slice none 0 0 from rfl)) ?_
    refine rr (rd_move rfl) ?_
    refine r_am (kq := .i64) (i := (n : Int) - (((0 : Nat) : Int) - ((0 : Nat) : Int))) Try.underlying67 Try.underlying3 ei69 n (by omega) (by omega) (by omega) (by omega) (fun g c cs h1 h2 h3 => ?_)
    refine rr (rd_move rfl) ?_
    refine rr (rd_len Try.underlying67 rfl) ?_
    refine rr ((rd_slice (i := 0) (j := ((0 : Nat) : Int)) Try.underlying67 ei69 rfl rfl rfl (by omega) (by omega) (by omega)).eq (show _ = Value.slice (some ⟨g, 0, none⟩) 0 c by rw [show (Int.toNat 0) = 0 from rfl, subA_zero]; rfl)) ?_
    refine rr (rd_assign rfl) ?_
    refine run_nil ?_
    refine St.kp [(0, _)] ?_
    refine St.then_n ?_
    refine sr ?_
    refine rr (rd_move rfl) ?_
    refine rr (rd_assign rfl) ?_
    refine nx ?_
    refine do_ret ?_
    refine do_ret1 Try.results88 (res_tmp rfl) ?_
    intro w hw
    first
      | exact ⟨.slice (some ⟨g, 0, none⟩) 0 c, trivial, rfl, Holds.ent (P := pts g 69 cs) (fun h hp => ⟨rfl, pts_own' (cs := []) (Nat.zero_le _) h2 h3 (by simp) h hp⟩) hw.sb⟩
      | exact ⟨.slice none 0 0, trivial, rfl, Holds.ent (fun h hp => ⟨rfl, hp⟩) (Holds.own_nil hw.sb)⟩
  · refine do_skip ?_
    refine St.then_n ?_
    refine sr ?_
    refine rr (rd_move rfl) ?_
    refine rr (rd_assign rfl) ?_
    refine run_nil ?_
    refine St.kp [(4, _)] ?_
    refine St.then_n ?_
    refine do_ret ?_
    refine do_ret1 Try.results88 (res_tmp rfl) ?_
    intro w hw
    first
      | exact ⟨.slice (some ⟨g, 0, none⟩) 0 c, trivial, rfl, Holds.ent (P := pts g 69 cs) (fun h hp => ⟨rfl, pts_own' (cs := []) (Nat.zero_le _) h2 h3 (by simp) h hp⟩) hw.sb⟩
      | exact ⟨.slice none 0 0, trivial, rfl, Holds.ent (fun h hp => ⟨rfl, hp⟩) (Holds.own_nil hw.sb)⟩
/-- Slices of items that can be read. -/
abbrev itsOf (LL : List (Value × List Im)) : List Im := LL.flatMap (·.2)
def VwLL (F : HP) (v : Value) (LL : List (Value × List Im)) : Prop := Vw F v 1 LL.length (LL.map (·.1)) ∧ ∀ x ∈ LL, Vw F x.1 3 x.2.length (x.2.flatMap imC)
theorem itsOf_le (LL : List (Value × List Im)) (i : Nat) : (itsOf (LL.take i)).length ≤ (itsOf LL).length := flat_take_le _ LL i
theorem ei_nat {i : Int} {k : Nat} (h : i = k) : Value.int .i64 i = .int .i64 (k : Int) := by rw [h]
set_option maxHeartbeats 1000000 in
theorem concatI_spec (F : HP) (v : Value) (LL : List (Value × List Im)) (hV : VwLL F v LL) (hn : (itsOf LL).length ≤ 1099511627776) :
    Spec Try.prog 73 [v] [] F (fun _ : Option Addr × Nat => True) (fun x => .slice x.1 (itsOf LL).length x.2) (fun x => [ownI (.slice x.1 (itsOf LL).length x.2) (itsOf LL).length (itsOf LL)]) := by
  intro ω w hh
  refine enter Try.func73 rfl Try.ntmps73 rfl hh ?_
  simp only [List.nil_append, argsB]
  obtain ⟨hV1, hV2⟩ := hV
  refine St.vw hV1 .head (fun A c hv hc hm _ => ?_)
  subst hv
  have hll : LL.length ≤ 9223372036854775807 := by simp only [maxLen] at hm; omega
  refine sr ?_
  refine rr (rd_assign rfl) ?_
  refine nx ?_
  refine sr ?_
  refine rr (rd_assign rfl) ?_
  refine nx ?_
  refine do_seq ?_
  refine sr ?_
  refine rr (rd_move rfl) ?_
  refine rr (rd_len Try.underlying154 rfl) ?_
  refine rr (rd_move rfl) ?_
  refine nx ?_
  refine do_block ?_
  refine do_lp (fun i : Nat => i ≤ LL.length) (fun i => [(0, .slice A LL.length c), (3, .int .i64 ((itsOf (LL.take i)).length : Nat)), (9, .slice A LL.length c), (10, .int .i64 LL.length), (11, .int .i64 i)]) (fun _ => [F]) (fun i => LL.length - i) 0 (Nat.zero_le _) ?_
  intro i hi
  refine sr ?_
  refine rr (rd_lt rfl rfl) ?_
  refine nx ?_
  refine do_seq ?_
  first | refine do_condp rfl (fun h12 => ?_) (fun h12 => ?_) | refine do_cond rfl (fun h12 => ?_) (fun h12 => ?_)
  · have hx := List.getElem?_eq_getElem (l := LL) (i := i) (by omega)
    have hxm := List.mem_of_getElem? hx
    generalize LL[i]'_ = x at hx hxm
    have hle := itsOf_le LL (i + 1)
    have htk : itsOf (LL.take (i + 1)) = itsOf (LL.take i) ++ x.2 := by rw [take_get' hx, itsOf, List.flatMap_append]; simp
    rw [htk, List.length_append] at hle
    have hcell : (LL.map (·.1))[i]? = some x.1 := by rw [List.getElem?_map, hx]; rfl
    have hxv := hV2 x hxm
    obtain ⟨xv, xl⟩ := x
    dsimp only at hxv htk hle hcell
    refine St.vw hxv (by repeat (first | with_reducible exact Sel.head | apply Sel.tail)) (fun A1 c1 hv1 _ _ _ => ?_)
    subst hv1
    refine St.vw_some hV1 (by repeat (first | with_reducible exact Sel.head | apply Sel.tail)) (by omega) (fun g of hg _ _ => ?_)
    subst hg
    refine do_skip ?_
    refine St.then_n ?_
    refine do_seq ?_
    refine do_block ?_
    refine sr ?_
    refine rr ((rd_indexAddr Try.underlying154 ei67 rfl rfl (by omega) (by omega)).eq (show _ = Value.pointer (some ⟨g, of + i, none⟩) by simp)) ?_
    refine rr (rd_ld rfl row67 (Vw.cells1 hV1 (by repeat (first | with_reducible exact Sel.head | apply Sel.tail)) (by omega) hcell)) ?_
    refine rr (rd_assign rfl) ?_
    refine nx ?_
    refine sr ?_
    refine rr (rd_move rfl) ?_
    refine rr (rd_move rfl) ?_
    refine rr (rd_len Try.underlying67 rfl) ?_
    refine rr ((rd_addi rfl rfl).eq (ei_nat (k := (itsOf (LL.take (i + 1))).length) (by rw [htk, List.length_append]; omega))) ?_
    refine rr (rd_assign rfl) ?_
    refine run_nil ?_
    refine St.kp [(0, _), (3, _), (9, _), (10, _), (11, _)] ?_
    refine St.then_n ?_
    refine sr ?_
    refine rr (rd_move rfl) ?_
    refine rr (rd_lt rfl rfl) ?_
    refine nx ?_
    refine do_condp rfl (fun h20 => absurd h20 (by omega)) (fun h20 => ?_)
    refine do_skip ?_
    refine St.blk_n ?_
    refine St.then_n ?_
    refine do_region ?_
    refine rr (rd_addi rfl rfl) ?_
    refine rr (rd_move rfl) ?_
    refine nx ?_
    exact loop_bk (i + 1) (by omega) (hμ := by omega)
  · have hend : itsOf (LL.take i) = itsOf LL := by rw [List.take_of_length_le (by omega)]
    rw [hend]
    refine do_exit ?_
    refine St.then_x ?_
    refine St.then_x ?_
    refine St.blk_s ?_
    refine St.then_n ?_
    refine sr ?_
    refine rr (rd_move rfl) ?_
    refine rc (hs := growI_spec _ (itsOf LL).length hn) (k := ?_)
    rintro v1 -
    try simp only [List.cons_append, List.nil_append]
    refine rr (rd_assign rfl) ?_
    refine run_nil ?_
    refine St.kp [(0, _), (6, _)] ?_
    refine St.then_n ?_
    refine do_seq ?_
    refine sr ?_
    refine rr (rd_move rfl) ?_
    refine rr (rd_len Try.underlying154 rfl) ?_
    refine rr (rd_move rfl) ?_
    refine nx ?_
    refine do_block ?_
    refine do_lp (fun y : Nat × Value => y.1 ≤ LL.length) (fun y => [(6, y.2), (25, .slice A LL.length c), (26, .int .i64 LL.length), (27, .int .i64 y.1)]) (fun y => [ownI y.2 (itsOf (LL.take y.1)).length (itsOf (LL.take y.1)), F]) (fun y => LL.length - y.1) (0, v1) (Nat.zero_le _) ?_ (hΓ := .cons .head (.cons (by repeat (first | with_reducible exact Sel.head | apply Sel.tail)) .nil))
    rintro ⟨i2, v2⟩ hi2
    dsimp only at hi2 ⊢
    refine sr ?_
    refine rr (rd_lt rfl rfl) ?_
    refine nx ?_
    refine do_seq ?_
    first | refine do_condp rfl (fun h28 => ?_) (fun h28 => ?_) | refine do_cond rfl (fun h28 => ?_) (fun h28 => ?_)
    · have hx := List.getElem?_eq_getElem (l := LL) (i := i2) (by omega)
      have hxm := List.mem_of_getElem? hx
      generalize LL[i2]'_ = x at hx hxm
      have hle := itsOf_le LL (i2 + 1)
      have htk : itsOf (LL.take (i2 + 1)) = itsOf (LL.take i2) ++ x.2 := by rw [take_get' hx, itsOf, List.flatMap_append]; simp
      rw [htk, List.length_append] at hle
      have hcell : (LL.map (·.1))[i2]? = some x.1 := by rw [List.getElem?_map, hx]; rfl
      have hxv := hV2 x hxm
      refine St.vw_some hV1 (by repeat (first | with_reducible exact Sel.head | apply Sel.tail)) (by omega) (fun g of hg _ _ => ?_)
      subst hg
      refine do_skip ?_
      refine St.then_n ?_
      refine do_seq ?_
      refine do_block ?_
      refine sr ?_
      refine rr ((rd_indexAddr Try.underlying154 ei67 rfl rfl (by omega) (by omega)).eq (show _ = Value.pointer (some ⟨g, of + i2, none⟩) by simp)) ?_
      refine rr (rd_ld rfl row67 (Vw.cells1 hV1 (by repeat (first | with_reducible exact Sel.head | apply Sel.tail)) (by omega) hcell)) ?_
      refine rr (rd_assign rfl) ?_
      refine nx ?_
      refine do_region ?_
      refine rr (rd_move rfl) ?_
      refine rr (rd_move rfl) ?_
      refine r_apQ (n := (itsOf (LL.take i2)).length) imC_len imC_one Try.underlying67 ei69 (X := F) hxv rfl (by omega) (by omega) (by omega) (fun v3 _ => ?_)
      rw [← List.length_append, ← htk]
      refine rr (rd_assign rfl) ?_
      refine run_nil ?_
      refine St.kp [(6, _), (25, _), (26, _), (27, _)] ?_
      refine St.blk_n ?_
      refine St.then_n ?_
      refine do_region ?_
      refine rr (rd_addi rfl rfl) ?_
      refine rr (rd_move rfl) ?_
      refine nx ?_
      exact loop_bk (i2 + 1, v3) (by dsimp only; omega) (hμ := by dsimp only; omega)
    · rw [show itsOf (LL.take i2) = itsOf LL by rw [List.take_of_length_le (by omega)]]
      refine St.vw (vw_Q (f := imC)) .head (fun A5 c5 hv5 _ _ _ => ?_)
      subst hv5
      refine do_exit ?_
      refine St.then_x ?_
      refine St.then_x ?_
      refine St.blk_s ?_
      refine St.then_n ?_
      refine sr ?_
      refine rr (rd_move rfl) ?_
      refine rr (rd_assign rfl) ?_
      refine run_nil ?_
      refine St.kp [(2, _)] ?_
      refine St.then_n ?_
      refine do_ret ?_
      refine do_ret1 Try.results73 (res_tmp rfl) ?_
      intro w hw
      exact ⟨(A5, c5), trivial, rfl, hw.sb⟩
theorem subA_k {g c l k : Nat} (h : c ≠ l) : subA (some ⟨g, 0, none⟩) c l k = some ⟨g, l * k, none⟩ := by
  unfold subA; rw [if_neg h, Option.map_some, addr_add, Nat.zero_add]
abbrev ins1 (i : Nat) (x : Im) (L : List Im) : List Im := L.take i ++ x :: L.drop i
theorem flat_ins (i : Nat) (x : Im) (L : List Im) : (ins1 i x L).flatMap imC = (L.take i).flatMap imC ++ imC x ++ (L.drop i).flatMap imC := by simp [ins1]
set_option maxHeartbeats 4000000 in
theorem insert_spec (F : HP) (A : Option Addr) (n c b i : Nat) (L : List Im) (x : Im) (hi : i ≤ n) (hn : L.length = n) (hl : n ≤ 1048576) :
    Spec Try.prog 38 [.slice A n c, .int .i64 i, .slice (some ⟨b, 0, none⟩) 1 1] [ownI (.slice A n c) n L, ownI (.slice (some ⟨b, 0, none⟩) 1 1) 1 [x]] F (fun _ : Option Addr × Nat => True) (fun y => .slice y.1 (n + 1) y.2) (fun y => [ownI (.slice y.1 (n + 1) y.2) (n + 1) (ins1 i x L)]) := by
  intro ω w hh
  refine enter Try.func38 rfl Try.ntmps38 rfl hh ?_
  simp only [List.cons_append, List.nil_append, argsB]
  refine St.Q_sl fun A' c' hv hc hm _ => ?_
  cases hv
  refine sr ?_
  refine rr (rd_assign rfl) ?_
  refine nx ?_
  refine sr ?_
  refine rr (rd_move rfl) ?_
  refine rr (rd_move rfl) ?_
  refine rr (rd_slice (i := i) (j := n) Try.underlying67 ei69 rfl rfl rfl (by omega) (by omega) (by omega)) ?_
  refine run_nil ?_
  refine St.kp [(0, _), (1, _), (2, _)] ?_
  refine St.then_n ?_
  refine sr ?_
  refine rr (rd_move rfl) ?_
  refine rr (rd_len Try.underlying67 rfl) ?_
  refine rr (rd_assign rfl) ?_
  refine nx ?_
  refine do_seq ?_
  refine sr ?_
  refine rr (rd_move rfl) ?_
  refine rr ((rd_eq rfl rfl).eq (show _ = Value.bool false from rfl)) ?_
  refine nx ?_
  refine do_cond_f rfl ?_
  refine do_skip ?_
  refine St.then_n ?_
  refine sr ?_
  refine rr (rd_move rfl) ?_
  refine rr (rd_len Try.underlying67 rfl) ?_
  refine rr (rd_assign rfl) ?_
  refine run_nil ?_
  refine St.kp [(0, _), (1, _), (2, _), (7, _), (8, _)] ?_
  refine St.then_n ?_
  refine do_seq ?_
  refine sr ?_
  refine rr (rd_move rfl) ?_
  refine rr (rd_move rfl) ?_
  refine rr (rd_eq rfl rfl) ?_
  refine nx ?_
  first | refine do_condp rfl (fun h22 => ?_) (fun h22 => ?_) | refine do_cond rfl (fun h22 => ?_) (fun h22 => ?_)
  · refine sr ?_
    refine rr (rd_move rfl) ?_
    refine rr (rd_move rfl) ?_
    refine r_apQ (f := imC) (L := L) (M := [x]) (n := n) imC_len imC_one Try.underlying67 ei69 (X := ownI (.slice (some ⟨b, 0, none⟩) 1 1) 1 [x]) vw_Q rfl (by omega) (by omega) (by omega) (fun v5 _ => ?_)
    refine St.vw vw_Q .head (fun A5 c5 hv5 _ _ _ => ?_)
    subst hv5
    refine rr (rd_assign rfl) ?_
    refine run_nil ?_
    refine St.kp [(6, _)] ?_
    refine St.then_n ?_
    refine do_ret ?_
    refine St.then_r ?_
    refine do_ret1 Try.results38 (res_tmp rfl) ?_
    intro w hw
    obtain rfl : i = n := by omega
    refine ⟨(A5, c5), trivial, rfl, ?_⟩
    rw [show ins1 i x L = L ++ [x] by unfold ins1; rw [← hn, List.take_length, List.drop_length]]
    exact hw.sb
  · refine St.sl (P := ownI (.slice A n c) n L) (St.Q_some (by omega) (fun g c' hg _ _ => ?_))
    simp only [Value.slice.injEq] at hg
    obtain ⟨rfl, -, rfl⟩ := hg
    have hlen := flat_len imC_len L
    have hti : ((L.take i).flatMap imC).length = i * 3 := by rw [flat_len imC_len, List.length_take]; omega
    have hdi : ((L.drop i).flatMap imC).length = (n - i) * 3 := by rw [flat_len imC_len, List.length_drop]; omega
    have hall : (imC x).all (·.oneCell') = true := imC_one x
    have halld : ((L.drop i).flatMap imC).all (·.oneCell') = true := List.all_eq_true.2 fun u hu => by
      obtain ⟨y, _, hy⟩ := List.mem_flatMap.1 hu
      exact List.all_eq_true.1 (imC_one y) u hy
    have hvd : Vw (ownI (.slice (some ⟨g, 0, none⟩) n c) n L) (.slice (some ⟨g, i * 3, none⟩) (n - i) (c - i)) 3 (n - i) ((L.drop i).flatMap imC) := by
      have := Vw.sub (k := 3) (vw_Q (f := imC) (T := 69) (v := .slice (some ⟨g, 0, none⟩) n c) (n := n) (L := L)) (i := i) (j := n) (by decide) (by omega) (Nat.le_refl _)
      rwa [subA_k (by omega), flat_drop imC_len, List.take_of_length_le (by rw [hdi]; exact Nat.le_refl _)] at this
    have hvt : Vw (ownI (.slice (some ⟨g, 0, none⟩) n c) n L) (.slice (some ⟨g, 0, none⟩) i c) 3 i ((L.take i).flatMap imC) := by
      have := Vw.sub (k := 3) (vw_Q (f := imC) (T := 69) (v := .slice (some ⟨g, 0, none⟩) n c) (n := n) (L := L)) (i := 0) (j := i) (by decide) (Nat.zero_le _) (by omega)
      rwa [subA_zero, Nat.zero_mul, List.drop_zero, flat_take imC_len, Nat.sub_zero, Nat.sub_zero] at this
    have hvx : Vw (ownI (.slice (some ⟨b, 0, none⟩) 1 1) 1 [x]) (.slice (some ⟨b, 0, none⟩) 1 1) 3 1 (imC x) := by
      have := vw_Q (f := imC) (T := 69) (k := 3) (v := .slice (some ⟨b, 0, none⟩) 1 1) (n := 1) (L := [x])
      rwa [List.flatMap_cons, List.flatMap_nil, List.append_nil] at this
    refine do_skip ?_
    refine St.then_n ?_
    refine do_seq ?_
    refine sr ?_
    refine rr (rd_move rfl) ?_
    refine rr (rd_move rfl) ?_
    refine rr (rd_addi rfl rfl) ?_
    refine rr (rd_move rfl) ?_
    refine rr (rd_cap Try.underlying67 rfl) ?_
    refine rr (rd_gt rfl rfl) ?_
    refine run_nil ?_
    refine St.kp [(0, _), (1, _), (2, _), (7, _), (8, _), (31, _)] ?_
    refine St.then_n ?_
    first | refine do_condp rfl (fun h31 => ?_) (fun h31 => ?_) | refine do_cond rfl (fun h31 => ?_) (fun h31 => ?_)
    · refine sr ?_
      refine rr (rd_move rfl) ?_
      refine rr (rd_move rfl) ?_
      refine rr ((rd_slice (i := 0) (j := i) Try.underlying67 ei69 rfl rfl rfl (by omega) (by omega) (by omega)).eq (show _ = Value.slice (some ⟨g, 0, none⟩) i c by rw [show Int.toNat 0 = 0 from rfl, subA_zero]; rfl)) ?_
      refine rr (rd_move rfl) ?_
      refine rr (rd_move rfl) ?_
      refine rr (rd_addi rfl rfl) ?_
      refine rr (rd_move rfl) ?_
      refine rr (rd_subi rfl rfl) ?_
      refine r_az (kq := .i64) (i := (n : Int) + 1 - i) (n + 1 - i) Try.underlying67 Try.underlying3 ei69 (by omega) (by omega) hvt (by repeat (first | with_reducible exact Sel.head | apply Sel.tail)) (by omega) (by omega) (by simp only [maxLen] at hm ⊢; omega) (fun g2 c2 Z T h1 h2 h3 h4 => ?_)
      have hii : i + (n + 1 - i) = n + 1 := by omega
      rw [hii] at h1 ⊢
      obtain ⟨Z1, Z2, rfl, hz1, hz2⟩ : ∃ Z1 Z2, Z = Z1 ++ Z2 ∧ Z1.length = 3 ∧ Z2.length = (n - i) * 3 := ⟨Z.take 3, Z.drop 3, (List.take_append_drop 3 Z).symm, by rw [List.length_take]; omega, by rw [List.length_drop]; omega⟩
      refine rr (rd_assign rfl) ?_
      refine run_nil ?_
      refine St.kp [(0, _), (1, _), (2, _), (7, _), (9, _)] ?_
      refine St.then_n ?_
      refine sr ?_
      refine rr (rd_move rfl) ?_
      refine rr (rd_move rfl) ?_
      refine rr ((rd_slice (i := i) (j := (n : Int) + 1) Try.underlying67 ei69 rfl rfl (by omega) (by omega) (by omega) (by omega)).eq (show _ = Value.slice (some ⟨g2, i * 3, none⟩) (n + 1 - i) (c2 - i) by rw [Int.toNat_natCast, subA_k (by omega)]; congr 1)) ?_
      refine rr (rd_move rfl) ?_
      refine r_cp (g := g2) (off := i * 3) (k := 3) (dl := n + 1 - i) (cs := (L.take i).flatMap imC ++ (Z1 ++ Z2) ++ T) (cs' := (L.take i).flatMap imC ++ imC x ++ (Z2 ++ T)) 1 (imC x) Try.underlying67 ei69 (cp_all hvx (by repeat (first | with_reducible exact Sel.head | apply Sel.tail)) (by omega) rfl) rfl (by rw [h4, imC_len]; omega) hall (by rw [← hti]; have := setL_mid (A := (L.take i).flatMap imC) (B := Z1) (C := Z2 ++ T) (V := imC x) (by rw [hz1, imC_len]); simpa only [List.append_assoc] using this) ?_
      refine run_nil ?_
      refine St.kp [(0, _), (1, _), (7, _), (9, _)] ?_
      refine St.then_n ?_
      refine do_seq ?_
      refine do_draw [[4, 8], [3, 4, 8], [3, 4, 8], [4, 8], [8], [7, 8], [7, 8], [8], []] (by kernel_rfl) rfl ?_
      refine ta 0 rfl (rd_move rfl) ?_
      refine ta 1 rfl (rd_move rfl) ?_
      refine ta 2 rfl (rd_move rfl) ?_
      refine ta 3 rfl (rd_addi rfl rfl) ?_
      refine ta 4 rfl ((rd_slice (i := (i : Int) + 1) (j := (n : Int) + 1) Try.underlying67 ei69 rfl rfl (by omega) (by omega) (by omega) (by omega)).eq (show _ = Value.slice (some ⟨g2, (i + 1) * 3, none⟩) (n - i) (c2 - (i + 1)) by rw [show ((i : Int) + 1).toNat = i + 1 by omega, subA_k (by omega)]; congr 1; omega)) ?_
      refine ta 5 rfl (rd_move rfl) ?_
      refine ta 6 rfl (rd_move rfl) ?_
      refine ta 7 rfl ((rd_slice (i := i) (j := n) Try.underlying67 ei69 rfl rfl rfl (by omega) (by omega) (by omega)).eq (show _ = Value.slice (some ⟨g, i * 3, none⟩) (n - i) (c - i) by rw [Int.toNat_natCast, subA_k (by omega)]; rfl)) ?_
      refine tr 8 ?_
      refine r_cp (g := g2) (off := (i + 1) * 3) (k := 3) (dl := n - i) (cs := (L.take i).flatMap imC ++ imC x ++ (Z2 ++ T)) (cs' := (L.take i).flatMap imC ++ imC x ++ (L.drop i).flatMap imC ++ T) (n - i) ((L.drop i).flatMap imC) Try.underlying67 ei69 (cp_all hvd (by repeat (first | with_reducible exact Sel.head | apply Sel.tail)) (Nat.le_refl _) hdi) hdi (by simp only [List.length_append, hti, hdi, hz2, imC_len]; omega) halld (by have := setL_mid (A := (L.take i).flatMap imC ++ imC x) (B := Z2) (C := T) (V := (L.drop i).flatMap imC) (by rw [hz2, hdi]); rw [List.length_append, hti, imC_len, show i * 3 + 3 = (i + 1) * 3 by omega] at this; simpa only [List.append_assoc] using this) ?_
      refine nx ?_
      refine any_next (by apply bd 7; apply bd 6; apply bd 5; apply bd 4; apply bd 3; apply bd 2; apply bd 1; apply bd 0; exact .nil) ?_
      refine any_nil (by kernel_rfl) ?_
      refine St.kp [(9, _)] ?_
      refine St.then_n ?_
      refine sr ?_
      refine rr (rd_move rfl) ?_
      refine rr (rd_assign rfl) ?_
      refine nx ?_
      refine do_ret ?_
      refine St.then_r ?_
      refine do_ret1 Try.results38 (res_tmp rfl) ?_
      intro w hw
      refine ⟨(some ⟨g2, 0, none⟩, c2), trivial, rfl, Holds.ent (P := pts g2 69 ((L.take i).flatMap imC ++ imC x ++ (L.drop i).flatMap imC ++ T)) (fun h hp => ⟨by simp only [ins1, List.length_append, List.length_cons, List.length_take, List.length_drop]; omega, ?_⟩) hw.sb⟩
      rw [flat_ins]
      exact pts_own' h1 h2 (by simp only [List.length_append, hti, hdi, imC_len, hz1, hz2] at h4 ⊢; omega) (by simp only [List.length_append, hti, hdi, imC_len]; omega) h hp
    · refine do_skip ?_
      refine St.then_n ?_
      refine sr ?_
      refine rr (rd_move rfl) ?_
      refine rr (rd_move rfl) ?_
      refine rr (rd_move rfl) ?_
      refine rr (rd_addi rfl rfl) ?_
      refine rr ((rd_slice (i := 0) (j := (n : Int) + 1) Try.underlying67 ei69 rfl rfl rfl (by omega) (by omega) (by omega)).eq (show _ = Value.slice (some ⟨g, 0, none⟩) (n + 1) c by rw [show Int.toNat 0 = 0 from rfl, subA_zero]; congr 1)) ?_
      refine rr (rd_assign rfl) ?_
      refine run_nil ?_
      refine St.sl (P := ownI (.slice (some ⟨g, 0, none⟩) n c) n L) (St.Q_pts (by omega) (fun tail htail => ?_))
      refine St.sl (P := ownI (.slice (some ⟨b, 0, none⟩) 1 1) 1 [x]) (St.Q_pts (by decide) (fun xt hxt => ?_))
      obtain rfl : xt = [] := List.eq_nil_of_length_eq_zero (by simp only [List.length_append, List.flatMap_cons, List.flatMap_nil, List.append_nil, imC_len] at hxt; omega)
      rw [List.append_nil, List.flatMap_cons, List.flatMap_nil, List.append_nil]
      obtain ⟨T1, T2, rfl, ht1⟩ : ∃ T1 T2, tail = T1 ++ T2 ∧ T1.length = 3 := ⟨tail.take 3, tail.drop 3, (List.take_append_drop 3 tail).symm, by rw [List.length_append, hlen] at htail; rw [List.length_take]; omega⟩
      obtain ⟨O, hO⟩ : ∃ O, (L.take i).flatMap imC = O := ⟨_, rfl⟩
      obtain ⟨D, hD⟩ : ∃ D, (L.drop i).flatMap imC = D := ⟨_, rfl⟩
      have hLf : L.flatMap imC = O ++ D := by rw [← hO, ← hD, ← List.flatMap_append, List.take_append_drop]
      rw [hO] at hti
      rw [hD] at hdi halld
      obtain ⟨Y1, Y2, hY, hy1⟩ : ∃ Y1 Y2, D ++ T1 = Y1 ++ Y2 ∧ Y1.length = 3 := ⟨(D ++ T1).take 3, (D ++ T1).drop 3, (List.take_append_drop 3 _).symm, by rw [List.length_take, List.length_append]; omega⟩
      have hy2 : Y2.length = (n - i) * 3 := by have := congrArg List.length hY; simp only [List.length_append] at this; omega
      rw [hLf, show O ++ D ++ (T1 ++ T2) = O ++ Y1 ++ Y2 ++ T2 by rw [List.append_assoc O Y1, ← hY]; simp only [List.append_assoc]]
      have hcl : (O ++ Y1 ++ Y2 ++ T2).length = c * 3 := by rw [← htail, hLf, List.append_assoc O Y1, ← hY]; simp only [List.length_append]; omega
      refine St.kp [(0, _), (1, _), (2, _), (7, _), (8, _)] ?_
      refine St.then_n ?_
      refine do_seq ?_
      refine sr ?_
      refine rr (rd_move rfl) ?_
      refine rr (rd_move rfl) ?_
      refine rr (rd_move rfl) ?_
      refine rr (rd_move rfl) ?_
      refine rr (rd_addi rfl rfl) ?_
      refine rr ((rd_slice (i := (i : Int) + 1) (j := (n : Int) + 1) Try.underlying67 ei69 rfl rfl (by omega) (by omega) (by omega) (by omega)).eq (show _ = Value.slice (some ⟨g, (i + 1) * 3, none⟩) (n - i) (c - (i + 1)) by rw [show ((i : Int) + 1).toNat = i + 1 by omega, subA_k (by omega)]; congr 1; omega)) ?_
      refine rr (rd_ov (csA := imC x) (csB := O ++ Y1 ++ Y2 ++ T2) Try.func62 (by kernel_rfl) (by kernel_rfl) (by kernel_rfl) (tS := 67) (tR := 4) (by kernel_rfl) Try.underlying67 ei69 rfl (by repeat (first | exact Pick.nil | apply Pick.cons (by repeat (first | with_reducible exact Sel.head | apply Sel.tail)))) (by omega)) ?_
      refine rr (rd_not rfl) ?_
      refine run_nil ?_
      refine St.kp [(0, _), (1, _), (2, _), (7, _), (8, _), (68, _)] ?_
      refine St.then_n ?_
      refine do_cond_t rfl ?_
      refine do_seq ?_
      refine do_draw [[4, 8], [3, 4, 8], [3, 4, 8], [4, 8], [8], [7, 8], [7, 8], [8], []] (by kernel_rfl) rfl ?_
      refine ta 0 rfl (rd_move rfl) ?_
      refine ta 1 rfl (rd_move rfl) ?_
      refine ta 2 rfl (rd_move rfl) ?_
      refine ta 3 rfl (rd_addi rfl rfl) ?_
      refine ta 4 rfl ((rd_slice (i := (i : Int) + 1) (j := (n : Int) + 1) Try.underlying67 ei69 rfl rfl (by omega) (by omega) (by omega) (by omega)).eq (show _ = Value.slice (some ⟨g, (i + 1) * 3, none⟩) (n - i) (c - (i + 1)) by rw [show ((i : Int) + 1).toNat = i + 1 by omega, subA_k (by omega)]; congr 1; omega)) ?_
      refine ta 5 rfl (rd_move rfl) ?_
      refine ta 6 rfl (rd_move rfl) ?_
      refine ta 7 rfl ((rd_slice (i := i) (j := (n : Int) + 1) Try.underlying67 ei69 rfl rfl (by omega) (by omega) (by omega) (by omega)).eq (show _ = Value.slice (some ⟨g, i * 3, none⟩) (n + 1 - i) (c - i) by rw [Int.toNat_natCast, subA_k (by omega)]; congr 1)) ?_
      refine tr 8 ?_
      refine r_cp (g := g) (off := (i + 1) * 3) (k := 3) (dl := n - i) (cs := O ++ Y1 ++ Y2 ++ T2) (cs' := O ++ Y1 ++ D ++ T2) (n - i) D Try.underlying67 ei69 (by have h5 : Vw (pts g 69 (O ++ Y1 ++ Y2 ++ T2)) (.slice (some ⟨g, i * 3, none⟩) (n + 1 - i) (c - i)) 3 (n + 1 - i) (D ++ T1) := vw_pts (by omega) (by simp only [maxLen] at hm ⊢; omega) (by rw [List.length_append]; omega) (by rw [List.append_assoc O Y1, ← hY, List.append_assoc, ← hti, List.drop_left, List.append_assoc, ← List.append_assoc, List.take_left]); exact cp_take h5 (by repeat (first | with_reducible exact Sel.head | apply Sel.tail)) (by simp only [Nat.min_def]; split <;> omega) (by rw [← hdi, List.take_left])) hdi (by rw [hcl, hdi]; omega) halld (by have := setL_mid (A := O ++ Y1) (B := Y2) (C := T2) (V := D) (by rw [hy2, hdi]); rw [List.length_append, hti, hy1, show i * 3 + 3 = (i + 1) * 3 by omega] at this; exact this) ?_
      refine nx ?_
      refine any_next (by apply bd 7; apply bd 6; apply bd 5; apply bd 4; apply bd 3; apply bd 2; apply bd 1; apply bd 0; exact .nil) ?_
      refine any_nil (by kernel_rfl) ?_
      refine St.kp [(0, _), (1, _), (2, _)] ?_
      refine St.then_n ?_
      refine sr ?_
      refine rr (rd_move rfl) ?_
      refine rr (rd_move rfl) ?_
      refine rr ((rd_slice (i := i) (j := (n : Int) + 1) Try.underlying67 ei69 rfl rfl (by omega) (by omega) (by omega) (by omega)).eq (show _ = Value.slice (some ⟨g, i * 3, none⟩) (n + 1 - i) (c - i) by rw [Int.toNat_natCast, subA_k (by omega)]; congr 1)) ?_
      refine rr (rd_move rfl) ?_
      refine r_cp (g := g) (off := i * 3) (k := 3) (dl := n + 1 - i) (cs := O ++ Y1 ++ D ++ T2) (cs' := O ++ imC x ++ D ++ T2) 1 (imC x) Try.underlying67 ei69 (cp_all (X := pts b 69 (imC x)) (vw_pts (off := 0) (Nat.le_refl _) (by decide) rfl rfl) (by repeat (first | with_reducible exact Sel.head | apply Sel.tail)) (by omega) rfl) rfl (by simp only [List.length_append, hti, hdi, hy1, imC_len]; omega) hall (by rw [← hti]; have := setL_mid (A := O) (B := Y1) (C := D ++ T2) (V := imC x) (by rw [hy1, imC_len]); simpa only [List.append_assoc] using this) ?_
      refine run_nil ?_
      refine St.kp [(0, _)] ?_
      refine St.then_n ?_
      refine sr ?_
      refine rr (rd_move rfl) ?_
      refine rr (rd_assign rfl) ?_
      refine nx ?_
      refine do_ret ?_
      refine St.then_r ?_
      refine do_ret1 Try.results38 (res_tmp rfl) ?_
      intro w hw
      refine ⟨(some ⟨g, 0, none⟩, c), trivial, rfl, Holds.ent (P := pts g 69 (O ++ imC x ++ D ++ T2)) (fun h hp => ⟨by simp only [ins1, List.length_append, List.length_cons, List.length_take, List.length_drop]; omega, ?_⟩) hw.sb⟩
      rw [flat_ins, hO, hD]
      exact pts_own' (by omega) hm (by simp only [List.length_append, hti, hdi, imC_len, hy1, hy2] at hcl ⊢; omega) (by simp only [List.length_append, hti, hdi, imC_len]; omega) h hp
end Go.Proofs.Ytgeldfgcicjidaa
