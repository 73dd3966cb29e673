/-
  The net's letters, one after another, by parts.
-/
import Derived.Test.YtnfmmfodnhmfaaaRN
namespace Go.Proofs.Ytnfmmfodnhmfaaa
open Go.RowKit
set_option linter.unusedSimpArgs false
set_option linter.unusedVariables false

theorem sl_part {w : World} {F : Nat → Prop} {π : Part} {k n : Nat} {v : Value} {cs : List Value} (hk : 0 < k) (s : Sl w F k v n cs) (hF : ∀ b, F b → ∃ o, π b = some o) (l : π.le (Part.of w)) : SlP π v k n cs := by
  obtain ⟨A, c, rfl, h1, h2, h3, hA⟩ := s
  refine ⟨A, c, rfl, h1, h2, h3, fun hn => ?_⟩
  obtain ⟨g, o, rfl, hlt, hG, hr⟩ := hA hn
  have h0 : 0 < cs.length := by rw [h3]; exact Nat.mul_pos hn hk
  have hc := hr 0 _ (List.getElem?_eq_getElem h0)
  obtain ⟨ob, hob⟩ := hF g hG
  have hw := l _ _ hob
  unfold World.cell? at hc
  split at hc
  · rename_i row T fr hb
    have hbb : w.heap[g]? = some (.cells row T fr) := hb
    have e : ob = .cells row T fr := Option.some.inj ((show w.heap[g]? = some ob from hw).symm.trans hbb)
    refine ⟨g, o, row, T, fr, rfl, by rw [hob, e], fun j u hu => ?_⟩
    have := hr j u hu
    rw [cell_of_row w g (o + j) row T fr hbb] at this
    exact this
  · cases hc
theorem own_new {w w' : World} {ω : Amb} {Γ : List HP} {T k n : Nat} {v : Value} {cs : List Value} (hh : Holds ω Γ w) (hf : Fr nowhere w w') (hr : w'.ownsRow w.heap.size T k v n cs) : Holds ω (own v T k n cs :: Γ) w' :=
  hh.more hf (fun x => if v.ownBlock = some x then w'.heap[x]? else none) (fun x o e => by
    split at e
    · rename_i h; exact ⟨(own_blk hr h).choose_spec.2, e⟩
    · cases e) (own_of_row (own_base hr (fun _ _ _ => Nat.zero_le _)) _ (fun g e => by simp [e]))
theorem own_spec (F : HP) (f t : Int) (v : Value) (bs : List UInt8) (hF : VwB F v bs) (hl : bs.length ≤ 140737488351232) :
    Spec Try.prog 24 [.agg #[.int .i64 f, .int .i64 t, v]] [] F (fun _ : Value => True) (fun v' => .agg #[.int .i64 f, .int .i64 t, v']) (fun v' => [bytesO v' bs]) := fun ω w hh => by
  refine (own_any f t (fun _ => True) v bs w (hF.sl .head hh) (by omega)).mono ?_
  rintro e w' ⟨A, c, he, h1, -, h2⟩
  exact ⟨_, trivial, he, own_new hh h2 h1⟩
/-- A net whose letters' data can be read, where M has them. -/
def netV (p : Nat) (L : List Letter) (M : List RLet) : HP := fun π => netP p L π ∧ ∀ x ∈ M, SlP π x.v 1 x.d.length (x.d.map bcell)
theorem rows_part {w : World} {F : Nat → Prop} {π : Part} (hF : ∀ b, F b → ∃ o, π b = some o) (l : π.le (Part.of w)) : ∀ (L : List Letter) (cs : List Value), RowsL (LetterR w F) L cs → ∃ M : List RLet, cs = cellsM M ∧ M.map RLet.L = L ∧ ∀ x ∈ M, SlP π x.v 1 x.d.length (x.d.map bcell)
  | [], cs, h => ⟨[], by cases h; rfl, rfl, fun _ h => by cases h⟩
  | x :: L, cs, h => by
    obtain ⟨c, cs', rfl, ⟨hd, A, cap, rfl, hb⟩, h'⟩ := h
    obtain ⟨M, rfl, h1, h2⟩ := rows_part hF l L cs' h'
    refine ⟨⟨x.f, x.t, A, cap, x.d⟩ :: M, rfl, by rw [List.map_cons, h1], fun y hy => ?_⟩
    rcases List.mem_cons.1 hy with rfl | hy
    · exact sl_part (by decide) hb hF l
    · exact h2 y hy
theorem all_spec (Fm : HP) (p : Nat) (L : List Letter) :
    Spec Try.prog 20 [.pointer (some ⟨p, 0, none⟩)] [netP p L] Fm (fun x : Nat × Option Addr × Nat × List RLet => x.2.2.2.map RLet.L = L) (fun x => .func (.func 35) #[] #[.pointer (some ⟨x.1, 0, none⟩)])
      (fun x => [pts x.1 54 [.slice x.2.1 x.2.2.2.length x.2.2.1], own (.slice x.2.1 x.2.2.2.length x.2.2.1) 35 3 x.2.2.2.length (cellsM x.2.2.2), netV p L x.2.2.2]) := fun ω w hh => by
  obtain ⟨ba, h1, h2, l1, l2, ap, hp, hs⟩ := id hh
  obtain ⟨F, hN, hF⟩ := netP_at hp l1
  refine (all_any p L F w hN).mono ?_
  rintro e w' ⟨c, A, cap, cs, he, hB, hO, hR, hf, hc, hA⟩
  have l1' : h1.le (Part.of w') := fun x o e => (hf.block x (heap_lt (l1 x o e)) id).trans (l1 x o e)
  obtain ⟨M, rfl, hM, hS⟩ := rows_part hF l1' L cs hR
  have hlen : M.length = L.length := by rw [← hM, List.length_map]
  rw [← hlen] at hB hO hA
  have hh' : Holds ω (netV p L M :: [Fm]) w := ⟨ba, h1, h2, l1, l2, ap, ⟨hp, hS⟩, hs⟩
  have h3 : Holds ω (own (.slice A M.length cap) 35 3 M.length (cellsM M) :: pts c 54 [.slice A M.length cap] :: netV p L M :: [Fm]) w' := by
    refine Holds.flat.1 (hh'.more (P := Sep [own (.slice A M.length cap) 35 3 M.length (cellsM M), pts c 54 [.slice A M.length cap]]) hf
      (fun x => if (Value.slice A M.length cap).ownBlock = some x ∨ x = c then w'.heap[x]? else none) (fun x o e => ?_) ?_)
    · split at e
      · rename_i h
        refine ⟨?_, e⟩
        rcases h with h | rfl
        · exact hA x h
        · exact hc
      · cases e
    · refine ⟨fun x => if (Value.slice A M.length cap).ownBlock = some x then w'.heap[x]? else none, Part.one c (.cells #[.slice A M.length cap] 54 (0, 0)), fun x o e => ?_, fun x o e => ?_, fun x => ?_, own_of_row hO _ (fun g e => by simp [e]), _, fun _ => none, Part.le_refl _, fun _ _ e => (by cases e), fun _ => .inr rfl, Part.one_self _ _, trivial⟩
      · dsimp only at e ⊢
        split at e
        · rename_i h; rw [if_pos (.inl h)]; exact e
        · cases e
      · unfold Part.one at e
        split at e
        · rename_i h; subst h; cases e
          exact (if_pos (Or.inr rfl)).trans hB
        · cases e
      · by_cases hx : x = c
        · left
          subst hx
          dsimp only
          rw [if_neg]
          intro h
          obtain ⟨hl, (⟨h4, _⟩ | ⟨g, cap', cur, h4, _, h5, _⟩)⟩ := hO
          · rw [h4] at h; cases h
          · rw [h4] at h; cases h
            have := h5.symm.trans hB
            simp at this
        · right; simp [Part.one, hx]
  exact ⟨⟨c, A, cap, M⟩, hM, he, h3.perm (.swap ..)⟩
/-- Item i of a net's letters. -/
def allX (L : List Letter) (i : Nat) (vs : List Value) : Prop := ∃ x v, L[i]? = some x ∧ vs = [.agg #[.int .i64 x.f, .int .i64 x.t, v]]
def allR (L : List Letter) (i : Nat) (vs : List Value) : HP := fun h => ∃ x v, (L[i]? = some x ∧ vs = [.agg #[.int .i64 x.f, .int .i64 x.t, v]]) ∧ bytesO v x.d h
abbrev allIT (c p : Nat) (A : Option Addr) (cap : Nat) (L : List Letter) (M : List RLet) : HP := Sep [pts c 54 [.slice A M.length cap], own (.slice A M.length cap) 35 3 M.length (cellsM M), netV p L M]
theorem all_iter (c p : Nat) (A : Option Addr) (cap : Nat) (L : List Letter) (M : List RLet) (hM : M.map RLet.L = L) (hn : M.length ≤ 10000) (hd : ∀ x ∈ M, x.d.length ≤ 140737488351232) (F0 : HP) :
    IterS Try.prog 35 [.pointer (some ⟨c, 0, none⟩)] (allIT c p A cap L M) (allX L) (allR L) (fun i => i = L.length) F0 := by
  intro ω l J Jx w hy hh
  refine enter Try.func35 rfl Try.ntmps35 rfl hh ?_
  simp only [argsB]
  have hlen : M.length = L.length := by rw [← hM, List.length_map]
  refine St.sel (.tail .head) (St.flat ?_)
  simp only [List.cons_append, List.nil_append]
  refine do_seq ?_
  refine do_region ?_
  refine run_read rfl (by decide) (fun _ => nofun) (rd_load rfl row54 (cells_pts1 (by repeat (first | with_reducible exact Sel.head | apply Sel.tail)) rfl)) ?_
  refine run_read rfl (by decide) (fun _ => nofun) (rd_len Try.underlying54 rfl) ?_
  refine run_read rfl (by decide) (fun _ => nofun) (rd_move rfl) ?_
  refine run_nil ?_
  refine St.then_n ?_
  refine do_block ?_
  refine do_loop (fun i : Nat => i ≤ L.length) (fun i => [(0, .func (.yield l) #[] #[]), (5, .slice A M.length cap), (6, .int .i64 M.length), (7, .int .i64 i)]) (fun i => [J i, pts c 54 [.slice A M.length cap], own (.slice A M.length cap) 35 3 M.length (cellsM M), netV p L M, F0]) (fun i => L.length - i) 0 (Nat.zero_le _) ⟨rfl, rfl, rfl, rfl, trivial⟩ (by repeat (first | exact Pick.nil | apply Pick.cons (by repeat (first | with_reducible exact Sel.head | apply Sel.tail)))) ?_
  intro i hi
  try dsimp only at hi ⊢
  refine do_seq ?_
  refine do_region ?_
  refine run_read rfl (by decide) (fun _ => nofun) (rd_lt rfl rfl) ?_
  refine run_nil ?_
  refine St.then_n ?_
  refine do_seq ?_
  first | refine do_condp rfl (fun h8 => ?_) (fun h8 => ?_) | refine do_cond rfl (fun h8 => ?_) (fun h8 => ?_)
  · have hx : M[i]? = some M[i] := List.getElem?_eq_getElem (by omega)
    have hxm := List.mem_of_getElem? hx
    generalize M[i] = x at hx hxm
    have hc := cellsM_at M i x hx
    have hxL : L[i]? = some x.L := by rw [← hM, List.getElem?_map, hx]; rfl
    have hV : VwB (netV p L M) x.v x.d := fun h hh => hh.2 x hxm
    refine St.sel (P := own (.slice A M.length cap) 35 3 M.length (cellsM M)) (by repeat (first | with_reducible exact Sel.head | apply Sel.tail)) (St.own_some (by omega) (fun g c2 hg h3 h4 h5 => ?_))
    cases hg
    refine do_skip ?_
    refine St.then_n ?_
    refine do_seq ?_
    refine do_block ?_
    refine do_seq ?_
    refine do_region ?_
    refine run_read rfl (by decide) (fun _ => nofun) (rd_indexAddr Try.underlying54 ei35 rfl rfl (by omega) (by omega)) ?_
    refine run_read rfl (by decide) (fun _ => nofun) (rd_load_row rfl row35 rfl (Vw.cells (k := 3) (cs := cellsM M) (vs := x.C) vw_own (by repeat (first | with_reducible exact Sel.head | apply Sel.tail)) (by omega) hc)) ?_
    refine run_alloc rfl (by decide) zero35 (fun b4 => ?_)
    first | refine run_store_all rfl rfl rfl (by repeat (first | with_reducible exact Sel.head | apply Sel.tail)) row35 rfl rfl rfl ?_ | refine run_store_mid rfl rfl rfl (by repeat (first | with_reducible exact Sel.head | apply Sel.tail)) row35 rfl rfl rfl (by simp only [setL, List.length_cons, List.length_nil, Nat.reduceAdd, List.take_succ_cons, List.take_zero, List.drop_succ_cons, List.drop_zero, List.cons_append, List.nil_append, List.append_nil]; exact rfl) ?_
    refine run_nil ?_
    refine St.then_n ?_
    refine do_seq ?_
    refine do_region ?_
    refine run_read rfl (by decide) (fun _ => nofun) (rd_move rfl) ?_
    refine run_read rfl (by decide) (fun _ => nofun) (rd_load_row (vs := [_, _, _]) rfl row35 rfl (cells_pts (by repeat (first | with_reducible exact Sel.head | apply Sel.tail)) rfl)) ?_
    refine run_spec rfl (by decide) (by kernel_rfl) rfl (by repeat (first | exact Pick.nil | apply Pick.cons (by repeat (first | with_reducible exact Sel.head | apply Sel.tail)))) (own_spec _ x.f x.t x.v x.d (Vw.sep hV (by repeat (first | with_reducible exact Sel.head | apply Sel.tail))) (hd x hxm)) ?_
    rintro v1 -
    refine St.ent (Q := allR L i [.agg #[.int .i64 x.f, .int .i64 x.t, v1]]) (fun h hb => ⟨x.L, v1, ⟨hxL, rfl⟩, hb⟩) ?_
    refine St.pack (Ps := [pts c 54 [.slice (some ⟨g, 0, none⟩) M.length cap], own (.slice (some ⟨g, 0, none⟩) M.length cap) 35 3 M.length (cellsM M), netV p L M]) (by repeat (first | exact Pick.nil | apply Pick.cons (by repeat (first | with_reducible exact Sel.head | apply Sel.tail)))) ?_
    try simp only [List.cons_append, List.nil_append]
    refine run_yieldB rfl (by decide) rfl rfl hy i ⟨x.L, v1, hxL, rfl⟩ (by repeat (first | exact Pick.nil | apply Pick.cons (by repeat (first | with_reducible exact Sel.head | apply Sel.tail)))) (fun b => ?_)
    refine run_read rfl (by decide) (fun _ => nofun) (rd_not rfl) ?_
    refine run_nil ?_
    refine St.keep (β' := [(0, _), (5, _), (6, _), (7, _), (15, _)]) ⟨rfl, rfl, rfl, rfl, rfl, trivial⟩ ?_
    refine St.then_n ?_
    first | refine do_condp rfl (fun h15 => ?_) (fun h15 => ?_) | refine do_cond rfl (fun h15 => ?_) (fun h15 => ?_)
    · obtain rfl : b = false := by simpa using h15
      simp only [yP]
      refine do_ret ?_
      refine St.blk_r ?_
      refine St.then_r ?_
      refine St.then_r ?_
      refine St.blk_r ?_
      refine do_ret0 Try.results35 ?_
      intro w hw
      exact ⟨⟨_, rfl⟩, .inr (hw.sub (by repeat (first | exact Pick.nil | apply Pick.cons (by repeat (first | with_reducible exact Sel.head | apply Sel.tail)))))⟩
    · obtain rfl : b = true := by simpa using h15
      simp only [yP]
      refine St.flat ?_
      simp only [List.cons_append, List.nil_append]
      refine St.sel (P := allIT c p (some ⟨g, 0, none⟩) cap L M) (by repeat (first | with_reducible exact Sel.head | apply Sel.tail)) (St.flat ?_)
      simp only [List.cons_append, List.nil_append]
      refine do_skip ?_
      refine St.blk_n ?_
      refine St.then_n ?_
      refine do_region ?_
      first | refine run_read rfl (by decide) (fun _ => nofun) ((rd_add rfl rfl).eq (congrArg (Value.int .i64) (IntWalk.i64_in _ (by omega)))) ?_ | refine run_read rfl (by decide) (fun _ => nofun) (rd_add rfl rfl) ?_
      refine run_read rfl (by decide) (fun _ => nofun) (rd_move rfl) ?_
      refine run_nil ?_
      refine St.then_n ?_
      exact loop_back (i + 1) (by omega) (by omega) ⟨rfl, rfl, rfl, rfl, trivial⟩ (by repeat (first | exact Pick.nil | apply Pick.cons (by repeat (first | with_reducible exact Sel.head | apply Sel.tail))))
  · refine do_exit ?_
    refine St.then_x ?_
    refine St.then_x ?_
    refine St.blk_s ?_
    refine do_end0 Try.results35 ?_
    intro w hw
    exact ⟨⟨_, rfl⟩, .inl ⟨i, by omega, ((Holds.flat (Γ := [pts c 54 [.slice A M.length cap], own (.slice A M.length cap) 35 3 M.length (cellsM M), netV p L M]) (Δ := [J i, F0])).2 (hw.sub (by repeat (first | exact Pick.nil | apply Pick.cons (by repeat (first | with_reducible exact Sel.head | apply Sel.tail)))))).swap_⟩⟩
end Go.Proofs.Ytnfmmfodnhmfaaa
