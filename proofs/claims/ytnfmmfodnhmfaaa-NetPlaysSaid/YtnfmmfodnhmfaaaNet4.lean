/- The walk of the net's iterator All. -/
import Derived.Test.YtnfmmfodnhmfaaaNet3
import Derived.Test.YtnfmmfodnhmfaaaRange
import Derived.Test.YtnfmmfodnhmfaaaGen
namespace Go.Proofs.Ytnfmmfodnhmfaaa
open Go.RowKit Go.Maps
attribute [local go_sem] Oper.semAt_some

set_option maxHeartbeats 400000 in
theorem clone_letters (A : Option Addr) (n c : Nat) (G : Nat → Prop) (cs : List Value) (w : World) (h : Sl w G 3 (.slice A n c) n cs) (h1 : ∀ u ∈ cs, u.oneCell' = true) (hb : n ≤ 10000) :
    Calls Try.prog 34 #[.slice A n c] w fun e w' => ∃ A' c', e = .returned (.slice A' n c') ∧ w'.ownsRow 0 35 3 (.slice A' n c') n cs ∧
      (∀ g, (Value.slice A' n c').ownBlock = some g → w.heap.size ≤ g) ∧ Fr nowhere w w' := by
  rcases A with _ | ad
  · obtain ⟨_, _, h2, _, _, hl, hA⟩ := h
    injection h2 with h2 h3 h4
    subst h2
    have hn : n = 0 := by
      rcases Nat.eq_zero_or_pos n with h0 | h0
      · exact h0
      · obtain ⟨_, _, h, _⟩ := hA h0
        cases h
    subst hn
    have hcs : cs = [] := List.eq_nil_of_length_eq_zero (by simpa using hl)
    subst hcs
    have hnil := fun (W : World) => Lib.run_eql_slice_nil (P := Try.prog) W 54 35 none 0 c 0 0 Try.underlying54
    clear hA hl h3 h4
    go_enter Try.func34, Try.ntmps34
    go_wp2
    go_ret
    exact ⟨none, 0, rfl, World.ownsRow_nil _ _ _ _, by simp [Value.ownBlock], Fr.refl _ _⟩
  · have hnil := fun (W : World) => Lib.run_eql_slice_nil (P := Try.prog) W 54 35 (some ad) n c 0 0 Try.underlying54
    obtain ⟨i0, hi, hz0, hz1, hz2⟩ := info_parts info_letter
    go_enter Try.func34, Try.ntmps34
    go_wp2_with (at_builtin; refine wpList_append_sl _ rfl (.tmp 5) (.tmp 6) _ rfl w.heap.size 35 i0 _ 3 40 Try.underlying54 hi hz0 hz1 hz2 rfl (by omega) (.slice (some ⟨w.heap.size, 0, none⟩) 0 0) 0 [] rfl ?c1 G (.slice (some ad) n c) n cs rfl ?c2 h1 ?c3 ?c4 ?c5 ?_; rotate_left 5; intro v' w1 hown hg hat hnl)
    case c1 => exact World.ownsRow_made _ _ _ (Nat.le_refl _) (by simp [maxLen]) (by simp)
    case c2 => exact Sl.same h (by simp) (fun b _ hlt => Below.heap_alloc _ _ _ hlt)
    case c3 => simp only [maxLen]; omega
    case c4 => omega
    case c5 => simp
    go_ret
    have hbase : ∀ g, v'.ownBlock = some g → w.heap.size ≤ g := fun g hg' => (own_blk hown hg').choose_spec.2
    obtain ⟨A', c', rfl, _⟩ := ownsRow_slice hown
    simp only [Nat.zero_add, List.nil_append] at hown hbase ⊢
    refine ⟨A', c', rfl, own_base hown (fun _ _ _ => Nat.zero_le _), hbase, ?_⟩
    exact ((Fr.refl _ _).alloc _).grown hg (fun k e => by simp [Value.ownBlock] at e; omega)

theorem all_any (p : Nat) (L : List Letter) (F : Nat → Prop) (w : World) (h : NetAt w p L F) :
    Calls Try.prog 20 #[.pointer (some ⟨p, 0, none⟩)] w fun e w' => ∃ c A cap cs, e = .returned (.func (.func 35) #[] #[.pointer (some ⟨c, 0, none⟩)]) ∧
      Blk w' c 54 #[.slice A L.length cap] ∧ w'.ownsRow 0 35 3 (.slice A L.length cap) L.length cs ∧ RowsL (LetterR w' F) L cs ∧ Fr nowhere w w' ∧ w.heap.size ≤ c ∧ (∀ g, (Value.slice A L.length cap).ownBlock = some g → w.heap.size ≤ g) := by
  obtain ⟨A, cap, m, cs, M, hp, hown, hcs, hM, hto, hL, hFp, hFm, hFA, hFl⟩ := h
  obtain ⟨hp0, hp1, hpf0, hpf1⟩ := hp.facts2
  have hpl := hp.lt
  have h1c : ∀ u ∈ cs, u.oneCell' = true := hcs.all fun y c hy => hy.one
  have hcl := clone_letters A L.length cap (fun b => b < w.heap.size) cs (w.alloc (.cells #[.slice none 0 0] 54)) ((Sl.of_own hown (fun g hg => (hown.lt g hg).2)).same (by simp) (fun b hb _ => hp_new _ _ _ hb)) h1c hL
  have H := Lib.hid hcl
  have Hcs := Lib.hid hcs
  have Hfl := Lib.hid hFl
  clear hcs hto hFA hFl hcl h1c hown
  generalize hn : L.length = n at *
  have Hn := Lib.hid hn
  clear hn
  go_enter Try.func20, Try.ntmps20
  go_wp2_with fail
  refine H.out.mono ?_
  rintro e w1 ⟨A', c', rfl, hown, hbase, hf1⟩
  have b1 : Blk w1 w.heap.size _ _ := (Blk.new w _ _).same (hf1.block _ (by simp) id)
  obtain ⟨r0, rf0⟩ := b1.facts1
  have Hb := Lib.hid hbase
  clear hbase
  go_wp2
  go_ret
  have hf01 : Fr nowhere w w1 := Fr.trans (Fr.alloc (Fr.refl _ _) _) hf1 (fun _ _ e => e)
  refine ⟨w.heap.size, A', c', cs, rfl, b1.set_ 0 _, own_same hown (fun g hg _ _ => hp_set _ _ _ _ _ _ ?_), Hcs.out.mono (fun x c _ hx => ?_), ?_, Nat.le_refl _, fun g hg => ?_⟩
  · have := Hb.out g hg
    simp at this; omega
  · obtain ⟨hd, A3, c3, rfl, hb3⟩ := hx
    refine ⟨hd, A3, c3, rfl, (hb3.mono (fun b _ hb => hb.1)).same (by simp; exact hf01.size) (fun b hb hlt => ?_)⟩
    rw [hp_set _ _ _ _ _ _ (by omega)]
    exact hf01.block b hlt id
  · (repeat (first | exact Fr.refl _ _ | assumption | refine Fr.setCell ?_ (by first | (right; omega) | (right; simp; done) | (right; simp; omega) | (left; simp; done) | (left; simp; omega) | (left; dsimp only; omega)) _ | refine Fr.alloc ?_ _ | refine Fr.drew ?_ | refine Fr.setRow ?_ (by first | (right; omega) | (right; simp; done) | (right; simp; omega) | (left; simp; done) | (left; simp; omega) | (left; dsimp only; omega)) _))
  · have := Hb.out g hg
    simp at this; omega


/-- Item i of a net's letters. -/
def AllItem (B : Nat) (L : List Letter) (i : Nat) (vs : Array Value) (W : World) : Prop :=
  ∃ x A c, L[i]? = some x ∧ vs = #[.agg #[.int .i64 x.f, .int .i64 x.t, .slice A x.d.length c]] ∧ W.ownsRow B 5 1 (.slice A x.d.length c) x.d.length (x.d.map bcell)

set_option maxHeartbeats 1000000 in
theorem all1_iter (m c : Nat) (L : List Letter) (A : Option Addr) (cap : Nat) (cs : List Value) (G Fb : Nat → Prop) (w : World) (hc : Blk w c 54 #[.slice A L.length cap])
    (hown : w.ownsRow 0 35 3 (.slice A L.length cap) L.length cs) (hcs : RowsL (LetterR w G) L cs) (hFc : ¬ Fb c) (hFr : ∀ g, (Value.slice A L.length cap).ownBlock = some g → ¬ Fb g) (hFG : ∀ b, G b → b < w.heap.size → ¬ Fb b) :
    Iterates Fence.wide m Try.prog 35 #[.pointer (some ⟨c, 0, none⟩)] Fb (AllItem w.heap.size L) (fun i => i = L.length) w := by
  intro l J Jx K0 W hlw hlW hfr hJl hJ hJx hY h0 hK0
  -- what stays
  have stay : ∀ W', Fr (fun b => Fb b ∨ b = l) W W' → Blk W' c 54 #[.slice A L.length cap] ∧ W'.ownsRow 0 35 3 (.slice A L.length cap) L.length cs ∧ RowsL (LetterR W' (fun b => b < w.heap.size)) L cs ∧ W.heap.size ≤ W'.heap.size := fun W' hf => by
    have hz := hfr.size
    have same : ∀ b, b < w.heap.size → ¬ Fb b → W'.heap[b]? = w.heap[b]? := fun b hb hn => (hf.block b (by omega) (by rintro (h | h); exact hn h; omega)).trans (hfr.block b hb id)
    refine ⟨hc.same (same c hc.lt hFc), own_same hown (fun g hg _ hlt => same g hlt (hFr g hg)), hcs.mono (fun x c _ hx => ?_), hf.size⟩
    obtain ⟨hd, A3, c3, rfl, hb3⟩ := hx
    refine ⟨hd, A3, c3, rfl, ?_⟩
    have hb4 : Sl w (fun b => b < w.heap.size ∧ G b) 1 (.slice A3 x.d.length c3) x.d.length (x.d.map bcell) := hb3.mono (fun b hlt hg => ⟨hlt, hg⟩)
    exact (hb4.same (Nat.le_trans hz hf.size) (fun b hb hlt => same b hlt (hFG b hb.2 hlt))).mono (fun b _ hb => hb.1)
  have Stay := Lib.hid stay
  have HY := Lib.hid hY
  have HJ := Lib.hid hJ
  obtain ⟨s1, s2, s3, s4⟩ := stay W (Fr.refl _ _)
  obtain ⟨r0, rf0⟩ := s1.facts1
  have hnW := hfr.size
  clear stay hY hJ hJl hFG hFr s2 s3
  have hnl : L.length ≤ 9223372036854775807 := by
    rcases hown.2 with ⟨_, h⟩ | ⟨_, _, _, _, _, _, h1, h2, _⟩
    · omega
    · simp only [maxLen] at h2; omega
  refine callsIn_of_wp Try.func35 rfl trivial ?_
  simp only [Try.ntmps35, List.size_toArray, List.length_cons, List.length_nil, Nat.reduceAdd, Nat.reduceSub, Array.replicate_succ, Array.replicate_zero, List.push_toArray, List.append_toArray, List.nil_append, List.cons_append]
  generalize hn : L.length = n at *
  have Hn := Lib.hid hn
  clear hn
  gi_wp2
  gi_loopw [7] (fun i wr => ∃ (k : Nat) (K : Nat → Prop), i = .int .i64 k ∧ k ≤ n ∧ J k K wr ∧ Fr (fun b => Fb b ∨ b = l) W wr ∧ Grows Fb K W) (fun i wr => n - (intOf i).toNat)
  case atStart => exact ⟨0, K0, rfl, Nat.zero_le _, h0, Fr.refl _ _, fun b hb => .inl (hK0 b hb).1⟩
  case round =>
    obtain ⟨k, K, rfl, hk, hJk, hfk, hgk⟩ := hrel
    obtain ⟨t1, t2, t3, t4⟩ := Stay.out wr hfk
    by_cases hlt : k < n
    · obtain ⟨x, hx⟩ : ∃ x, L[k]? = some x := ⟨_, List.getElem?_eq_getElem (by have := Hn.out; omega)⟩
      have hget := t3.get (k := 3) (fun y c hy => by obtain ⟨_, _, _, rfl, _⟩ := hy; rfl) hx
      obtain ⟨cc, ⟨hd, A3, c3, hcc, hb⟩, hget⟩ := hget
      subst hcc
      obtain ⟨g, cap', hA, _, _⟩ := t2.form (by omega)
      have hA : A = some ⟨g, 0, none⟩ := by injection hA
      subst hA
      have e0 : wr.cell? ⟨g, k * 3, none⟩ = _ := (t2.cellAt (k * 3) (by omega)).trans (hget 0 _ rfl)
      have e1 : wr.cell? ⟨g, k * 3 + 1, none⟩ = _ := (t2.cellAt (k * 3 + 1) (by omega)).trans (hget 1 _ rfl)
      have e2 : wr.cell? ⟨g, k * 3 + 2, none⟩ = _ := (t2.cellAt (k * 3 + 2) (by omega)).trans (hget 2 _ rfl)
      have hgl : g < wr.heap.size := (t2.lt g rfl).2
      have Hx := Lib.hid hx
      have Hb := Lib.hid hb
      have T2 := Lib.hid t2
      clear hx hget t3 hb t2 hown
      gi_wp2_with fail
      refine ⟨trivial, fun h => absurd h wide_depth, callsIn_wide.2 ((own_any x.f x.t (fun b => b < w.heap.size) _ x.d _ (Hb.out.same (by simp) (fun b _ hb => hp_new _ _ _ hb)) (by omega)).mono ?_)⟩
      rintro e w1 ⟨A', c', rfl, ho, hn', hf1⟩
      have hf01 : Fr nowhere wr w1 := Fr.trans (Fr.alloc (Fr.refl _ _) _) hf1 (fun _ _ e => e)
      have hz01 := hf01.size
      obtain ⟨fn, tmps, assign, body, hy, hR⟩ := HY.out k K #[.agg #[.int .i64 x.f, .int .i64 x.t, .slice A' x.d.length c']] w1 (by omega) (HJ.out k K _ _ hJk hf01.kin) ⟨x, A', c', Hx.out, rfl, own_base ho (fun g _ hg => by simp at hg; omega)⟩
      have HR := Lib.hid (roundIn_wide' (n' := m - 1) hR)
      clear hR
      dsimp only
      gi_wp2_with fail
      refine ⟨fun h => absurd h wide_depth, HR.out.mono ?_⟩
      rintro e W3 (⟨rfl, K3, hJ3, hg3, hf3⟩ | ⟨rfl, K3, hJx3, hg3, hf3⟩)
      · have hfk1 : Fr (fun b => Fb b ∨ b = l) W w1 := Fr.trans hfk (hf01.mono (F' := fun b => Fb b ∨ b = l) (fun _ _ e => e.elim)) (fun _ _ e => e)
        have hfr3 := Grows.fr hfk1 hgk hf3
        have hgr3 := hgk.trans hg3 hfk1.size
        clear hy
        dsimp only
        gi_wp2
        go_roundw
        case rel => exact ⟨k + 1, K3, by go_num, by omega, hJ3, hfr3, hgr3⟩
        case measure => simp [intOf]; omega
      · clear hy
        dsimp only
        gi_wp2
        refine bodyPost_ret (results_none rfl _ _ _) rfl ?_
        exact ⟨⟨_, rfl⟩, .inr ⟨K3, hJx3⟩⟩
    · have hkn : k = n := by omega
      subst hkn
      clear hlt t3 t2
      gi_wp2
      go_end0
      exact ⟨⟨_, rfl⟩, .inl ⟨k, K, rfl, hJk⟩⟩
end Go.Proofs.Ytnfmmfodnhmfaaa
