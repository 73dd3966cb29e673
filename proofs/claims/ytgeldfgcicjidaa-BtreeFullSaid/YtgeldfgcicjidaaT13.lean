/-
  A tree behind a change of one key; Put.
-/
import Derived.Test.YtgeldfgcicjidaaT12
namespace Go.Proofs.Ytgeldfgcicjidaa
open Go.RowKit
set_option linter.unusedSimpArgs false
set_option linter.unusedVariables false

/-- A tree by its root. -/
def IsR (S : PS) (dep r : Nat) (root : Int) (l : List KV) : Prop := (root = -1 ∧ l = [] ∧ dep = 0 ∧ r = 0) ∨ ∃ i : Nat, root = i ∧ IsT S dep r i l
theorem IsR.ext {S S' : PS} {k dep r : Nat} {root : Int} {l : List KV} (e : Ext S S' k) : IsR S dep r root l → IsR S' dep r root l
  | .inl h => .inl h
  | .inr ⟨i, h1, h2⟩ => .inr ⟨i, h1, h2.ext e⟩
theorem IsR.ok {S : PS} {dep r : Nat} {root : Int} {l : List KV} : IsR S dep r root l → ∀ x ∈ l, okKV x
  | .inl ⟨_, h, _⟩, x, hx => by rw [h] at hx; cases hx
  | .inr ⟨_, _, h⟩, x, hx => h.ok x hx
theorem IsR.lo {S : PS} {dep r : Nat} {root : Int} {l : List KV} : IsR S dep r root l → -1 ≤ root
  | .inl ⟨h, _⟩ => by omega
  | .inr ⟨_, h, _⟩ => by omega
theorem ext_fre {S S' : PS} {k : Nat} (e : Ext S S' k) : S'.fre.length ≤ S.fre.length := by
  unfold PS.fre
  rw [e.n, ← List.countP_eq_length_filter, ← List.countP_eq_length_filter]
  refine List.countP_mono_left fun j _ h => ?_
  cases hj : S.free j with
  | true => rfl
  | false => rw [(e.used j hj).1] at h; cases h
/-- What comes of a change of one key. -/
structure RtOk (S S' : PS) (k dep r : Nat) (g : List KV → List KV) (l : List KV) (root' : Int) : Prop where
  ext : Ext S S' k
  cnt : S.fre.length ≤ S'.fre.length + (3 * (dep + 1) + 2)
  dn : g l ≠ [] → S'.fre.length < S.fre.length
  tree : ∃ d' r', IsR S' d' r' root' (g l) ∧ d' ≤ dep + 1 ∧ ((∀ l, l.length ≤ (g l).length) → g l ≠ [] → (2 ≤ r ∨ dep = 0) → (d' = dep ∧ r ≤ r' ∧ r' ≤ r + 2) ∨ (d' = dep + 1 ∧ 2 ≤ r' ∧ r' ≤ 3 ∧ (dep = 0 ∨ 8 ≤ r)))
def RtR (S : PS) (k dep r : Nat) (g : List KV → List KV) (l : List KV) (root : Int) (y : Bool × PS × Int) : Prop :=
  (y.1 = true → RtOk S y.2.1 k dep r g l y.2.2) ∧ (y.1 = false → Ext S y.2.1 k ∧ y.2.1.fre = [] ∧ S.fre.length < 3 * (dep + 1) + 2 ∧ y.2.2 = root)
set_option maxHeartbeats 8000000 in
theorem changed_spec (bf : FuncId) (cap : List Value) (C : HP) (key : List UInt8) (g : List KV → List KV) (pre : List KV → Prop) (hg : GOk key g pre) (hby : ByOk bf cap C g pre) (hb : hasBody Try.prog bf = true)
    (F : HP) (t p d k : Nat) (root : Int) (S : PS) (hS : S.good k) (dep r : Nat) (l : List KV) (hT : IsR S dep r root l) (hs : KSrt l) (hp : pre l) :
    Spec Try.prog 33 [.pointer (some ⟨t, 0, none⟩), .string (strOf key), .func (.func bf) #[] cap.toArray] [treeO t p root, pagerO d p S, C] F (RtR S k dep r g l root) (fun y => .int .i64 (wrE y.1)) (fun y => [treeO t p y.2.2, pagerO d p y.2.1, C]) := by
  intro ω w hh
  refine enter Try.func33 rfl Try.ntmps33 rfl hh ?_
  simp only [List.cons_append, List.nil_append, argsB, treeO]
  have hlo := hT.lo
  refine sr ?_
  refine rr (rd_assign rfl) ?_
  refine nx ?_
  refine sr ?_
  refine rr (rd_assign rfl) ?_
  refine nx ?_
  refine sr ?_
  refine rr (rd_assign rfl) ?_
  refine nx ?_
  refine do_seq ?_
  refine sr ?_
  refine rr (rd_move rfl) ?_
  refine rr (rd_nilCheck rfl) ?_
  refine rr (rd_fa rfl fld71_1) ?_
  refine rr (rd_ld rfl row3) ?_
  refine rr (rd_lt rfl rfl) ?_
  refine run_nil ?_
  refine St.kp [(0, _), (1, _), (2, _), (16, _)] ?_
  refine St.then_n ?_
  refine do_cut (ChR S k dep r g l) (fun y => [(0, .pointer (some ⟨t, 0, none⟩)), (7, wrV y.2.1 y.1.1 y.2.2.2.1.length y.1.2), (8, .int .i64 (wrE y.2.1))]) (fun y => [wrH y.2.1 (ownI (.slice y.1.1 y.2.2.2.1.length y.1.2) y.2.2.2.1.length y.2.2.2.1), treeO t p root, pagerO d p y.2.2.1, C, F]) (fun K hK => ?_) ?_
  · first | refine do_condp rfl (fun h16 => ?_) (fun h16 => ?_) | refine do_cond rfl (fun h16 => ?_) (fun h16 => ?_)
    · have hroot : root = -1 ∧ l = [] ∧ dep = 0 ∧ r = 0 := by
        rcases hT with h | ⟨i, h, _⟩
        · exact h
        · omega
      obtain ⟨hr1, rfl, rfl, rfl⟩ := hroot
      have hok := hg.ok [] (fun _ h => nomatch h)
      have hgl := hg.len []
      rw [List.length_nil] at hgl
      refine St.sl (P := pts t 71 [.pointer (some ⟨p, 0, none⟩), .int .i64 root]) (St.ent (Q := treeO t p root) (fun _ h => h) ?_)
      refine do_region ?_
      refine St.emp ?_
      refine rr (rd_move rfl) ?_
      refine rr (rd_move rfl) ?_
      refine rcv (f := bf) (cap := cap) (hs := hby _ (Sep []) none 0 0 [] [] (vw_nil _ 3) rfl (by decide) rfl hs (fun _ h => nomatch h) hp) (k := ?_) (hf := hb)
      rintro ⟨⟨A2, c2⟩, L2, X2⟩ ⟨hL2, hX2⟩
      dsimp only at hL2 hX2 ⊢
      simp only [List.cons_append, List.nil_append]
      have hn2 : L2.length = (g []).length := by have := congrArg List.length hL2; rwa [List.length_map, List.length_map] at this
      have hok2 : ∀ x ∈ L2, x.p.ok := fun x hx => by
        have h1 : x.p ∈ (g []).map lfI := hL2 ▸ List.mem_map_of_mem hx
        obtain ⟨y, hy, hxy⟩ := List.mem_map.1 h1
        rw [← hxy]; exact lfI_ok.2 (hok y hy)
      refine rc (hs := parts_spec _ true A2 (g []).length c2 L2 (Vw.sep (vw_Q (f := imC)) (by repeat (first | with_reducible exact Sel.head | apply Sel.tail))) hn2 (by omega) hok2) (k := ?_)
      rintro ⟨⟨A3, c3⟩, N⟩ ⟨hN3, hNl⟩
      dsimp only at hN3 hNl ⊢
      have hNp := parts_ps hN3
      have hNe := parts_encs hN3 hNl
      rw [hL2] at hNp hNe
      have hp2 := (partsB_ok (leaf := true) (l := (g []).map lfI) (fun x hx => by obtain ⟨y, hy, rfl⟩ := List.mem_map.1 hx; exact lfI_ok.2 (hok y hy)) (fun x hx => by obtain ⟨y, hy, rfl⟩ := List.mem_map.1 hx; rfl)).2
      have hpb := partsB_leaf (l := (g []).map lfI) (fun x hx => by obtain ⟨y, hy, rfl⟩ := List.mem_map.1 hx; exact lfI_ok.2 (hok y hy))
      rw [List.length_map] at hpb
      have hNn : N.length = (partsB true ((g []).map lfI)).length := by rw [← hNp, List.length_map]
      have hnd : ∀ y ∈ N, NdOk y.leaf (ps y.l) := fun y hy => by rw [hNl y hy]; exact hp2 _ (hNp ▸ List.mem_map_of_mem (f := fun y : Nm => ps y.l) hy)
      try simp only [List.cons_append, List.nil_append]
      refine rc (hs := written_spec _ t p d k root S hS N A3 N.length c3 rfl (by omega) (Vw.sep (vw_Q (f := ndC)) (by repeat (first | with_reducible exact Sel.head | apply Sel.tail))) (fun y hy => Vw.sep (vw_row hy) (by repeat (first | with_reducible exact Sel.head | apply Sel.tail))) (fun y hy x hx => Vw.sep (hX2 x (parts_mem hN3 hy x hx)) (by repeat (first | with_reducible exact Sel.head | apply Sel.tail))) hnd) (k := ?_)
      rintro ⟨A4, c4⟩ -
      dsimp only
      have hWk := wrAll_ok hS (encs N) (fun b hb => by obtain ⟨y, hy, rfl⟩ := List.mem_map.1 hb; exact nd_len (hnd y hy))
      rw [hNe] at hWk ⊢
      obtain ⟨⟨S1, P, ok⟩, hW⟩ : ∃ r, wrAll S ((partsB true ((g []).map lfI)).map (encN true)) = r := ⟨_, rfl⟩
      rw [hW] at hWk ⊢
      dsimp only
      try simp only [List.cons_append, List.nil_append]
      refine rr (rd_move rfl) ?_
      refine rr (rd_extract rfl rfl) ?_
      refine rr (rd_extract rfl rfl) ?_
      refine rr (rd_assign rfl) ?_
      refine rr (rd_assign rfl) ?_
      refine run_nil ?_
      refine St.kp [(0, _), (7, _), (8, _)] ?_
      refine St.then_n ?_
      first
        | (have hyy := hy
           exact St.sb (St.kq [(0, _), (7, _), (8, _)] (h := hK y hy)))
        | (have hyy := hr1
           cases ok with
           | false =>
             obtain ⟨n1, n2⟩ := hWk.no rfl
             have n3 := hWk.cnt
             dsimp only at n1 n2 n3
             rw [List.length_map] at n2
             rw [n1, List.length_nil] at n3
             have hk := hK ((A4, c4), false, S1, [], []) ⟨(fun h => by cases h), fun _ => ⟨hWk.ext, n1, by (try dsimp only); omega⟩⟩
             dsimp only [wrH, wrV] at hk ⊢
             exact St.sb (St.kq [(0, _), (7, _), (8, _)] (h := hk))
           | true =>
             obtain ⟨e, v1, v2, K, u1, u2, u3, u4⟩ := leaf_up hS hok hW
             have hPl : P.length = N.length := by have := hWk.yes rfl; rw [List.length_map, ← hNn] at this; exact this
             have hul : (upM N P).length = N.length := by rw [upM_len (by omega), hPl]
             have hk := hK ((A4, c4), true, S1, upM N P, K) ⟨fun _ => ⟨⟨e, fun x hx => ⟨_, (u2 x hx).1⟩, u3, by (try dsimp only); omega, by (try dsimp only); omega, by (try dsimp only); omega, fun _ => .inl rfl, fun x hx => ⟨x.2.length, by have := (u2 x (by dsimp only at hx; rw [hx]; exact List.mem_cons_self)).2; omega, (u2 x (by dsimp only at hx; rw [hx]; exact List.mem_cons_self)).1, fun _ => Nat.zero_le _⟩⟩, by dsimp only; rw [upM_ps, hNp, u1], upM_nil N P⟩, (fun h => by cases h)⟩
             dsimp only [wrH, wrV] at hk ⊢
             rw [hul] at hk
             exact St.sb (St.kq [(0, _), (7, _), (8, _)] (h := hk)))
    · obtain ⟨i, hri, hTi⟩ : ∃ i : Nat, root = i ∧ IsT S dep r i l := by
        rcases hT with ⟨h, _⟩ | h
        · omega
        · exact h
      subst hri
      refine do_region ?_
      refine rr (rd_move rfl) ?_
      refine rr (rd_move rfl) ?_
      refine rr (rd_nilCheck rfl) ?_
      refine rr (rd_fa rfl fld71_1) ?_
      refine rr (rd_ld rfl row3) ?_
      refine rr (rd_move rfl) ?_
      refine rr (rd_move rfl) ?_
      refine St.sl (P := pts t 71 [.pointer (some ⟨p, 0, none⟩), .int .i64 (i : Int)]) (St.ent (Q := treeO t p i) (fun _ h => h) ?_)
      refine rc (hs := change_spec bf cap C key g pre hg hby hb dep _ t p d k _ S hS r i l hTi hs hp) (k := ?_)
      rintro y hy
      dsimp only [chV, chQ]
      try simp only [List.cons_append, List.nil_append]
      refine rr (rd_move rfl) ?_
      refine rr (rd_extract rfl rfl) ?_
      refine rr (rd_extract rfl rfl) ?_
      refine rr (rd_assign rfl) ?_
      refine rr (rd_assign rfl) ?_
      refine run_nil ?_
      refine St.kp [(0, _), (7, _), (8, _)] ?_
      refine St.then_n ?_
      first
        | (have hyy := hy
           exact St.sb (St.kq [(0, _), (7, _), (8, _)] (h := hK y hy)))
        | (have hyy := hr1
           cases ok with
           | false =>
             obtain ⟨n1, n2⟩ := hWk.no rfl
             have n3 := hWk.cnt
             dsimp only at n1 n2 n3
             rw [List.length_map] at n2
             rw [n1, List.length_nil] at n3
             have hk := hK ((A4, c4), false, S1, [], []) ⟨(fun h => by cases h), fun _ => ⟨hWk.ext, n1, by (try dsimp only); omega⟩⟩
             dsimp only [wrH, wrV] at hk ⊢
             exact St.sb (St.kq [(0, _), (7, _), (8, _)] (h := hk))
           | true =>
             obtain ⟨e, v1, v2, K, u1, u2, u3, u4⟩ := leaf_up hS hok hW
             have hPl : P.length = N.length := by have := hWk.yes rfl; rw [List.length_map, ← hNn] at this; exact this
             have hul : (upM N P).length = N.length := by rw [upM_len (by omega), hPl]
             have hk := hK ((A4, c4), true, S1, upM N P, K) ⟨fun _ => ⟨⟨e, fun x hx => ⟨_, (u2 x hx).1⟩, u3, by (try dsimp only); omega, by (try dsimp only); omega, by (try dsimp only); omega, fun _ => .inl rfl, fun x hx => ⟨x.2.length, by have := (u2 x (by dsimp only at hx; rw [hx]; exact List.mem_cons_self)).2; omega, (u2 x (by dsimp only at hx; rw [hx]; exact List.mem_cons_self)).1, fun _ => Nat.zero_le _⟩⟩, by dsimp only; rw [upM_ps, hNp, u1], upM_nil N P⟩, (fun h => by cases h)⟩
             dsimp only [wrH, wrV] at hk ⊢
             rw [hul] at hk
             exact St.sb (St.kq [(0, _), (7, _), (8, _)] (h := hk)))
  rintro ⟨⟨A4, c4⟩, ok1, S1, L1, K⟩ hR
  dsimp only
  refine do_seq ?_
  refine sr ?_
  refine rr (rd_move rfl) ?_
  refine rr (rd_ne rfl rfl) ?_
  refine nx ?_
  first | refine do_condp rfl (fun h37 => ?_) (fun h37 => ?_) | refine do_cond rfl (fun h37 => ?_) (fun h37 => ?_)
  · have hok1 : ok1 = false := by cases ok1; rfl; exact absurd (show ((wrE true : Nat) : Int) = 0 from rfl) h37
    subst hok1
    obtain ⟨f1, f2, f3⟩ := hR.2 rfl
    dsimp only at f1 f2 f3
    refine sr ?_
    refine rr (rd_move rfl) ?_
    refine rr (rd_assign rfl) ?_
    refine run_nil ?_
    refine St.kp [(6, _)] ?_
    refine St.then_n ?_
    refine do_ret ?_
    refine St.then_r ?_
    refine do_ret1 Try.results33 (res_tmp rfl) ?_
    intro w hw
    exact ⟨(false, S1, root), ⟨(fun h => by cases h), fun _ => ⟨f1, f2, by (try dsimp only); omega, rfl⟩⟩, rfl, show Holds ω [treeO t p root, pagerO d p S1, C, F] w from hw.sb⟩
  · have hok1 : ok1 = true := by cases ok1; exact absurd (show ((wrE false : Nat) : Int) ≠ 0 by decide) h37; rfl
    subst hok1
    obtain ⟨ch1, hL1, hn1⟩ := hR.1 rfl
    dsimp only at ch1 hL1 hn1
    dsimp only [wrH, wrV]
    have hk3 := ch1.k3
    have hcnt := ch1.cnt
    have hl1 : L1.length = K.length := by have := congrArg List.length hL1; rwa [List.length_map, List.length_map] at this
    have hg1 := ch1.ext.good hS
    have hgr := grow_tree L1.length hg1 ch1.kids (by omega)
    refine do_skip ?_
    refine St.then_n ?_
    refine sr ?_
    refine rr (rd_move rfl) ?_
    refine rr (rd_move rfl) ?_
    refine rc (hs := grown_spec _ t p d k root S1 hg1 L1.length L1 A4 L1.length c4 rfl (by omega) (Nat.le_refl _) hn1 (by rw [hL1]; exact mdI_ok hg1.1 ch1.kids) (Vw.sep (vw_Q (f := imC)) (by repeat (first | with_reducible exact Sel.head | apply Sel.tail)))) (k := ?_)
    rintro ⟨⟩ -
    rw [hL1]
    obtain ⟨⟨S2, rt, ok2⟩, hG⟩ : ∃ R, growF L1.length S1 (K.map mdI) = R := ⟨_, rfl⟩
    rw [hG] at hgr ⊢
    dsimp only
    try simp only [List.cons_append, List.nil_append]
    refine rr (rd_move rfl) ?_
    refine rr (rd_extract rfl rfl) ?_
    refine rr (rd_extract rfl rfl) ?_
    refine rr (rd_assign rfl) ?_
    refine rr (rd_assign rfl) ?_
    refine run_nil ?_
    refine St.kp [(0, _), (8, _), (9, _)] ?_
    refine St.then_n ?_
    refine do_seq ?_
    refine sr ?_
    refine rr (rd_move rfl) ?_
    refine rr (rd_ne rfl rfl) ?_
    refine nx ?_
    first | refine do_condp rfl (fun h46 => ?_) (fun h46 => ?_) | refine do_cond rfl (fun h46 => ?_) (fun h46 => ?_)
    · have hok2 : ok2 = false := by cases ok2; rfl; exact absurd (show ((wrE true : Nat) : Int) = 0 from rfl) h46
      subst hok2
      obtain ⟨f1, f2⟩ := hgr.no rfl
      have f3 := hgr.cnt
      dsimp only at f1 f2 f3
      refine sr ?_
      refine rr (rd_move rfl) ?_
      refine rr (rd_assign rfl) ?_
      refine run_nil ?_
      refine St.kp [(6, _)] ?_
      refine St.then_n ?_
      refine do_ret ?_
      refine St.then_r ?_
      refine do_ret1 Try.results33 (res_tmp rfl) ?_
      intro w hw
      exact ⟨(false, S2, root), ⟨(fun h => by cases h), fun _ => ⟨ch1.ext.trans hgr.ext, f1, by (try dsimp only); omega, rfl⟩⟩, rfl, show Holds ω [treeO t p root, pagerO d p S2, C, F] w from hw.sb⟩
    · have hok2 : ok2 = true := by cases ok2; exact absurd (show ((wrE false : Nat) : Int) ≠ 0 by decide) h46; rfl
      subst hok2
      have f3 := hgr.cnt
      dsimp only at f3
      have hroot : ∃ d0 r0, IsR S2 d0 r0 rt (g l) ∧ d0 ≤ dep + 1 ∧ ((∀ l, l.length ≤ (g l).length) → g l ≠ [] → (2 ≤ r ∨ dep = 0) → (d0 = dep ∧ r ≤ r0 ∧ r0 ≤ r + 2) ∨ (d0 = dep + 1 ∧ 2 ≤ r0 ∧ r0 ≤ 3 ∧ (dep = 0 ∨ 8 ≤ r))) := by
        rcases K with _ | ⟨x, K⟩
        · have e1 := hgr.nil rfl
          simp only [Prod.mk.injEq] at e1
          obtain ⟨rfl, rfl, -⟩ := e1
          have h0 : g l = [] := by rw [← ch1.flat]; rfl
          exact ⟨0, 0, .inl ⟨rfl, h0, rfl, rfl⟩, by omega, fun _ h => absurd h0 h⟩
        · rcases K with _ | ⟨x2, K⟩
          · have e1 := hgr.one x rfl
            simp only [Prod.mk.injEq] at e1
            obtain ⟨rfl, rfl, -⟩ := e1
            obtain ⟨r', q1, q2, q3⟩ := ch1.one x rfl
            have h0 : x.2 = g l := by rw [← ch1.flat]; simp [kvs]
            exact ⟨dep, r', .inr ⟨x.1, rfl, h0 ▸ q2⟩, by omega, fun h _ _ => .inl ⟨rfl, q3 h, q1⟩⟩
          · obtain ⟨i, q1, q2⟩ := hgr.few rfl (by simp) (by omega)
            dsimp only at q1 q2
            rw [ch1.flat] at q2
            exact ⟨dep + 1, _, .inr ⟨i, q1, q2⟩, by omega, fun _ _ _ => .inr ⟨rfl, by simp, hk3, ch1.two (by simp)⟩⟩
      obtain ⟨d0, r0, hIs, hd0, hpot⟩ := hroot
      have hg2 := hgr.ext.good hg1
      have hdn1 : g l ≠ [] → S2.fre.length < S.fre.length := fun hne => by
        have q1 := ch1.dn
        have q2 : K ≠ [] := fun e0 => hne (by rw [← ch1.flat, e0]; rfl)
        have q3 := List.length_pos_iff.2 q2
        have q4 := ext_fre hgr.ext
        dsimp only at q4
        omega
      have hmk : ∀ (d1 r1 : Nat) (rt : Int), IsR S2 d1 r1 rt (g l) → ((d1 = d0 ∧ r1 = r0) ∨ (d1 < d0 ∧ r0 = 1)) → RtOk S S2 k dep r g l rt := fun d1 r1 rt h1 h2 =>
        ⟨ch1.ext.trans hgr.ext, by omega, hdn1, d1, r1, h1, by omega, fun q1 q2 q3 => by have := hpot q1 q2 q3; omega⟩
      refine do_skip ?_
      refine St.then_n ?_
      refine do_seq ?_
      refine do_block ?_
      refine do_lp (fun y : Int × Nat × Nat => IsR S2 y.2.1 y.2.2 y.1 (g l) ∧ ((y.2.1 = d0 ∧ y.2.2 = r0) ∨ (y.2.1 < d0 ∧ r0 = 1))) (fun y => [(0, .pointer (some ⟨t, 0, none⟩)), (9, .int .i64 y.1)]) (fun _ => [treeO t p root, pagerO d p S2, C, F]) (fun y => y.2.1) (rt, d0, r0) ⟨hIs, .inl ⟨rfl, rfl⟩⟩ ?_
      rintro ⟨rt, d1, r1⟩ ⟨hI, hd1⟩
      dsimp only at hI hd1 ⊢
      refine do_seq ?_
      refine sr ?_
      refine rr (rd_move rfl) ?_
      refine rr (rd_ge rfl rfl) ?_
      refine nx ?_
      first | refine do_condp rfl (fun h49 => ?_) (fun h49 => ?_) | refine do_cond rfl (fun h49 => ?_) (fun h49 => ?_)
      · obtain ⟨i, rfl, hTi⟩ : ∃ i : Nat, rt = i ∧ IsT S2 d1 r1 i (g l) := by
          rcases hI with ⟨h, _⟩ | h
          · omega
          · exact h
        obtain ⟨leaf, l0, hN, hlf⟩ : ∃ leaf l0, IsN S2 i leaf l0 ∧ ((leaf = true ∧ d1 = 0) ∨ (leaf = false ∧ ∃ d2 K, d1 = d2 + 1 ∧ r1 = K.length ∧ l0 = K.map mdI ∧ (∀ x ∈ K, ∃ r', IsT S2 d2 r' x.1 x.2) ∧ g l = kvs K)) := by
          cases d1 with
          | zero => exact ⟨true, _, hTi.2, .inl ⟨rfl, rfl⟩⟩
          | succ d2 => obtain ⟨K, q1, q2, q3, q4⟩ := hTi; exact ⟨false, _, q2, .inr ⟨rfl, d2, K, rfl, q1, rfl, q3, q4⟩⟩
        have hl0 := List.length_pos_iff.2 hN.nd.ne
        have hl64 := hN.nd.len
        refine do_skip ?_
        refine St.then_n ?_
        refine do_block ?_
        refine sr ?_
        refine rr (rd_move rfl) ?_
        refine rr (rd_move rfl) ?_
        refine rc (hs := read_spec _ t p d i k root S2 hg2.1 leaf l0 hN) (k := ?_)
        rintro ⟨⟨A5, c5⟩, L5, X5⟩ ⟨hL5, hX5⟩
        dsimp only at hL5 hX5 ⊢
        have hn5 : L5.length = l0.length := by rw [← hL5, List.length_map]
        try simp only [List.cons_append, List.nil_append]
        refine rr (rd_move rfl) ?_
        refine rr (rd_extract rfl rfl) ?_
        refine rr (rd_extract rfl rfl) ?_
        refine r_al zero105 fun b10 => ?_
        first | refine r_sa row105 ?_ | refine r_sm row105 ?_
        refine rr (rd_assign rfl) ?_
        refine run_nil ?_
        refine St.kp [(0, _), (9, _), (10, _), (11, _)] ?_
        refine St.then_n ?_
        refine do_seq ?_
        refine sr ?_
        refine rr (rd_move rfl) ?_
        refine rr ((rd_ne rfl rfl).eq (show _ = Value.bool false by simp)) ?_
        refine nx ?_
        refine do_cond_f rfl ?_
        refine do_skip ?_
        refine St.then_n ?_
        refine do_seq ?_
        refine do_seq ?_
        refine do_cut (fun z : Bool => z = (leaf || decide (1 < l0.length))) (fun z => [(0, .pointer (some ⟨t, 0, none⟩)), (9, .int .i64 i), (10, .pointer (some ⟨b10, 0, none⟩)), (66, .bool z)]) (fun _ => [pts b10 105 [.bool leaf, .slice A5 l0.length c5], ownI (.slice A5 l0.length c5) l0.length L5, treeO t p root, pagerO d p S2, C, F]) (fun K hK => ?_) ?_
        · cases leaf
          · refine do_region ?_
            refine rr (rd_fa rfl fld105_0) ?_
            refine rr (rd_ld rfl row4) ?_
            refine rr (rd_move rfl) ?_
            first | refine sk ?_ | (refine rr (rd_fa rfl fld105_1) ?_)
            first | refine sk ?_ | (refine rr (rd_ld rfl row67) ?_)
            first | refine sk ?_ | (refine rr (rd_len Try.underlying67 rfl) ?_)
            first | refine sk ?_ | (refine rr (rd_gt rfl rfl) ?_)
            refine rr (rd_pick rfl rfl) ?_
            refine run_nil ?_
            refine St.kp [(0, _), (9, _), (10, _), (62, _), (63, _), (64, _), (65, _), (66, _)] ?_
            refine St.then_n ?_
            first
              | exact St.sb (St.kq [(0, _), (9, _), (10, _), (66, _)] (h := hK true rfl))
              | exact St.sb (St.kq [(0, _), (9, _), (10, _), (66, _)] (h := hK _ (by rw [Bool.false_or]; exact decide_eq_decide.2 (by omega))))
          · refine do_region ?_
            refine rr (rd_fa rfl fld105_0) ?_
            refine rr (rd_ld rfl row4) ?_
            refine rr (rd_move rfl) ?_
            first | refine sk ?_ | (refine rr (rd_fa rfl fld105_1) ?_)
            first | refine sk ?_ | (refine rr (rd_ld rfl row67) ?_)
            first | refine sk ?_ | (refine rr (rd_len Try.underlying67 rfl) ?_)
            first | refine sk ?_ | (refine rr (rd_gt rfl rfl) ?_)
            refine rr (rd_pick rfl rfl) ?_
            refine run_nil ?_
            refine St.kp [(0, _), (9, _), (10, _), (62, _), (63, _), (64, _), (65, _), (66, _)] ?_
            refine St.then_n ?_
            first
              | exact St.sb (St.kq [(0, _), (9, _), (10, _), (66, _)] (h := hK true rfl))
              | exact St.sb (St.kq [(0, _), (9, _), (10, _), (66, _)] (h := hK _ (by rw [Bool.false_or]; exact decide_eq_decide.2 (by omega))))
        rintro z hz
        first | refine do_condp rfl (fun h66 => ?_) (fun h66 => ?_) | refine do_cond rfl (fun h66 => ?_) (fun h66 => ?_)
        · have hfin : RtOk S S2 k dep r g l (i : Int) := hmk _ _ _ hI hd1
          refine do_exit ?_
          refine St.then_x ?_
          refine St.blk_o rfl ?_
          refine St.then_x ?_
          refine St.blk_s ?_
          refine St.then_n ?_
          refine sr ?_
          refine St.sl (P := treeO t p root) (St.ent (Q := pts t 71 [.pointer (some ⟨p, 0, none⟩), .int .i64 root]) (fun _ h => h) ?_)
          refine rr (rd_move rfl) ?_
          refine rr (rd_move rfl) ?_
          refine rr (rd_nilCheck rfl) ?_
          refine rr (rd_fa rfl fld71_1) ?_
          refine r_st row3 ?_
          refine run_nil ?_
          refine St.kp [] ?_
          refine St.then_n ?_
          refine sr ?_
          refine rr (rd_assign rfl) ?_
          refine nx ?_
          refine do_ret ?_
          refine do_ret1 Try.results33 (res_tmp rfl) ?_
          intro w hw
          exact ⟨(true, S2, _), ⟨fun _ => hfin, (fun h => by cases h)⟩, rfl, hw.sb⟩
        · rw [h66] at hz
          obtain ⟨rfl, d2, K2, rfl, hr1, rfl, hK2, hgl⟩ : leaf = false ∧ ∃ d2 K, d1 = d2 + 1 ∧ r1 = K.length ∧ l0 = K.map mdI ∧ (∀ x ∈ K, ∃ r', IsT S2 d2 r' x.1 x.2) ∧ g l = kvs K := by
            rcases hlf with ⟨rfl, _⟩ | h
            · cases hz
            · exact h
          simp only [List.length_map] at hz hn5 hl0 hl64 ⊢
          obtain ⟨x, rfl⟩ : ∃ x, K2 = [x] := List.length_eq_one_iff.1 (by
            have : ¬ 1 < K2.length := fun h => by rw [decide_eq_true h] at hz; cases hz
            omega)
          obtain ⟨r2, hx2⟩ := hK2 x List.mem_cons_self
          have hgx : g l = x.2 := by rw [hgl]; simp [kvs]
          obtain ⟨xm, rfl⟩ : ∃ xm, L5 = [xm] := List.length_eq_one_iff.1 (by simpa using hn5)
          have hxc : xm.c = x.1 := by have := congrArg (fun q : List It => q.map It.c) hL5; simpa [ps, mdI] using this
          refine St.sl (P := ownI (.slice A5 [x].length c5) [x].length [xm]) (St.Q_some (Nat.succ_pos _) (fun g5 c6 hg5 _ _ => ?_))
          simp only [Value.slice.injEq] at hg5
          obtain ⟨rfl, -, rfl⟩ := hg5
          refine do_skip ?_
          refine St.then_n ?_
          refine do_region ?_
          refine rr (rd_fa rfl fld105_1) ?_
          refine rr (rd_ld rfl row67) ?_
          refine rr ((rd_indexAddr Try.underlying67 ei69 rfl rfl (by decide) (by simp)).eq (show _ = Value.pointer (some ⟨g5, 0 + 0 * 3, none⟩) by simp)) ?_
          refine rr (rd_fa (off' := 0 + 0 * 3 + 2) rfl fld69_2 rfl) ?_
          refine rr (rd_ld rfl row3 (cellQ (L := [xm]) (i := 0) (j := 2) (T := 69) (c := c5) (n := [x].length) imC_len (x := xm) (u := .int .i64 x.1) rfl (by decide) (by rw [← hxc]; rfl))) ?_
          refine rr (rd_assign rfl) ?_
          refine run_nil ?_
          refine St.kp [(0, _), (9, _)] ?_
          refine St.blk_n ?_
          refine St.then_n ?_
          exact loop_bk (((x.1 : Nat) : Int), d2, r2) ⟨.inr ⟨x.1, rfl, hgx ▸ hx2⟩, .inr ⟨by rcases hd1 with ⟨h, _⟩ | ⟨h, _⟩ <;> (try dsimp only) <;> omega, by rcases hd1 with ⟨_, h⟩ | ⟨_, h⟩; rw [← h, hr1]; rfl; exact h⟩⟩ (hμ := by (try dsimp only); omega)
      · have hfin : RtOk S S2 k dep r g l rt := hmk _ _ _ hI hd1
        refine do_exit ?_
        refine St.then_x ?_
        refine St.then_x ?_
        refine St.blk_s ?_
        refine St.then_n ?_
        refine sr ?_
        refine St.sl (P := treeO t p root) (St.ent (Q := pts t 71 [.pointer (some ⟨p, 0, none⟩), .int .i64 root]) (fun _ h => h) ?_)
        refine rr (rd_move rfl) ?_
        refine rr (rd_move rfl) ?_
        refine rr (rd_nilCheck rfl) ?_
        refine rr (rd_fa rfl fld71_1) ?_
        refine r_st row3 ?_
        refine run_nil ?_
        refine St.kp [] ?_
        refine St.then_n ?_
        refine sr ?_
        refine rr (rd_assign rfl) ?_
        refine nx ?_
        refine do_ret ?_
        refine do_ret1 Try.results33 (res_tmp rfl) ?_
        intro w hw
        exact ⟨(true, S2, _), ⟨fun _ => hfin, (fun h => by cases h)⟩, rfl, hw.sb⟩
set_option maxHeartbeats 2000000 in
theorem btPut_spec (F : HP) (t p d k : Nat) (root : Int) (S : PS) (hS : S.good k) (dep r : Nat) (l : List KV) (hT : IsR S dep r root l) (hs : KSrt l) (key vb : List UInt8) (VA : Option Addr) (vc : Nat) (hV : VwB F (.slice VA vb.length vc) vb) (hk : okKV (key, vb)) :
    Spec Try.prog 16 [.pointer (some ⟨t, 0, none⟩), .string (strOf key), .slice VA vb.length vc] [treeO t p root, pagerO d p S] F (RtR S k dep r (putL key vb) l root) (fun y => .int .i64 (wrE y.1)) (fun y => [treeO t p y.2.2, pagerO d p y.2.1]) := by
  intro ω w hh
  refine enter Try.func16 rfl Try.ntmps16 rfl hh ?_
  simp only [List.cons_append, List.nil_append, argsB]
  obtain ⟨k1, k2, k3⟩ := id hk
  dsimp only at k1 k2 k3
  refine sr ?_
  refine r_b1 fun b4 => ?_
  refine r_b1 fun b5 => ?_
  refine rr (rd_assign rfl) ?_
  refine nx ?_
  refine do_seq ?_
  refine do_block ?_
  refine sr ?_
  refine rr (rd_move rfl) ?_
  refine rr (rd_ptr_eq_nil Try.underlying29 rfl rfl) ?_
  refine rr (rd_assign rfl) ?_
  refine run_nil ?_
  refine St.kp [(0, _), (4, _), (5, _), (7, _)] ?_
  refine St.then_n ?_
  refine do_cond_f rfl ?_
  refine sr ?_
  refine rr (rd_ld rfl row9) ?_
  refine rr (rd_ld rfl row44) ?_
  refine rc (hs := rightPair_spec _ key VA vb.length vc (by omega) (by omega)) (k := ?_)
  rintro ⟨⟩ -
  rw [decide_eq_true ⟨by omega, k2, k3⟩]
  try simp only [List.cons_append, List.nil_append]
  refine rr (rd_not rfl) ?_
  refine rr (rd_assign rfl) ?_
  refine run_nil ?_
  refine St.kp [(0, _), (4, _), (5, _), (10, _)] ?_
  refine St.then_n ?_
  refine do_cond_f rfl ?_
  refine do_skip ?_
  refine St.blk_n ?_
  refine St.then_n ?_
  refine sr ?_
  refine rr (rd_move rfl) ?_
  refine rr (rd_ld rfl row9) ?_
  refine rr (rd_makeFunc rfl) ?_
  refine St.pack (Ps := [pts b4 9 [.string (strOf key)], pts b5 44 [.slice VA vb.length vc], F]) (by repeat (first | exact Pick.nil | apply Pick.cons (by repeat (first | with_reducible exact Sel.head | apply Sel.tail)))) ?_
  refine rc (hs := changed_spec 34 [.pointer (some ⟨b4, 0, none⟩), .pointer (some ⟨b5, 0, none⟩)] _ key (putL key vb) (fun _ => True) (put_ok hk) (putBy_ok b4 b5 key vb VA vc F hV k3) (by kernel_rfl) _ t p d k root S hS dep r l hT hs trivial) (k := ?_)
  rintro ⟨ok, S1, rt⟩ hy
  try simp only [List.cons_append, List.nil_append]
  refine rr (rd_assign rfl) ?_
  refine run_nil ?_
  refine St.kp [(6, _)] ?_
  refine St.then_n ?_
  refine do_ret ?_
  refine St.sl (P := Sep [pts b4 9 [.string (strOf key)], pts b5 44 [.slice VA vb.length vc], F]) (St.flat ?_)
  simp only [List.cons_append, List.nil_append]
  refine do_ret1 Try.results16 (res_tmp rfl) ?_
  intro w hw
  exact ⟨(ok, S1, rt), hy, rfl, hw.sb⟩
theorem btPutBad_spec (F : HP) (t : Nat) (key : List UInt8) (VA : Option Addr) (n vc : Nat) (h1 : key.length ≤ 9223372036854775807) (h2 : n ≤ 9223372036854775807) (hk : ¬ (0 < key.length ∧ key.length ≤ 24 ∧ n ≤ 80)) :
    Spec Try.prog 16 [.pointer (some ⟨t, 0, none⟩), .string (strOf key), .slice VA n vc] [] F (fun _ : Unit => True) (fun _ => .int .i64 1) (fun _ => []) := by
  intro ω w hh
  refine enter Try.func16 rfl Try.ntmps16 rfl hh ?_
  simp only [List.nil_append, argsB]
  refine sr ?_
  refine r_b1 fun b4 => ?_
  refine r_b1 fun b5 => ?_
  refine rr (rd_assign rfl) ?_
  refine nx ?_
  refine do_seq ?_
  refine do_block ?_
  refine sr ?_
  refine rr (rd_move rfl) ?_
  refine rr (rd_ptr_eq_nil Try.underlying29 rfl rfl) ?_
  refine rr (rd_assign rfl) ?_
  refine run_nil ?_
  refine St.kp [(0, _), (4, _), (5, _), (7, _)] ?_
  refine St.then_n ?_
  refine do_cond_f rfl ?_
  refine sr ?_
  refine rr (rd_ld rfl row9) ?_
  refine rr (rd_ld rfl row44) ?_
  refine rc (hs := rightPair_spec _ key VA n vc h1 h2) (k := ?_)
  rintro ⟨⟩ -
  rw [decide_eq_false hk]
  try simp only [List.cons_append, List.nil_append]
  refine rr (rd_not rfl) ?_
  refine rr (rd_assign rfl) ?_
  refine run_nil ?_
  refine St.kp [(0, _), (4, _), (5, _), (10, _)] ?_
  refine St.then_n ?_
  refine do_cond_t rfl ?_
  refine sr ?_
  refine rr (rd_assign rfl) ?_
  refine run_nil ?_
  refine St.kp [(6, _)] ?_
  refine St.then_n ?_
  refine do_ret ?_
  refine St.blk_r ?_
  refine St.then_r ?_
  refine do_ret1 Try.results16 (res_tmp rfl) ?_
  intro w hw
  exact ⟨(), trivial, rfl, hw.sb⟩
/-- A key's value. -/
def valK (l : List KV) (key : List UInt8) : List UInt8 := if fndK l key then (l[posK l key]?.getD ([], [])).2 else []
theorem below_fnd {l : List KV} {key : List UInt8} {x : KV} (h : KSrt l) (hx : l[belowF (l.map lfI) key]? = some x) : (x.1 = key ↔ fndK l key = true) ∧ (fndK l key = true → valK l key = x.2) := by
  unfold belowF at hx
  have e : fnd (l.map lfI) key = fndK l key := rfl
  have e2 : pos (l.map lfI) key = posK l key := rfl
  rw [e, e2] at hx
  by_cases hf : fndK l key = true
  · rw [if_pos hf] at hx
    refine ⟨⟨fun _ => hf, fun _ => ?_⟩, fun _ => by unfold valK; rw [if_pos hf, hx]; rfl⟩
    obtain ⟨y, hy, hyk⟩ := fndK_iff.1 hf
    rw [hx] at hy
    obtain rfl := Option.some.inj hy
    exact hyk
  · rw [if_neg hf] at hx
    refine ⟨⟨fun hk => ?_, fun h => absurd h hf⟩, fun h => absurd h hf⟩
    rcases Nat.eq_zero_or_pos (posK l key) with h0 | h0
    · rw [h0] at hx
      exact absurd (fndK_iff.2 ⟨x, by rw [h0]; exact hx, hk⟩) hf
    · have h1 : x ∈ l.take (posK l key) := List.mem_of_getElem? (i := posK l key - 1) (by rw [List.getElem?_take_of_lt (by omega)]; exact hx)
      have h2 := posK_lo x h1
      rw [hk, cmpB_self] at h2
      omega
theorem val_loc {A m B : List KV} {key : List UInt8} (hA : ∀ x ∈ A, cmpB x.1 key < 0) (hB : ∀ x ∈ B, cmpB key x.1 < 0) : valK (A ++ m ++ B) key = valK m key ∧ fndK (A ++ m ++ B) key = fndK m key := by
  obtain ⟨e1, e2⟩ := pos_loc (m := m) hA hB
  refine ⟨?_, e2⟩
  unfold valK
  rw [e2, e1]
  split
  · rename_i hf
    obtain ⟨x, hx, _⟩ := fndK_iff.1 hf
    have h1 := (List.getElem?_eq_some_iff.1 hx).1
    rw [List.append_assoc, List.getElem?_append_right (Nat.le_add_right _ _), Nat.add_sub_cancel_left, List.getElem?_append_left h1]
  · rfl
/-- The kid that has a key, and its pairs among all. -/
theorem kid_loc {S : PS} {d : Nat} {K : List (Nat × List KV)} {key : List UInt8} {x : Nat × List KV} (h : KSrt (kvs K)) (hK : ∀ x ∈ K, ∃ r, IsT S d r x.1 x.2) (hx : K[belowF (K.map mdI) key]? = some x) : KSrt x.2 ∧ valK (kvs K) key = valK x.2 key ∧ fndK (kvs K) key = fndK x.2 key := by
  have hne : ∀ x ∈ K, x.2 ≠ [] := fun x hx => by obtain ⟨r', h⟩ := hK x hx; exact h.ne
  obtain ⟨j, hj⟩ : ∃ j, belowF (K.map mdI) key = j := ⟨_, rfl⟩
  rw [hj] at hx
  obtain ⟨b1, b2⟩ := below_loc h hne hj hx
  have hjl := (List.getElem?_eq_some_iff.1 hx).1
  have hK0 : kvs K = kvs (K.take j) ++ x.2 ++ kvs (K.drop (j + 1)) := by
    have : K = K.take j ++ x :: K.drop (j + 1) := by
      conv => lhs; rw [← List.take_append_drop j K, List.drop_eq_getElem_cons hjl]
      rw [(List.getElem?_eq_some_iff.1 hx).2]
    conv => lhs; rw [this]
    rw [kvs_append, kvs_cons, List.append_assoc]
  rw [hK0] at h ⊢
  exact ⟨List.Pairwise.sublist (List.Sublist.trans (List.sublist_append_right _ _) (List.sublist_append_left _ _)) h, val_loc b1 b2⟩
end Go.Proofs.Ytgeldfgcicjidaa
