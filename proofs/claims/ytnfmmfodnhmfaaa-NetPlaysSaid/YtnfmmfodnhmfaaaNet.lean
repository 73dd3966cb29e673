/-
  The walks of package net: what each function does to the world.
-/
import Derived.Test.YtnfmmfodnhmfaaaMaps
import Derived.Test.YtnfmmfodnhmfaaaCloneB
namespace Go.Proofs.Ytnfmmfodnhmfaaa
open Go.RowKit Go.Maps



set_option maxHeartbeats 400000 in
/-- a letter in new memory -/
theorem own_any (f t : Int) (G : Nat → Prop) (v : Value) (bs : List UInt8) (w : World) (h : Bs w G v bs) (hb : bs.length ≤ 140737488355328) :
    Calls Try.prog 24 #[.agg #[.int .i64 f, .int .i64 t, v]] w fun e w' => ∃ A c, e = .returned (.agg #[.int .i64 f, .int .i64 t, .slice A bs.length c]) ∧ w'.ownsRow w.heap.size 5 1 (.slice A bs.length c) bs.length (bs.map bcell) ∧ (A = none ↔ v.ownBlock = none) ∧ Fr nowhere w w' := by
  go_enter Try.func24, Try.ntmps24
  go_wp2_with fail
  refine (clone_bytes G v bs _ ?c1 hb).mono ?_
  case c1 => exact Sl.same h (by simp; omega) (fun b _ hlt => (by rw [Below.heap_alloc _ _ _ (by simp; omega), Below.heap_alloc _ _ _ hlt]))
  rintro e w1 ⟨A, c, rfl, ho, hn, hbw⟩
  have b1 : Blk w1 w.heap.size 35 _ := Blk.same (((Blk.new w _ _).alloc _)) (hbw.block _ (by simp; omega) id)
  have b2 : Blk w1 (w.heap.size + 1) 35 _ := Blk.same (Blk.newAt (by simp)) (hbw.block _ (by simp) id)
  obtain ⟨_, _, _, _, _, _⟩ := b1.facts3
  obtain ⟨_, _, _, _, _, _⟩ := b2.facts3
  clear b1 b2
  go_wp2
  refine bodyPost_ret (v := .agg #[.int .i64 f, .int .i64 t, .slice A bs.length c]) (by simp [results, Try.results24, go_sem, *]) rfl ⟨A, c, rfl, ?_, hn, ?_⟩
  · refine own_base (own_same ho fun g _ hg hlt => ?_) (fun g _ hg => ?_)
    · simp at hg
      simp (disch := omega) only [hp_set]
    · simp at hg; omega
  · repeat (first | exact ((Fr.refl _ _).alloc _).alloc _ | refine Fr.setCell ?_ (.inr (by simp)) _ | refine Fr.trans ?_ hbw (fun _ _ e => e))


structure Letter where
  f : Int
  t : Int
  d : List UInt8

/-- The three cells of a letter. -/
def LetterR (w : World) (G : Nat → Prop) (x : Letter) (c : List Value) : Prop :=
  x.d.length ≤ 140737488351232 ∧ ∃ A cap, c = [.int .i64 x.f, .int .i64 x.t, .slice A x.d.length cap] ∧ Bs w G (.slice A x.d.length cap) x.d

/-- How many letters go to somebody. -/
def toN (L : List Letter) (to : Int) : Nat := (L.filter fun x => x.t = to).length

/-- The net at block p: its letters; all its blocks are of F. -/
def NetAt (w : World) (p : Nat) (L : List Letter) (F : Nat → Prop) : Prop :=
  ∃ (A : Option Addr) (cap m : Nat) (cs : List Value) (M : List (Int × Value)),
    Blk w p 56 #[.slice A L.length cap, .map (some m)] ∧ w.ownsRow 0 35 3 (.slice A L.length cap) L.length cs ∧
    RowsL (LetterR w fun b => F b ∧ b ≠ p ∧ b ≠ m ∧ A.map (·.block) ≠ some b) L cs ∧
    MapL intKey w m M ∧ (∀ to, (findL to M).getD (.int .i64 0) = .int .i64 (toN L to)) ∧ L.length ≤ 10000 ∧
    F p ∧ F m ∧ (∀ a, A = some a → F a.block) ∧ (∀ b, F b → b < w.heap.size)

theorem LetterR.fr {w w' : World} {G F : Nat → Prop} {x : Letter} {c : List Value} (h : LetterR w G x c) (hf : Fr F w w') (hn : ∀ b, G b → b < w.heap.size → ¬ F b) : LetterR w' G x c := by
  obtain ⟨hd, A, cap, rfl, hb⟩ := h
  exact ⟨hd, A, cap, rfl, Sl.fr hb hf hn⟩

theorem info_letter : (Try.prog.info? 35).map (fun i => (i.zero, i.size, i.bytes)) = some (some (.agg #[.int .i64 0, .int .i64 0, .slice none 0 0]), 3, 40) := by kernel_rfl
theorem zero_int (w : World) : (zeroValue 3).run Try.prog w = .ok (.int .i64 0) w := by kernel_rfl

theorem toN_app (L : List Letter) (x : Letter) (to : Int) : toN (L ++ [x]) to = toN L to + if x.t = to then 1 else 0 := by
  simp only [toN, List.filter_append, List.length_append, List.filter_cons, List.filter_nil]
  split <;> simp_all
theorem toN_le (L : List Letter) (to : Int) : toN L to ≤ L.length := List.length_filter_le _ _

theorem LetterR.one {w : World} {G : Nat → Prop} {x : Letter} {c : List Value} (h : LetterR w G x c) : ∀ u ∈ c, u.oneCell' = true := by
  obtain ⟨_, A, cap, rfl, _⟩ := h
  intro u hu
  simp at hu
  rcases hu with rfl | rfl | rfl <;> rfl

set_option maxHeartbeats 1000000 in
theorem put_room (p : Nat) (L : List Letter) (F : Nat → Prop) (f t : Int) (v : Value) (bs : List UInt8) (G : Nat → Prop) (w : World) (h : NetAt w p L F) (hb : Bs w G v bs) (hl : bs.length ≤ 140737488351232) (hr : L.length < 10000) :
    Calls Try.prog 22 #[.pointer (some ⟨p, 0, none⟩), .agg #[.int .i64 f, .int .i64 t, v]] w fun e w' => e = .returned (.int .i64 0) ∧ ∃ F', NetAt w' p (L ++ [⟨f, t, bs⟩]) F' ∧ Fr F w w' ∧ (∀ b, F' b → F b ∨ w.heap.size ≤ b) := by
  obtain ⟨A, cap, m, cs, M, hp, hown, hcs, hM, hto, hL, hFp, hFm, hFA, hFl⟩ := h
  obtain ⟨hp0, hp1, hpf0, hpf1⟩ := hp.facts2
  have hpl := hp.lt
  have hmlt := hM.lt
  have Hto := Lib.hid hto
  have Hfl := Lib.hid hFl
  have HA := Lib.hid hFA
  have hmp := hM.ne_blk hp
  have htn := toN_le L t
  clear hto hFl hFA
  generalize hn : L.length = n at *
  have Hn := Lib.hid hn
  clear hn
  obtain ⟨i0, hi, hz0, hz1', hz2⟩ := info_parts info_letter
  have hge : decide ((10000 : Int) ≤ (n : Int)) = false := by simp; omega
  have hrow : ∀ g, (Value.slice A n cap).ownBlock = some g → g ≠ p ∧ g ≠ m ∧ F g := fun g hg => by
    obtain ⟨cs', hb', _⟩ := own_blk hown hg
    refine ⟨hb'.ne_ hp (by decide), (hM.ne_blk hb').symm, ?_⟩
    rcases A with _ | a
    · simp [Value.ownBlock] at hg
    · simp [Value.ownBlock] at hg; subst hg; exact HA.out a rfl
  have Hrow := Lib.hid hrow
  clear hrow
  go_enter Try.func22, Try.ntmps22
  go_wp2_with fail
  refine wp_region_plan [.keep 0, .keep 1, .keep 2, .keep 3, .keep 4, .take 5, .run 6 [4, 3, 2, 1, 0], .run 7 [4, 3, 2, 1, 0], .run 8 [0], .take 9, .take 10, .run 11 []] [[9, 10, 11], [2, 3, 4, 8, 9, 10, 11], [3, 4, 8, 9, 10, 11], [4, 8, 9, 10, 11], [8, 9, 10, 11], [6, 7, 8, 9, 10, 11], [], [], [], [10, 11], [11], []] (by kernel_rfl) (by kernel_rfl) (by decide) (by kernel_rfl) (fun _ _ _ _ _ h => h) ?_
  simp only [planWp, Array.getD_eq_getD_getElem?, List.getElem?_toArray, List.getElem?_cons_succ, List.getElem?_cons_zero, Option.getD_some]
  repeat (first | ((with_reducible refine And.intro ?_ ?_); first | exact trivial | rfl) | go_step)
  refine (own_any f t G v bs _ ?_ (by omega)).mono ?_
  · exact Sl.same hb (by simp) (fun b _ hlt => hp_new _ _ _ hlt)
  rintro e w1 ⟨A', c', rfl, ho, hn', hf1⟩
  have hp1' : Blk w1 p _ _ := (hp.alloc _).drew.fr hf1 id
  obtain ⟨q0, q1, qf0, qf1⟩ := hp1'.facts2
  have hpl1 := hp1'.lt
  have hz1 : w.heap.size < w1.heap.size := by have := hf1.size; simp at this; omega
  dsimp only
  repeat (first | ((with_reducible refine And.intro ?_ ?_); first | exact trivial | rfl) | go_step)
  refine ⟨by simp only [heldAll, readsAs]; go_simp, ?_⟩
  repeat (first | ((with_reducible refine And.intro ?_ ?_); first | exact trivial | rfl) | go_step)
  refine ⟨by simp only [heldAll, readsAs]; go_simp, ?_⟩
  refine wpList_append_own_at _ rfl _ _ _ rfl 0 35 i0 _ 3 40 Try.underlying54 hi hz0 hz1' hz2 rfl (by omega) (.slice A n cap) n cs rfl ?c1 ⟨w1.heap.size, 0, none⟩ 1 1 [.int .i64 f, .int .i64 t, .slice A' bs.length c'] rfl rfl ?c2 ?c3 ?c4 ?c5 ?c6 ?_
  case c1 => exact own_same hown (fun g hg _ hlt => by rw [hp_new _ _ _ (by omega), hf1.block _ (by simp; omega) id]; simp (disch := omega) only [hp_new, hp_drew])
  case c2 => exact World.news_of_block (heap_alloc_new _ _)
  case c3 => intro u hu; simp at hu; rcases hu with rfl | rfl | rfl <;> rfl
  case c4 => simp only [maxLen]; omega
  case c5 => omega
  case c6 => omega
  intro v2 w2 hown2 hg2 _ hat2
  obtain ⟨A2, cap2, rfl, _⟩ := ownsRow_slice hown2
  have hp2 : Blk w2 p _ _ := (hp1'.alloc _).grown hg2 (fun e => (Hrow.out _ e.symm).1 rfl)
  obtain ⟨r0, r1, rf0, rf1⟩ := hp2.facts2
  have hpl2 := hp2.lt
  clear q0 q1 qf0 qf1
  repeat (first | ((with_reducible refine And.intro ?_ ?_); first | exact trivial | rfl) | go_step)
  refine ⟨by simp only [heldAll, readsAs]; go_simp, ?_⟩
  repeat (first | ((with_reducible refine And.intro ?_ ?_); first | exact trivial | rfl) | go_step)
  generalize hW3 : w2.setCell ⟨p, 0, none⟩ (.slice A2 (n + 1) cap2) = W3
  have hp3 : Blk W3 p 56 #[.slice A2 (n + 1) cap2, .map (some m)] := by rw [← hW3]; exact hp2.set_ 0 _
  have hrow2 : ∀ g, (Value.slice A2 (n + 1) cap2).ownBlock = some g → g ≠ p ∧ g ≠ m ∧ (F g ∨ w.heap.size ≤ g) := fun g hg => by
    rcases hat2 with e | e
    · rw [e] at hg; exact ⟨(Hrow.out g hg).1, (Hrow.out g hg).2.1, .inl (Hrow.out g hg).2.2⟩
    · rw [e] at hg; simp at hg; exact ⟨by omega, by omega, .inr (by omega)⟩
  have hf3 : Fr (fun b => b = p ∨ b = m ∨ A.map (·.block) = some b) w W3 := by
    rw [← hW3]
    refine Fr.setCell ?_ (.inl (.inl rfl)) _
    refine Fr.grown (Fr.alloc (Fr.trans ((Fr.refl _ w).alloc _ |>.drew) hf1 (fun _ _ e => e.elim)) _) hg2 (fun g e => .inl (.inr (.inr ?_)))
    rw [← ownBlock_slice A n cap]; exact e
  have hsz3 : w1.heap.size < W3.heap.size := by rw [← hW3, hsz_set]; have := hg2.size; simp at this; omega
  have hm3 : W3.heap[m]? = w.heap[m]? := by
    rw [← hW3, hp_set _ _ _ _ _ _ hmp, hg2.block m (by simp; omega) (fun e => (Hrow.out m e.symm).2.1 rfl), hp_new _ _ _ (by omega), hf1.block m (by simp; omega) id]
    simp (disch := omega) only [hp_new, hp_drew]
  have hb3 : Blk W3 w.heap.size 35 #[.int .i64 f, .int .i64 t, v] := by
    rw [← hW3]
    refine Blk.far (Blk.grown (Blk.alloc (Blk.same (Blk.drew (Blk.new w _ _)) (hf1.block _ (by simp) id)) _) hg2 (fun e => ?_)) (by simp; omega) _
    have := own_blk hown e.symm
    obtain ⟨_, hb', _⟩ := this
    exact absurd hb'.lt (by omega)
  have hown3 : W3.ownsRow 0 35 3 (.slice A2 (n + 1) cap2) (n + 1) (cs ++ [.int .i64 f, .int .i64 t, .slice A' bs.length c']) := by
    rw [← hW3]
    exact own_same hown2 fun g hg _ _ => hp_set _ _ _ _ _ _ (hrow2 g hg).1
  have hM3 : MapL intKey W3.drew m M := hM.same hm3
  have hlk := run_lookup hM3 (P := Try.prog) Try.underlying53 Try.underlying3 zero_int t false
  rw [Hto.out t] at hlk
  simp only [Bool.false_eq_true, if_false] at hlk
  obtain ⟨w4, hup, hM4, hg4, hs4⟩ := run_update hM3 (P := Try.prog) Try.underlying53 Try.underlying3 t (.int .i64 (toN L t + 1))
  obtain ⟨s0, s1, sf0, sf1⟩ := hp3.facts2
  obtain ⟨u0, u1, u2, uf0, uf1, uf2⟩ := hb3.facts3
  simp only [intKey] at hlk hup
  clear r0 r1 rf0 rf1
  refine wp_region_plan [.take 0, .take 1, .take 2, .take 3, .take 4, .take 5, .take 6, .take 7, .run 8 []] [[1, 2, 3, 6, 7, 8], [2, 3, 6, 7, 8], [3, 6, 7, 8], [6, 7, 8], [5, 6, 7, 8], [6, 7, 8], [7, 8], [8], []] (by kernel_rfl) (by kernel_rfl) (by decide) (by kernel_rfl) (fun _ _ _ _ _ h => h) ?_
  simp only [planWp, Array.getD_eq_getD_getElem?, List.getElem?_toArray, List.getElem?_cons_succ, List.getElem?_cons_zero, Option.getD_some]
  repeat (first | ((with_reducible refine And.intro ?_ ?_); first | exact trivial | rfl) | go_step)
  go_ret
  have hf4 : Fr (fun b => b = p ∨ b = m ∨ A.map (·.block) = some b) w w4 := hf3.drew.grown hg4 (fun g e => by cases e; exact .inl (.inr (.inl rfl)))
  have hsz4 : W3.heap.size = w4.heap.size := hs4.symm
  have hlen : (L ++ [(⟨f, t, bs⟩ : Letter)]).length = n + 1 := by rw [List.length_append, Hn.out]; rfl
  have hA2 : ∀ b, A2.map (·.block) = some b → b ≠ p ∧ b ≠ m ∧ (A.map (·.block) = some b ∨ b = w1.heap.size + 1) := fun b hb' => by
    have h2 := hrow2 b (by rw [ownBlock_slice]; exact hb')
    refine ⟨h2.1, h2.2.1, ?_⟩
    rcases hat2 with e | e
    · left; rw [ownBlock_slice, ownBlock_slice] at e; rw [← e]; exact hb'
    · right; rw [ownBlock_slice, hb'] at e; simp at e; exact e
  refine ⟨rfl, fun b => F b ∨ (w.heap.size ≤ b ∧ b < w4.heap.size), ⟨A2, cap2, m, cs ++ [.int .i64 f, .int .i64 t, .slice A' bs.length c'], putL t (.int .i64 (toN L t + 1)) M, ?_, ?_, ?_, hM4, ?_, ?_, .inl hFp, .inl hFm, ?_, ?_⟩, ?_, ?_⟩
  · rw [hlen]; exact hp3.drew.grown hg4 (by simp; omega)
  · rw [hlen]; exact own_same hown3 fun g hg _ hlt => (hg4.block g hlt (by simp; exact (hrow2 g hg).2.1))
  · refine RowsL.app (hcs.mono fun x c _ hx => ?_) (RowsL.one ⟨hl, A', c', rfl, ?_⟩)
    · obtain ⟨hd, A3, c3, rfl, hb3'⟩ := hx
      refine ⟨hd, A3, c3, rfl, ?_⟩
      refine (Sl.fr hb3' hf4 (fun b hb' _ => ?_)).mono (fun b _ hb' => ⟨.inl hb'.1, hb'.2.1, hb'.2.2.1, fun e => ?_⟩)
      · rintro (e | e | e)
        · exact hb'.2.1 e
        · exact hb'.2.2.1 e
        · exact hb'.2.2.2 e
      · rcases (hA2 b e).2.2 with h5 | h5
        · exact hb'.2.2.2 h5
        · have := Hfl.out b hb'.1; omega
    · have hs1 : Sl w1 (fun b => w.heap.size + 1 ≤ b ∧ b < w1.heap.size) 1 (.slice A' bs.length c') bs.length (bs.map bcell) := Sl.of_own ho (fun g hg => by
        obtain ⟨_, hb', hle⟩ := own_blk ho hg
        have := hb'.lt
        simp at hle
        exact ⟨hle, this⟩)
      have hs2 : Sl w4 (fun b => w.heap.size + 1 ≤ b ∧ b < w1.heap.size) 1 (.slice A' bs.length c') bs.length (bs.map bcell) := hs1.same (by omega) (fun b hb' hlt => by
        rw [hg4.block b (by simp; omega) (by simp; omega)]
        show W3.heap[b]? = _
        rw [← hW3, hp_set _ _ _ _ _ _ (by omega), hg2.block b (by simp; omega) (fun e => ?_), hp_new _ _ _ hlt]
        obtain ⟨_, hb'', _⟩ := own_blk hown e.symm
        have := hb''.lt; omega)
      refine hs2.mono fun b _ hb' => ⟨.inr ⟨by omega, by omega⟩, by omega, by omega, fun e => ?_⟩
      rcases (hA2 b e).2.2 with h5 | h5
      · rw [← ownBlock_slice A n cap] at h5
        obtain ⟨_, hb'', _⟩ := own_blk hown h5
        have := hb''.lt; omega
      · omega
  · intro to
    rw [findL_putL, toN_app]
    by_cases e : to = t
    · subst e; simp
    · rw [if_neg e, Hto.out to, if_neg (fun e' => e e'.symm)]; simp
  · rw [hlen]; omega
  · intro a ha
    have h2 := hrow2 a.block (by rw [ownBlock_slice, ha]; rfl)
    rcases h2.2.2 with h3 | h3
    · exact .inl h3
    · refine .inr ⟨h3, ?_⟩
      have := own_blk hown3 (g := a.block) (by rw [ownBlock_slice, ha]; rfl)
      obtain ⟨_, hb', _⟩ := this
      have := hb'.lt; omega
  · intro b hb'
    rcases hb' with h2 | h2
    · have := Hfl.out b h2; omega
    · exact h2.2
  · exact hf4.mono fun b _ hb' => by
      rcases hb' with rfl | rfl | e
      · exact hFp
      · exact hFm
      · rw [← ownBlock_slice A n cap] at e; exact (Hrow.out b e).2.2
  · intro b hb'
    exact hb'.imp id And.left

theorem NetAt.same {w w' : World} {p : Nat} {L : List Letter} {F : Nat → Prop} (h : NetAt w p L F) (hs : w.heap.size ≤ w'.heap.size) (hb : ∀ b, F b → w'.heap[b]? = w.heap[b]?) : NetAt w' p L F := by
  obtain ⟨A, cap, m, cs, M, hp, hown, hcs, hM, hto, hL, hFp, hFm, hFA, hFl⟩ := h
  refine ⟨A, cap, m, cs, M, hp.same (hb p hFp), own_same hown (fun g hg _ _ => hb g ?_), hcs.mono (fun x c _ hx => ?_), hM.same (hb m hFm), hto, hL, hFp, hFm, hFA, fun b hb' => by have := hFl b hb'; omega⟩
  · rw [ownBlock_slice] at hg
    cases A with
    | none => simp at hg
    | some a => simp at hg; subst hg; exact hFA a rfl
  · obtain ⟨hd, A3, c3, rfl, hb3⟩ := hx
    exact ⟨hd, A3, c3, rfl, Sl.same hb3 hs (fun b hb' _ => hb b hb'.1)⟩
theorem NetAt.lt {w : World} {p : Nat} {L : List Letter} {F : Nat → Prop} (h : NetAt w p L F) : ∀ b, F b → b < w.heap.size := by
  obtain ⟨A, cap, m, cs, M, hp, hown, hcs, hM, hto, hL, hFp, hFm, hFA, hFl⟩ := h
  exact hFl
theorem NetAt.len {w : World} {p : Nat} {L : List Letter} {F : Nat → Prop} (h : NetAt w p L F) : L.length ≤ 10000 := by
  obtain ⟨A, cap, m, cs, M, hp, hown, hcs, hM, hto, hL, hFp, hFm, hFA, hFl⟩ := h
  exact hL
theorem NetAt.fr {w w' : World} {p : Nat} {L : List Letter} {F F' : Nat → Prop} (h : NetAt w p L F) (hf : Fr F' w w') (hd : ∀ b, F b → ¬ F' b) : NetAt w' p L F :=
  h.same hf.size fun b hb => hf.block b (h.lt b hb) (hd b hb)

set_option maxHeartbeats 400000 in
theorem put_full (p : Nat) (L : List Letter) (F : Nat → Prop) (f t : Int) (v : Value) (w : World) (h : NetAt w p L F) (hr : 10000 ≤ L.length) :
    Calls Try.prog 22 #[.pointer (some ⟨p, 0, none⟩), .agg #[.int .i64 f, .int .i64 t, v]] w fun e w' => e = .returned (.int .i64 4) ∧ Fr nowhere w w' := by
  obtain ⟨A, cap, m, cs, M, hp, _⟩ := h
  obtain ⟨hp0, hp1, hpf0, hpf1⟩ := hp.facts2
  have hpl := hp.lt
  generalize hn : L.length = n at *
  clear hn
  have hge : decide ((10000 : Int) ≤ (n : Int)) = true := by simp; omega
  go_enter Try.func22, Try.ntmps22
  go_wp2_with fail
  go_ret
  exact ⟨rfl, (Fr.refl _ _).alloc _⟩

def someB (a : Int) : Bool := decide (-1 ≤ a ∧ a < 5)
theorem someone_any (a : Int) (w : World) : Calls Try.prog 21 #[.int .i64 a] w fun e w' => e = .returned (.bool (someB a)) ∧ w = w' := by
  by_cases h0 : -1 ≤ a
  · by_cases h1 : a < 5
    · have e : someB a = true := by simp [someB, h0, h1]
      rw [e]; clear e
      go_enter Try.func21, Try.ntmps21
      go_wp2
      go_ret
      exact ⟨rfl, rfl⟩
    · have e : someB a = false := by simp [someB, h1]
      rw [e]; clear e
      go_enter Try.func21, Try.ntmps21
      go_wp2
      go_ret
      exact ⟨rfl, rfl⟩
  · have e : someB a = false := by simp [someB, h0]
    rw [e]; clear e
    go_enter Try.func21, Try.ntmps21
    go_wp2
    go_ret
    exact ⟨rfl, rfl⟩

/-- What a Send answers. -/
def sendWhy (L : List Letter) (f t : Int) (bs : List UInt8) : Int :=
  if !(someB f && someB t) then 1 else if 1048576 < bs.length then 3 else if 10000 ≤ L.length then 4 else 0

theorem sl_len {w : World} {G : Nat → Prop} {size n : Nat} {v : Value} {xs : List Value} (h : Sl w G size v n xs) : ∃ A c, v = .slice A n c := by
  obtain ⟨A, c, h, _⟩ := h
  exact ⟨A, c, h⟩

set_option maxHeartbeats 1000000 in
theorem send_any (p : Nat) (L : List Letter) (F G : Nat → Prop) (f t : Int) (v : Value) (bs : List UInt8) (w : World) (h : NetAt w p L F) (hb : Bs w G v bs) (hl : bs.length ≤ 140737488351232) :
    Calls Try.prog 8 #[.pointer (some ⟨p, 0, none⟩), .int .i64 f, .int .i64 t, v] w fun e w' => e = .returned (.int .i64 (sendWhy L f t bs)) ∧
      ∃ F', NetAt w' p (if sendWhy L f t bs = 0 then L ++ [⟨f, t, bs⟩] else L) F' ∧ Fr F w w' ∧ (∀ b, F' b → F b ∨ w.heap.size ≤ b) := by
  have hb0 := hb
  obtain ⟨A, c, hv⟩ := sl_len hb
  subst hv
  have stay : ∀ (k : Int), k ≠ 0 → sendWhy L f t bs = k → ∀ w', Fr nowhere w w' → ∃ F', NetAt w' p (if sendWhy L f t bs = 0 then L ++ [⟨f, t, bs⟩] else L) F' ∧ Fr F w w' ∧ (∀ b, F' b → F b ∨ w.heap.size ≤ b) := fun k hk e w' hf =>
    ⟨F, by rw [e, if_neg hk]; exact h.fr hf (fun _ _ => id), hf.mono (fun _ _ e => e.elim), fun _ => .inl⟩
  by_cases hf : someB f = true
  · by_cases ht : someB t = true
    · by_cases hbig : 1048576 < bs.length
      · have e : sendWhy L f t bs = 3 := by simp only [sendWhy, hf, ht, hbig]; rfl
        have Hs := Lib.hid (stay 3 (by decide) e w (Fr.refl _ _))
        rw [e] at Hs ⊢
        have hd : decide ((1048576 : Int) < (bs.length : Int)) = true := by simp; omega
        clear e stay h hb hb0 hl
        generalize bs.length = n at hd hbig ⊢
        go_enter Try.func8, Try.ntmps8
        go_wp2_with (go_at_call 21; refine (someone_any _ _).mono ?_; rintro e w' ⟨rfl, rfl⟩)
        go_ret
        exact ⟨rfl, by simpa using Hs.out⟩
      · have hd : decide ((1048576 : Int) < (bs.length : Int)) = false := by simp; omega
        by_cases hr : L.length < 10000
        · have e : sendWhy L f t bs = 0 := by simp only [sendWhy, hf, ht, hbig, Nat.not_le.2 hr]; rfl
          rw [e]
          clear e stay
          have h' := put_room p L F f t _ bs G w h hb hl hr
          clear h hb hb0 hl
          generalize bs.length = n at hd hbig h' ⊢
          have H' := Lib.hid h'
          clear h'
          go_enter Try.func8, Try.ntmps8
          go_wp2_with (first | (go_at_call 21; refine (someone_any _ _).mono ?_; rintro e w' ⟨rfl, rfl⟩) | (go_at_call 22; refine H'.out.mono ?_; rintro e w' ⟨rfl, hw'⟩; have Hw' := Lib.hid hw'; clear hw'))
          go_ret
          exact ⟨rfl, by simpa using Hw'.out⟩
        · have e : sendWhy L f t bs = 4 := by simp only [sendWhy, hf, ht, hbig, Nat.not_lt.1 hr]; rfl
          have Hs := Lib.hid (stay 4 (by decide) e)
          rw [e] at Hs ⊢
          clear e stay
          have h' := put_full p L F f t (.slice A bs.length c) w h (by omega)
          clear h hb hb0 hl
          generalize bs.length = n at hd hbig h' ⊢
          have H' := Lib.hid h'
          clear h'
          go_enter Try.func8, Try.ntmps8
          go_wp2_with (first | (go_at_call 21; refine (someone_any _ _).mono ?_; rintro e w' ⟨rfl, rfl⟩) | (go_at_call 22; refine H'.out.mono ?_; rintro e w' ⟨rfl, hw'⟩; have Hw' := Lib.hid (Hs.out _ hw'); clear hw'))
          go_ret
          exact ⟨rfl, by simpa using Hw'.out⟩
    · have e : sendWhy L f t bs = 1 := by simp only [sendWhy, hf]; simp [ht]
      have Hs := Lib.hid (stay 1 (by decide) e w (Fr.refl _ _))
      rw [e] at Hs ⊢
      have ht' : someB t = false := by simpa using ht
      clear e stay h hb hb0 hl
      generalize bs.length = n
      go_enter Try.func8, Try.ntmps8
      go_wp2_with (go_at_call 21; refine (someone_any _ _).mono ?_; rintro e w' ⟨rfl, rfl⟩)
      go_ret
      exact ⟨rfl, by simpa using Hs.out⟩
  · have hf' : someB f = false := by simpa using hf
    have e : sendWhy L f t bs = 1 := by simp only [sendWhy, hf']; rfl
    have Hs := Lib.hid (stay 1 (by decide) e w (Fr.refl _ _))
    rw [e] at Hs ⊢
    clear e stay h hb hb0 hl
    generalize bs.length = n
    go_enter Try.func8, Try.ntmps8
    go_wp2_with (go_at_call 21; refine (someone_any _ _).mono ?_; rintro e w' ⟨rfl, rfl⟩)
    go_ret
    exact ⟨rfl, by simpa using Hs.out⟩
end Go.Proofs.Ytnfmmfodnhmfaaa
