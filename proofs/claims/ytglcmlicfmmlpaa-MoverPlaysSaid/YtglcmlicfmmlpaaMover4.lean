/- A mover: an answer to an ask of its move. -/
import Derived.Test.YtglcmlicfmmlpaaMover3
namespace Go.Proofs.Ytglcmlicfmmlpaa
open Go.RowKit

/-- What a mover makes of an answer: what it knows then, and whether the phase is over. -/
def mHear (s : MS) (x : Mv) (c : Cmd) (dl : Nat) (why : Int) (bs : List UInt8) : MS × Bool :=
  if c.kind = 8 then
    if why = 0 ∧ (x.phase = 1 ∨ x.phase = 2) then (⟨s.n, some bs, if bs.length < s.at_ then 0 else s.at_⟩, decide (x.phase = 1)) else (s, false)
  else if c.kind = 9 then
    if x.phase = 2 ∧ s.data.isSome = true ∧ c.at_ = s.at_ then
      (if why = 0 then ⟨s.n, s.data, min (s.at_ + dl) s.bytes.length⟩ else if why = 5 ∨ why = 3 then ⟨s.n, s.data, 0⟩ else s, decide (why = 0) && c.last)
    else (s, false)
  else if c.kind = 10 then (s, decide (why = 0) && decide (x.phase = 3))
  else (s, false)
theorem own_made {w : World} {e : TypeId} {base g : Nat} (hg : w.heap.size = g) (hb : base ≤ g) : (w.alloc (.cells #[] e)).ownsRow base e 1 (.slice (some ⟨g, 0, none⟩) 0 0) 0 [] := by
  subst hg
  exact World.ownsRow_made w #[] 0 hb (by simp [maxLen]) (by simp)
/-- What hear does. -/
def Heard (g : Nat) (r : MS × Bool) (G : Nat → Prop) (w : World) (e : Ending) (w' : World) : Prop :=
  e = .returned (.bool r.2) ∧ ∃ G', MovAt w' g r.1 G' ∧ (∀ b, G' b → G b ∨ w.heap.size ≤ b) ∧ Fr (fun b => b = g) w w'
theorem Heard.same {g : Nat} {s : MS} {r : Bool} {G : Nat → Prop} {w : World} {e : Ending} {w' : World} (h : MovAt w g s G) (he : e = .returned (.bool r)) (hf : Fr nowhere w w') : Heard g (s, r) G w e w' :=
  ⟨he, G, h.fr hf (fun _ _ => id), fun _ hb => .inl hb, hf.any⟩
theorem heard_hold (g : Nat) (s : MS) (bd : List UInt8) (G : Nat → Prop) (w w1 : World) (A1 : Option Addr) (k1 : Nat) (h0 : MovAt w g s G) (hbl : bd.length ≤ 140737488351232)
    (hown : w1.ownsRow w.heap.size 5 1 (.slice A1 bd.length k1) bd.length (bd.map bcell)) (hat : ∃ c, (Value.slice A1 bd.length k1).ownBlock = some c ∧ w.heap.size ≤ c) :
    ∀ q : Nat, q ≤ bd.length → ∀ w', Fr (fun b => b = g) w1 w' → ∀ cs, Blk w' g 134 cs → cs = #[.int .i64 s.n, .slice A1 bd.length k1, .int .i64 q] → Fr (fun b => b = g) w w' →
    ∃ G', MovAt w' g ⟨s.n, some bd, q⟩ G' ∧ (∀ b, G' b → G b ∨ w.heap.size ≤ b) ∧ Fr (fun b => b = g) w w' := by
  rintro q hq w' hf cs hb rfl hfw
  obtain ⟨c, hc, hcw⟩ := hat
  have hA : ∃ a : Addr, A1 = some a ∧ a.block = c := by
    rcases A1 with _ | a
    · simp [Value.ownBlock] at hc
    · exact ⟨a, rfl, by simpa [Value.ownBlock] using hc⟩
  obtain ⟨a, rfl, rfl⟩ := hA
  have hgl := h0.lt g h0.mem
  have hlt := (hown.lt a.block hc).2
  refine ⟨fun b => b = g ∨ b = a.block, ⟨⟨_, hb, .inr ⟨bd, a, k1, rfl, rfl, ?_, hbl⟩⟩, .inl rfl, fun b hb' => ?_, hq⟩, fun b hb' => ?_, hfw⟩
  · exact (Sl.of_own (own_fr hown hf (fun b hb' e => by rw [hc] at hb'; cases hb'; omega)) (fun b hb' => by rw [hc] at hb'; cases hb'; exact ⟨.inr rfl, by omega⟩))
  · rcases hb' with rfl | rfl
    · exact hb.lt
    · exact Nat.lt_of_lt_of_le hlt hf.size
  · rcases hb' with rfl | rfl
    · exact .inl h0.mem
    · exact .inr hcw
theorem heard_at (g : Nat) (s : MS) (bs : List UInt8) (A : Addr) (c : Nat) (G : Nat → Prop) (w : World) (h0 : MovAt w g s G) (hd : s.data = some bs) (_hb : Blk w g 134 #[.int .i64 s.n, .slice (some A) bs.length c, .int .i64 s.at_])
    (hbs : Bs w (fun b => G b ∧ b ≠ g) (.slice (some A) bs.length c) bs) :
    ∀ q : Nat, q ≤ bs.length → ∀ w', Fr (fun b => b = g) w w' → ∀ cs, Blk w' g 134 cs → cs = #[.int .i64 s.n, .slice (some A) bs.length c, .int .i64 q] → ∀ (r : Bool) (e : Ending), e = .returned (.bool r) →
    Heard g (⟨s.n, s.data, q⟩, r) G w e w' := by
  rintro q hq w' hf cs hb' rfl r e he
  have hl := h0.len
  have hby : s.bytes = bs := by unfold MS.bytes; rw [hd]; rfl
  rw [hby] at hl
  refine ⟨he, G, ⟨⟨_, hb', .inr ⟨bs, A, c, hd, rfl, Sl.fr hbs hf (fun b hb _ => hb.2), hl⟩⟩, h0.mem, fun b hb => Nat.lt_of_lt_of_le (h0.lt b hb) hf.size, ?_⟩, fun b hb => .inl hb, hf⟩
  show q ≤ (s.data.getD []).length
  rw [hd]
  exact hq
set_option maxRecDepth 100000 in
set_option maxHeartbeats 8000000 in
theorem movHear_any (g : Nat) (s : MS) (x : Mv) (c : Cmd) (vc : Value) (dl kc : Nat) (Ac : Option Addr) (why : Int) (wait : Bool) (rw_ ra : Int) (vr vd : Value) (bd : List UInt8) (G Gd : Nat → Prop) (w : World) (h : MovAt w g s G) (hdl : dl ≤ 140737488355328)
    (hvc : vc = .slice Ac dl kc) (hbd : Bs w Gd vd bd) (hbl : bd.length ≤ 140737488351232) (hgd : ∀ b, Gd b → b ≠ g) :
    Calls Try.prog 70 #[.pointer (some ⟨g, 0, none⟩), movV x, cmdV c vc, resV why wait rw_ ra vr vd] w (Heard g (mHear s x c dl why bd) G w) := by
  have h0 := h
  obtain ⟨⟨v, hb, hd⟩, hG, hlt, hat⟩ := h
  obtain ⟨c0, c1, c2, f0, f1, f2⟩ := hb.facts3
  have hl := hb.lt
  obtain ⟨hl1, hl2, hl3, hl4, hl5⟩ := lts hl
  have hlen := h0.len
  have H0 := Lib.hid h0
  have Hbd := Lib.hid hbd
  obtain ⟨Ad, kd, rfl⟩ := sl_len hbd
  subst hvc
  obtain ⟨xs, xf, xt, xe, xp, xn⟩ := x
  obtain ⟨kind, op, cid, name, cn, cwhy, slot, epoch, at_, last⟩ := c
  clear hbd h0
  by_cases k8 : kind = 8
  · subst k8
    by_cases hw : why = 0
    · subst hw
      by_cases hp : xp = 1 ∨ xp = 2
      · have Hmh := Lib.hid (show mHear s ⟨xs, xf, xt, xe, xp, xn⟩ ⟨8, op, cid, name, cn, cwhy, slot, epoch, at_, last⟩ dl 0 bd = (⟨s.n, some bd, if bd.length < s.at_ then 0 else s.at_⟩, decide (xp = 1)) from by unfold mHear; rw [if_pos rfl, if_pos ⟨rfl, hp⟩])
        rw [Hmh.out]
        have Hlt := Lib.hid hlt
        have Hg := Lib.hid hgd
        have hm63 : bd.length ≤ maxLen := by simp only [maxLen]; omega
        have hpp : (xp == 1) = decide (xp = 1) := by rw [Bool.eq_iff_iff]; simp
        clear hd hat hlt hgd
        generalize s.at_ = p at *
        have Hbl := Lib.hid hbl
        rcases hp with rfl | rfl
        · have hp1 : decide ((1 : Int) = 1) = true := rfl
          clear hpp
          rcases Nat.lt_or_ge bd.length p with hpl | hpl
          · rw [if_pos hpl]
            have hd1 : decide ((bd.length : Int) < (p : Int)) = true := by simp; omega
            go_enter Try.func70, Try.ntmps70
            go_wp2_with (at_builtin; refine wpList_appsl rfl rfl w.heap.size Try.underlying26 ei_u8 (.slice (some ⟨w.heap.size + 3, 0, none⟩) 0 0) 0 [] (by simp [Act.eval]) (own_made (by simp) (by omega)) Gd (.slice Ad bd.length kd) bd.length (bd.map bcell) rfl (Hbd.out.fr (F := nowhere) (by (repeat (first | exact Fr.refl _ _ | assumption | refine Fr.setCell ?_ (by first | (right; omega) | (right; simp; done) | (right; simp; omega) | (left; simp; done) | (left; simp; omega) | (left; dsimp only; omega)) _ | refine Fr.alloc ?_ _ | refine Fr.drew ?_ | refine Fr.setRow ?_ (by first | (right; omega) | (right; simp; done) | (right; simp; omega) | (left; simp; done) | (left; simp; omega) | (left; dsimp only; omega)) _))) (fun _ _ _ => id)) (bcells_one bd) (by omega) (by omega) (by simp; omega) ?_; intro v1 w1 hown1 hg1 hnl1 hat1; obtain ⟨A1, k1, rfl, _⟩ := ownsRow_slice hown1; rw [Nat.zero_add] at hat1; have bg : Blk w1 g 134 #[.int .i64 s.n, v, .int .i64 p] := Blk.grown (by repeat (first | (with_reducible assumption) | ((with_reducible apply Blk.set_); (case' h => skip)) | ((with_reducible apply Blk.setRow); (case' h => skip)) | ((with_reducible apply Blk.far); (case' hp => (first | (simp; done) | (simp; omega) | omega)); (case' h => skip)) | ((with_reducible apply Blk.farRow); (case' hb => (first | (simp; done) | (simp; omega) | omega)); (case' h => skip)) | (with_reducible apply Blk.drew) | (with_reducible apply Blk.drewN) | ((with_reducible apply Blk.newAt); (first | rfl | (simp; done))) | ((apply Blk.newAt); (first | rfl | (simp; done))) | (with_reducible apply Blk.alloc) | assumption)) hg1 (by simp [Value.ownBlock]; omega); have bx : Blk w1 w.heap.size 74 (movV ⟨xs, xf, xt, xe, 1, xn⟩).cells := Blk.grown (by repeat (first | (with_reducible assumption) | ((with_reducible apply Blk.set_); (case' h => skip)) | ((with_reducible apply Blk.setRow); (case' h => skip)) | ((with_reducible apply Blk.far); (case' hp => (first | (simp; done) | (simp; omega) | omega)); (case' h => skip)) | ((with_reducible apply Blk.farRow); (case' hb => (first | (simp; done) | (simp; omega) | omega)); (case' h => skip)) | (with_reducible apply Blk.drew) | (with_reducible apply Blk.drewN) | ((with_reducible apply Blk.newAt); (first | rfl | (simp; done))) | ((apply Blk.newAt); (first | rfl | (simp; done))) | (with_reducible apply Blk.alloc) | assumption)) hg1 (by simp [Value.ownBlock]); have q1 := bg.cell 1; have q2 := bg.cell 2; have r1 := bg.frozen 1; have r2 := bg.frozen 2; have x4 := bx.cell 4; have hf1 : Fr nowhere w w1 := Fr.grown (by (repeat (first | exact Fr.refl _ _ | assumption | refine Fr.setCell ?_ (by first | (right; omega) | (right; simp; done) | (right; simp; omega) | (left; simp; done) | (left; simp; omega) | (left; dsimp only; omega)) _ | refine Fr.alloc ?_ _ | refine Fr.drew ?_ | refine Fr.setRow ?_ (by first | (right; omega) | (right; simp; done) | (right; simp; omega) | (left; simp; done) | (left; simp; omega) | (left; dsimp only; omega)) _))) hg1 (fun b hb => .inr (by simp [Value.ownBlock] at hb; omega)); have hf1g : Fr (fun b => b = g) w w1 := hf1.any; have hgl1 := bg.lt; have hxl1 := bx.lt; have fin := heard_hold g s bd G w w1 A1 k1 H0.out Hbl.out (by simpa using hown1) (hat1.elim (fun e => ⟨w.heap.size + 3, e, Nat.le_add_right _ _⟩) (fun e => ⟨_, e, by simp; omega⟩)); have Fin := Lib.hid fin; clear fin hown1 hg1 hnl1 hat1)
            refine wp_region_plan [.take 0, .take 1, .take 2, .take 3, .take 4, .take 5, .take 6, .take 7, .take 8, .take 9] [[1, 2, 3, 9], [2, 3, 9], [3, 9], [9], [5, 6, 7, 8, 9], [6, 7, 8, 9], [7, 8, 9], [8, 9], [9], []] (by kernel_rfl) (by kernel_rfl) (by decide) (by kernel_rfl) (fun _ _ _ _ _ h => h) ?_
            simp only [planWp, Array.getD_eq_getD_getElem?, List.getElem?_toArray, List.getElem?_cons_succ, List.getElem?_cons_zero, Option.getD_some]
            repeat (first | ((with_reducible refine And.intro ?_ ?_); first | exact trivial | rfl) | (fail) | ((fail_if_success at_builtin); go_step))
            go_wp2
            go_ret
            exact ⟨rfl, Fin.out 0 (by omega) _ (by (repeat (first | exact Fr.refl _ _ | assumption | refine Fr.setCell ?_ (by first | (right; omega) | (right; simp; done) | (right; simp; omega) | (left; simp; done) | (left; simp; omega) | (left; dsimp only; omega)) _ | refine Fr.alloc ?_ _ | refine Fr.drew ?_ | refine Fr.setRow ?_ (by first | (right; omega) | (right; simp; done) | (right; simp; omega) | (left; simp; done) | (left; simp; omega) | (left; dsimp only; omega)) _))) _ (by repeat (first | (with_reducible assumption) | ((with_reducible apply Blk.set_); (case' h => skip)) | ((with_reducible apply Blk.setRow); (case' h => skip)) | ((with_reducible apply Blk.far); (case' hp => (first | (simp; done) | (simp; omega) | omega)); (case' h => skip)) | ((with_reducible apply Blk.farRow); (case' hb => (first | (simp; done) | (simp; omega) | omega)); (case' h => skip)) | (with_reducible apply Blk.drew) | (with_reducible apply Blk.drewN) | ((with_reducible apply Blk.newAt); (first | rfl | (simp; done))) | ((apply Blk.newAt); (first | rfl | (simp; done))) | (with_reducible apply Blk.alloc) | assumption)) (by rfl) (by (repeat (first | exact Fr.refl _ _ | assumption | refine Fr.setCell ?_ (by first | (right; omega) | (right; simp; done) | (right; simp; omega) | (left; simp; done) | (left; simp; omega) | (left; dsimp only; omega)) _ | refine Fr.alloc ?_ _ | refine Fr.drew ?_ | refine Fr.setRow ?_ (by first | (right; omega) | (right; simp; done) | (right; simp; omega) | (left; simp; done) | (left; simp; omega) | (left; dsimp only; omega)) _)))⟩
          · rw [if_neg (by omega)]
            have hd1 : decide ((bd.length : Int) < (p : Int)) = false := by simp; omega
            go_enter Try.func70, Try.ntmps70
            go_wp2_with (at_builtin; refine wpList_appsl rfl rfl w.heap.size Try.underlying26 ei_u8 (.slice (some ⟨w.heap.size + 3, 0, none⟩) 0 0) 0 [] (by simp [Act.eval]) (own_made (by simp) (by omega)) Gd (.slice Ad bd.length kd) bd.length (bd.map bcell) rfl (Hbd.out.fr (F := nowhere) (by (repeat (first | exact Fr.refl _ _ | assumption | refine Fr.setCell ?_ (by first | (right; omega) | (right; simp; done) | (right; simp; omega) | (left; simp; done) | (left; simp; omega) | (left; dsimp only; omega)) _ | refine Fr.alloc ?_ _ | refine Fr.drew ?_ | refine Fr.setRow ?_ (by first | (right; omega) | (right; simp; done) | (right; simp; omega) | (left; simp; done) | (left; simp; omega) | (left; dsimp only; omega)) _))) (fun _ _ _ => id)) (bcells_one bd) (by omega) (by omega) (by simp; omega) ?_; intro v1 w1 hown1 hg1 hnl1 hat1; obtain ⟨A1, k1, rfl, _⟩ := ownsRow_slice hown1; rw [Nat.zero_add] at hat1; have bg : Blk w1 g 134 #[.int .i64 s.n, v, .int .i64 p] := Blk.grown (by repeat (first | (with_reducible assumption) | ((with_reducible apply Blk.set_); (case' h => skip)) | ((with_reducible apply Blk.setRow); (case' h => skip)) | ((with_reducible apply Blk.far); (case' hp => (first | (simp; done) | (simp; omega) | omega)); (case' h => skip)) | ((with_reducible apply Blk.farRow); (case' hb => (first | (simp; done) | (simp; omega) | omega)); (case' h => skip)) | (with_reducible apply Blk.drew) | (with_reducible apply Blk.drewN) | ((with_reducible apply Blk.newAt); (first | rfl | (simp; done))) | ((apply Blk.newAt); (first | rfl | (simp; done))) | (with_reducible apply Blk.alloc) | assumption)) hg1 (by simp [Value.ownBlock]; omega); have bx : Blk w1 w.heap.size 74 (movV ⟨xs, xf, xt, xe, 1, xn⟩).cells := Blk.grown (by repeat (first | (with_reducible assumption) | ((with_reducible apply Blk.set_); (case' h => skip)) | ((with_reducible apply Blk.setRow); (case' h => skip)) | ((with_reducible apply Blk.far); (case' hp => (first | (simp; done) | (simp; omega) | omega)); (case' h => skip)) | ((with_reducible apply Blk.farRow); (case' hb => (first | (simp; done) | (simp; omega) | omega)); (case' h => skip)) | (with_reducible apply Blk.drew) | (with_reducible apply Blk.drewN) | ((with_reducible apply Blk.newAt); (first | rfl | (simp; done))) | ((apply Blk.newAt); (first | rfl | (simp; done))) | (with_reducible apply Blk.alloc) | assumption)) hg1 (by simp [Value.ownBlock]); have q1 := bg.cell 1; have q2 := bg.cell 2; have r1 := bg.frozen 1; have r2 := bg.frozen 2; have x4 := bx.cell 4; have hf1 : Fr nowhere w w1 := Fr.grown (by (repeat (first | exact Fr.refl _ _ | assumption | refine Fr.setCell ?_ (by first | (right; omega) | (right; simp; done) | (right; simp; omega) | (left; simp; done) | (left; simp; omega) | (left; dsimp only; omega)) _ | refine Fr.alloc ?_ _ | refine Fr.drew ?_ | refine Fr.setRow ?_ (by first | (right; omega) | (right; simp; done) | (right; simp; omega) | (left; simp; done) | (left; simp; omega) | (left; dsimp only; omega)) _))) hg1 (fun b hb => .inr (by simp [Value.ownBlock] at hb; omega)); have hf1g : Fr (fun b => b = g) w w1 := hf1.any; have hgl1 := bg.lt; have hxl1 := bx.lt; have fin := heard_hold g s bd G w w1 A1 k1 H0.out Hbl.out (by simpa using hown1) (hat1.elim (fun e => ⟨w.heap.size + 3, e, Nat.le_add_right _ _⟩) (fun e => ⟨_, e, by simp; omega⟩)); have Fin := Lib.hid fin; clear fin hown1 hg1 hnl1 hat1)
            refine wp_region_plan [.take 0, .take 1, .take 2, .take 3, .take 4, .take 5, .take 6, .take 7, .take 8, .take 9] [[1, 2, 3, 9], [2, 3, 9], [3, 9], [9], [5, 6, 7, 8, 9], [6, 7, 8, 9], [7, 8, 9], [8, 9], [9], []] (by kernel_rfl) (by kernel_rfl) (by decide) (by kernel_rfl) (fun _ _ _ _ _ h => h) ?_
            simp only [planWp, Array.getD_eq_getD_getElem?, List.getElem?_toArray, List.getElem?_cons_succ, List.getElem?_cons_zero, Option.getD_some]
            repeat (first | ((with_reducible refine And.intro ?_ ?_); first | exact trivial | rfl) | (fail) | ((fail_if_success at_builtin); go_step))
            go_wp2
            go_ret
            exact ⟨rfl, Fin.out p (by omega) _ (by (repeat (first | exact Fr.refl _ _ | assumption | refine Fr.setCell ?_ (by first | (right; omega) | (right; simp; done) | (right; simp; omega) | (left; simp; done) | (left; simp; omega) | (left; dsimp only; omega)) _ | refine Fr.alloc ?_ _ | refine Fr.drew ?_ | refine Fr.setRow ?_ (by first | (right; omega) | (right; simp; done) | (right; simp; omega) | (left; simp; done) | (left; simp; omega) | (left; dsimp only; omega)) _))) _ (by repeat (first | (with_reducible assumption) | ((with_reducible apply Blk.set_); (case' h => skip)) | ((with_reducible apply Blk.setRow); (case' h => skip)) | ((with_reducible apply Blk.far); (case' hp => (first | (simp; done) | (simp; omega) | omega)); (case' h => skip)) | ((with_reducible apply Blk.farRow); (case' hb => (first | (simp; done) | (simp; omega) | omega)); (case' h => skip)) | (with_reducible apply Blk.drew) | (with_reducible apply Blk.drewN) | ((with_reducible apply Blk.newAt); (first | rfl | (simp; done))) | ((apply Blk.newAt); (first | rfl | (simp; done))) | (with_reducible apply Blk.alloc) | assumption)) (by rfl) (by (repeat (first | exact Fr.refl _ _ | assumption | refine Fr.setCell ?_ (by first | (right; omega) | (right; simp; done) | (right; simp; omega) | (left; simp; done) | (left; simp; omega) | (left; dsimp only; omega)) _ | refine Fr.alloc ?_ _ | refine Fr.drew ?_ | refine Fr.setRow ?_ (by first | (right; omega) | (right; simp; done) | (right; simp; omega) | (left; simp; done) | (left; simp; omega) | (left; dsimp only; omega)) _)))⟩
        · have hp1 : decide ((2 : Int) = 1) = false := rfl
          clear hpp
          rcases Nat.lt_or_ge bd.length p with hpl | hpl
          · rw [if_pos hpl]
            have hd1 : decide ((bd.length : Int) < (p : Int)) = true := by simp; omega
            go_enter Try.func70, Try.ntmps70
            go_wp2_with (at_builtin; refine wpList_appsl rfl rfl w.heap.size Try.underlying26 ei_u8 (.slice (some ⟨w.heap.size + 3, 0, none⟩) 0 0) 0 [] (by simp [Act.eval]) (own_made (by simp) (by omega)) Gd (.slice Ad bd.length kd) bd.length (bd.map bcell) rfl (Hbd.out.fr (F := nowhere) (by (repeat (first | exact Fr.refl _ _ | assumption | refine Fr.setCell ?_ (by first | (right; omega) | (right; simp; done) | (right; simp; omega) | (left; simp; done) | (left; simp; omega) | (left; dsimp only; omega)) _ | refine Fr.alloc ?_ _ | refine Fr.drew ?_ | refine Fr.setRow ?_ (by first | (right; omega) | (right; simp; done) | (right; simp; omega) | (left; simp; done) | (left; simp; omega) | (left; dsimp only; omega)) _))) (fun _ _ _ => id)) (bcells_one bd) (by omega) (by omega) (by simp; omega) ?_; intro v1 w1 hown1 hg1 hnl1 hat1; obtain ⟨A1, k1, rfl, _⟩ := ownsRow_slice hown1; rw [Nat.zero_add] at hat1; have bg : Blk w1 g 134 #[.int .i64 s.n, v, .int .i64 p] := Blk.grown (by repeat (first | (with_reducible assumption) | ((with_reducible apply Blk.set_); (case' h => skip)) | ((with_reducible apply Blk.setRow); (case' h => skip)) | ((with_reducible apply Blk.far); (case' hp => (first | (simp; done) | (simp; omega) | omega)); (case' h => skip)) | ((with_reducible apply Blk.farRow); (case' hb => (first | (simp; done) | (simp; omega) | omega)); (case' h => skip)) | (with_reducible apply Blk.drew) | (with_reducible apply Blk.drewN) | ((with_reducible apply Blk.newAt); (first | rfl | (simp; done))) | ((apply Blk.newAt); (first | rfl | (simp; done))) | (with_reducible apply Blk.alloc) | assumption)) hg1 (by simp [Value.ownBlock]; omega); have bx : Blk w1 w.heap.size 74 (movV ⟨xs, xf, xt, xe, 2, xn⟩).cells := Blk.grown (by repeat (first | (with_reducible assumption) | ((with_reducible apply Blk.set_); (case' h => skip)) | ((with_reducible apply Blk.setRow); (case' h => skip)) | ((with_reducible apply Blk.far); (case' hp => (first | (simp; done) | (simp; omega) | omega)); (case' h => skip)) | ((with_reducible apply Blk.farRow); (case' hb => (first | (simp; done) | (simp; omega) | omega)); (case' h => skip)) | (with_reducible apply Blk.drew) | (with_reducible apply Blk.drewN) | ((with_reducible apply Blk.newAt); (first | rfl | (simp; done))) | ((apply Blk.newAt); (first | rfl | (simp; done))) | (with_reducible apply Blk.alloc) | assumption)) hg1 (by simp [Value.ownBlock]); have q1 := bg.cell 1; have q2 := bg.cell 2; have r1 := bg.frozen 1; have r2 := bg.frozen 2; have x4 := bx.cell 4; have hf1 : Fr nowhere w w1 := Fr.grown (by (repeat (first | exact Fr.refl _ _ | assumption | refine Fr.setCell ?_ (by first | (right; omega) | (right; simp; done) | (right; simp; omega) | (left; simp; done) | (left; simp; omega) | (left; dsimp only; omega)) _ | refine Fr.alloc ?_ _ | refine Fr.drew ?_ | refine Fr.setRow ?_ (by first | (right; omega) | (right; simp; done) | (right; simp; omega) | (left; simp; done) | (left; simp; omega) | (left; dsimp only; omega)) _))) hg1 (fun b hb => .inr (by simp [Value.ownBlock] at hb; omega)); have hf1g : Fr (fun b => b = g) w w1 := hf1.any; have hgl1 := bg.lt; have hxl1 := bx.lt; have fin := heard_hold g s bd G w w1 A1 k1 H0.out Hbl.out (by simpa using hown1) (hat1.elim (fun e => ⟨w.heap.size + 3, e, Nat.le_add_right _ _⟩) (fun e => ⟨_, e, by simp; omega⟩)); have Fin := Lib.hid fin; clear fin hown1 hg1 hnl1 hat1)
            refine wp_region_plan [.take 0, .take 1, .take 2, .take 3, .take 4, .take 5, .take 6, .take 7, .take 8, .take 9] [[1, 2, 3, 9], [2, 3, 9], [3, 9], [9], [5, 6, 7, 8, 9], [6, 7, 8, 9], [7, 8, 9], [8, 9], [9], []] (by kernel_rfl) (by kernel_rfl) (by decide) (by kernel_rfl) (fun _ _ _ _ _ h => h) ?_
            simp only [planWp, Array.getD_eq_getD_getElem?, List.getElem?_toArray, List.getElem?_cons_succ, List.getElem?_cons_zero, Option.getD_some]
            repeat (first | ((with_reducible refine And.intro ?_ ?_); first | exact trivial | rfl) | (fail) | ((fail_if_success at_builtin); go_step))
            go_wp2
            go_ret
            exact ⟨rfl, Fin.out 0 (by omega) _ (by (repeat (first | exact Fr.refl _ _ | assumption | refine Fr.setCell ?_ (by first | (right; omega) | (right; simp; done) | (right; simp; omega) | (left; simp; done) | (left; simp; omega) | (left; dsimp only; omega)) _ | refine Fr.alloc ?_ _ | refine Fr.drew ?_ | refine Fr.setRow ?_ (by first | (right; omega) | (right; simp; done) | (right; simp; omega) | (left; simp; done) | (left; simp; omega) | (left; dsimp only; omega)) _))) _ (by repeat (first | (with_reducible assumption) | ((with_reducible apply Blk.set_); (case' h => skip)) | ((with_reducible apply Blk.setRow); (case' h => skip)) | ((with_reducible apply Blk.far); (case' hp => (first | (simp; done) | (simp; omega) | omega)); (case' h => skip)) | ((with_reducible apply Blk.farRow); (case' hb => (first | (simp; done) | (simp; omega) | omega)); (case' h => skip)) | (with_reducible apply Blk.drew) | (with_reducible apply Blk.drewN) | ((with_reducible apply Blk.newAt); (first | rfl | (simp; done))) | ((apply Blk.newAt); (first | rfl | (simp; done))) | (with_reducible apply Blk.alloc) | assumption)) (by rfl) (by (repeat (first | exact Fr.refl _ _ | assumption | refine Fr.setCell ?_ (by first | (right; omega) | (right; simp; done) | (right; simp; omega) | (left; simp; done) | (left; simp; omega) | (left; dsimp only; omega)) _ | refine Fr.alloc ?_ _ | refine Fr.drew ?_ | refine Fr.setRow ?_ (by first | (right; omega) | (right; simp; done) | (right; simp; omega) | (left; simp; done) | (left; simp; omega) | (left; dsimp only; omega)) _)))⟩
          · rw [if_neg (by omega)]
            have hd1 : decide ((bd.length : Int) < (p : Int)) = false := by simp; omega
            go_enter Try.func70, Try.ntmps70
            go_wp2_with (at_builtin; refine wpList_appsl rfl rfl w.heap.size Try.underlying26 ei_u8 (.slice (some ⟨w.heap.size + 3, 0, none⟩) 0 0) 0 [] (by simp [Act.eval]) (own_made (by simp) (by omega)) Gd (.slice Ad bd.length kd) bd.length (bd.map bcell) rfl (Hbd.out.fr (F := nowhere) (by (repeat (first | exact Fr.refl _ _ | assumption | refine Fr.setCell ?_ (by first | (right; omega) | (right; simp; done) | (right; simp; omega) | (left; simp; done) | (left; simp; omega) | (left; dsimp only; omega)) _ | refine Fr.alloc ?_ _ | refine Fr.drew ?_ | refine Fr.setRow ?_ (by first | (right; omega) | (right; simp; done) | (right; simp; omega) | (left; simp; done) | (left; simp; omega) | (left; dsimp only; omega)) _))) (fun _ _ _ => id)) (bcells_one bd) (by omega) (by omega) (by simp; omega) ?_; intro v1 w1 hown1 hg1 hnl1 hat1; obtain ⟨A1, k1, rfl, _⟩ := ownsRow_slice hown1; rw [Nat.zero_add] at hat1; have bg : Blk w1 g 134 #[.int .i64 s.n, v, .int .i64 p] := Blk.grown (by repeat (first | (with_reducible assumption) | ((with_reducible apply Blk.set_); (case' h => skip)) | ((with_reducible apply Blk.setRow); (case' h => skip)) | ((with_reducible apply Blk.far); (case' hp => (first | (simp; done) | (simp; omega) | omega)); (case' h => skip)) | ((with_reducible apply Blk.farRow); (case' hb => (first | (simp; done) | (simp; omega) | omega)); (case' h => skip)) | (with_reducible apply Blk.drew) | (with_reducible apply Blk.drewN) | ((with_reducible apply Blk.newAt); (first | rfl | (simp; done))) | ((apply Blk.newAt); (first | rfl | (simp; done))) | (with_reducible apply Blk.alloc) | assumption)) hg1 (by simp [Value.ownBlock]; omega); have bx : Blk w1 w.heap.size 74 (movV ⟨xs, xf, xt, xe, 2, xn⟩).cells := Blk.grown (by repeat (first | (with_reducible assumption) | ((with_reducible apply Blk.set_); (case' h => skip)) | ((with_reducible apply Blk.setRow); (case' h => skip)) | ((with_reducible apply Blk.far); (case' hp => (first | (simp; done) | (simp; omega) | omega)); (case' h => skip)) | ((with_reducible apply Blk.farRow); (case' hb => (first | (simp; done) | (simp; omega) | omega)); (case' h => skip)) | (with_reducible apply Blk.drew) | (with_reducible apply Blk.drewN) | ((with_reducible apply Blk.newAt); (first | rfl | (simp; done))) | ((apply Blk.newAt); (first | rfl | (simp; done))) | (with_reducible apply Blk.alloc) | assumption)) hg1 (by simp [Value.ownBlock]); have q1 := bg.cell 1; have q2 := bg.cell 2; have r1 := bg.frozen 1; have r2 := bg.frozen 2; have x4 := bx.cell 4; have hf1 : Fr nowhere w w1 := Fr.grown (by (repeat (first | exact Fr.refl _ _ | assumption | refine Fr.setCell ?_ (by first | (right; omega) | (right; simp; done) | (right; simp; omega) | (left; simp; done) | (left; simp; omega) | (left; dsimp only; omega)) _ | refine Fr.alloc ?_ _ | refine Fr.drew ?_ | refine Fr.setRow ?_ (by first | (right; omega) | (right; simp; done) | (right; simp; omega) | (left; simp; done) | (left; simp; omega) | (left; dsimp only; omega)) _))) hg1 (fun b hb => .inr (by simp [Value.ownBlock] at hb; omega)); have hf1g : Fr (fun b => b = g) w w1 := hf1.any; have hgl1 := bg.lt; have hxl1 := bx.lt; have fin := heard_hold g s bd G w w1 A1 k1 H0.out Hbl.out (by simpa using hown1) (hat1.elim (fun e => ⟨w.heap.size + 3, e, Nat.le_add_right _ _⟩) (fun e => ⟨_, e, by simp; omega⟩)); have Fin := Lib.hid fin; clear fin hown1 hg1 hnl1 hat1)
            refine wp_region_plan [.take 0, .take 1, .take 2, .take 3, .take 4, .take 5, .take 6, .take 7, .take 8, .take 9] [[1, 2, 3, 9], [2, 3, 9], [3, 9], [9], [5, 6, 7, 8, 9], [6, 7, 8, 9], [7, 8, 9], [8, 9], [9], []] (by kernel_rfl) (by kernel_rfl) (by decide) (by kernel_rfl) (fun _ _ _ _ _ h => h) ?_
            simp only [planWp, Array.getD_eq_getD_getElem?, List.getElem?_toArray, List.getElem?_cons_succ, List.getElem?_cons_zero, Option.getD_some]
            repeat (first | ((with_reducible refine And.intro ?_ ?_); first | exact trivial | rfl) | (fail) | ((fail_if_success at_builtin); go_step))
            go_wp2
            go_ret
            exact ⟨rfl, Fin.out p (by omega) _ (by (repeat (first | exact Fr.refl _ _ | assumption | refine Fr.setCell ?_ (by first | (right; omega) | (right; simp; done) | (right; simp; omega) | (left; simp; done) | (left; simp; omega) | (left; dsimp only; omega)) _ | refine Fr.alloc ?_ _ | refine Fr.drew ?_ | refine Fr.setRow ?_ (by first | (right; omega) | (right; simp; done) | (right; simp; omega) | (left; simp; done) | (left; simp; omega) | (left; dsimp only; omega)) _))) _ (by repeat (first | (with_reducible assumption) | ((with_reducible apply Blk.set_); (case' h => skip)) | ((with_reducible apply Blk.setRow); (case' h => skip)) | ((with_reducible apply Blk.far); (case' hp => (first | (simp; done) | (simp; omega) | omega)); (case' h => skip)) | ((with_reducible apply Blk.farRow); (case' hb => (first | (simp; done) | (simp; omega) | omega)); (case' h => skip)) | (with_reducible apply Blk.drew) | (with_reducible apply Blk.drewN) | ((with_reducible apply Blk.newAt); (first | rfl | (simp; done))) | ((apply Blk.newAt); (first | rfl | (simp; done))) | (with_reducible apply Blk.alloc) | assumption)) (by rfl) (by (repeat (first | exact Fr.refl _ _ | assumption | refine Fr.setCell ?_ (by first | (right; omega) | (right; simp; done) | (right; simp; omega) | (left; simp; done) | (left; simp; omega) | (left; dsimp only; omega)) _ | refine Fr.alloc ?_ _ | refine Fr.drew ?_ | refine Fr.setRow ?_ (by first | (right; omega) | (right; simp; done) | (right; simp; omega) | (left; simp; done) | (left; simp; omega) | (left; dsimp only; omega)) _)))⟩
      · have p1 : (xp != 1) = true := by simp; omega
        have p2 : (xp != 2) = true := by simp; omega
        rw [show mHear s ⟨xs, xf, xt, xe, xp, xn⟩ ⟨8, op, cid, name, cn, cwhy, slot, epoch, at_, last⟩ dl 0 bd = (s, false) from by unfold mHear; rw [if_pos rfl, if_neg (by simp; omega)]]
        clear hd hat hp
        go_enter Try.func70, Try.ntmps70
        go_wp2
        go_ret
        exact Heard.same H0.out rfl (by (repeat (first | exact Fr.refl _ _ | assumption | refine Fr.setCell ?_ (by first | (right; omega) | (right; simp; done) | (right; simp; omega) | (left; simp; done) | (left; simp; omega) | (left; dsimp only; omega)) _ | refine Fr.alloc ?_ _ | refine Fr.drew ?_ | refine Fr.setRow ?_ (by first | (right; omega) | (right; simp; done) | (right; simp; omega) | (left; simp; done) | (left; simp; omega) | (left; dsimp only; omega)) _)))
    · have w0 : (why == 0) = false := by simpa using hw
      rw [show mHear s ⟨xs, xf, xt, xe, xp, xn⟩ ⟨8, op, cid, name, cn, cwhy, slot, epoch, at_, last⟩ dl why bd = (s, false) from by unfold mHear; rw [if_pos rfl, if_neg (by simp [hw])]]
      clear hd hat hw
      go_enter Try.func70, Try.ntmps70
      go_wp2
      go_ret
      exact Heard.same H0.out rfl (by (repeat (first | exact Fr.refl _ _ | assumption | refine Fr.setCell ?_ (by first | (right; omega) | (right; simp; done) | (right; simp; omega) | (left; simp; done) | (left; simp; omega) | (left; dsimp only; omega)) _ | refine Fr.alloc ?_ _ | refine Fr.drew ?_ | refine Fr.setRow ?_ (by first | (right; omega) | (right; simp; done) | (right; simp; omega) | (left; simp; done) | (left; simp; omega) | (left; dsimp only; omega)) _)))
  have e8 : (kind == 8) = false := by simpa using k8
  by_cases k9 : kind = 9
  · subst k9
    have Hlt := Lib.hid hlt
    by_cases h2 : xp = 2
    · subst h2
      rcases hd with ⟨hd, rfl⟩ | ⟨bs, A, c, hd, rfl, hbs, hl2⟩
      · have hnil := fun (W : World) => Lib.run_eql_slice_nil (P := Try.prog) W 26 5 none 0 0 0 0 Try.underlying26
        rw [show mHear s ⟨xs, xf, xt, xe, 2, xn⟩ ⟨9, op, cid, name, cn, cwhy, slot, epoch, at_, last⟩ dl why bd = (s, false) from by unfold mHear; rw [if_neg (by simp), if_pos rfl, if_neg (by simp [hd])]]
        clear hd hat k8 hlt
        go_enter Try.func70, Try.ntmps70
        go_wp2
        refine wp_region_plan [.take 0, .take 1, .take 2, .take 3, .take 4, .take 5, .take 6, .take 7, .take 8, .take 9, .take 10, .take 11, .take 12, .take 13, .take 14, .take 15, .take 16, .take 17, .take 18] [[1, 2, 3, 4, 5, 6, 7, 8, 9, 10, 11, 12, 13, 14, 15, 16, 17, 18], [2, 3, 4, 5, 6, 7, 8, 9, 10, 11, 12, 13, 14, 15, 16, 17, 18], [3, 4, 5, 6, 7, 8, 9, 10, 11, 12, 13, 14, 15, 16, 17, 18], [4, 5, 6, 7, 8, 9, 10, 11, 12, 13, 14, 15, 16, 17, 18], [5, 6, 7, 8, 9, 10, 11, 12, 13, 14, 15, 16, 17, 18], [6, 7, 8, 9, 10, 11, 12, 13, 14, 15, 16, 17, 18], [7, 8, 9, 10, 11, 12, 13, 14, 15, 16, 17, 18], [8, 9, 10, 11, 12, 13, 14, 15, 16, 17, 18], [9, 10, 11, 12, 13, 14, 15, 16, 17, 18], [10, 11, 12, 13, 14, 15, 16, 17, 18], [11, 12, 13, 14, 15, 16, 17, 18], [12, 17, 18], [17, 18], [14, 15, 16, 17, 18], [15, 16, 17, 18], [16, 17, 18], [17, 18], [18], []] (by kernel_rfl) (by kernel_rfl) (by decide) (by kernel_rfl) (fun _ _ _ _ _ h => h) ?_
        simp only [planWp, Array.getD_eq_getD_getElem?, List.getElem?_toArray, List.getElem?_cons_succ, List.getElem?_cons_zero, Option.getD_some]
        repeat (first | ((with_reducible refine And.intro ?_ ?_); first | exact trivial | rfl) | (fail) | ((fail_if_success at_builtin); go_step))
        go_wp2
        go_ret
        exact Heard.same H0.out rfl (by (repeat (first | exact Fr.refl _ _ | assumption | refine Fr.setCell ?_ (by first | (right; omega) | (right; simp; done) | (right; simp; omega) | (left; simp; done) | (left; simp; omega) | (left; dsimp only; omega)) _ | refine Fr.alloc ?_ _ | refine Fr.drew ?_ | refine Fr.setRow ?_ (by first | (right; omega) | (right; simp; done) | (right; simp; omega) | (left; simp; done) | (left; simp; omega) | (left; dsimp only; omega)) _)))
      · have hnil := fun (W : World) => Lib.run_eql_slice_nil (P := Try.prog) W 26 5 (some A) bs.length c 0 0 Try.underlying26
        have hby : s.bytes = bs := by unfold MS.bytes; rw [hd]; rfl
        rw [hby] at hat
        by_cases ha : at_ = s.at_
        · have fin := heard_at g s bs A c G w H0.out hd hb hbs
          have Fin := Lib.hid fin
          have Hmh := Lib.hid (show mHear s ⟨xs, xf, xt, xe, 2, xn⟩ ⟨9, op, cid, name, cn, cwhy, slot, epoch, at_, last⟩ dl why bd = (if why = 0 then ⟨s.n, s.data, min (s.at_ + dl) bs.length⟩ else if why = 5 ∨ why = 3 then ⟨s.n, s.data, 0⟩ else s, decide (why = 0) && last) from by unfold mHear; rw [if_neg (by simp), if_pos rfl, if_pos ⟨rfl, by rw [hd]; rfl, ha⟩, hby])
          rw [Hmh.out]
          subst ha
          have Hby := Lib.hid hby
          clear fin k8 hlt hd hbs hby
          generalize s.at_ = p at *
          by_cases w0 : why = 0
          · subst w0
            rw [if_pos rfl]
            obtain ⟨e, he⟩ : ∃ e : Nat, min (p + dl) bs.length = e := ⟨_, rfl⟩
            have he2 : e ≤ bs.length := by omega
            rw [he]
            have He := Lib.hid he
            clear he
            go_enter Try.func70, Try.ntmps70
            go_wp2
            refine wp_region_plan [.take 0, .take 1, .take 2, .take 3, .take 4, .take 5, .take 6, .take 7, .take 8, .take 9, .take 10, .take 11, .take 12, .take 13, .take 14, .take 15, .take 16, .take 17, .take 18] [[1, 2, 3, 4, 5, 6, 7, 8, 9, 10, 11, 12, 13, 14, 15, 16, 17, 18], [2, 3, 4, 5, 6, 7, 8, 9, 10, 11, 12, 13, 14, 15, 16, 17, 18], [3, 4, 5, 6, 7, 8, 9, 10, 11, 12, 13, 14, 15, 16, 17, 18], [4, 5, 6, 7, 8, 9, 10, 11, 12, 13, 14, 15, 16, 17, 18], [5, 6, 7, 8, 9, 10, 11, 12, 13, 14, 15, 16, 17, 18], [6, 7, 8, 9, 10, 11, 12, 13, 14, 15, 16, 17, 18], [7, 8, 9, 10, 11, 12, 13, 14, 15, 16, 17, 18], [8, 9, 10, 11, 12, 13, 14, 15, 16, 17, 18], [9, 10, 11, 12, 13, 14, 15, 16, 17, 18], [10, 11, 12, 13, 14, 15, 16, 17, 18], [11, 12, 13, 14, 15, 16, 17, 18], [12, 17, 18], [17, 18], [14, 15, 16, 17, 18], [15, 16, 17, 18], [16, 17, 18], [17, 18], [18], []] (by kernel_rfl) (by kernel_rfl) (by decide) (by kernel_rfl) (fun _ _ _ _ _ h => h) ?_
            simp only [planWp, Array.getD_eq_getD_getElem?, List.getElem?_toArray, List.getElem?_cons_succ, List.getElem?_cons_zero, Option.getD_some]
            repeat (first | ((with_reducible refine And.intro ?_ ?_); first | exact trivial | rfl) | (fail) | ((fail_if_success at_builtin); go_step))
            go_wp2
            refine wp_region_plan [.take 0, .take 1, .take 2, .take 3, .take 4, .take 5, .take 6, .take 7, .take 8, .take 9, .take 10, .take 11, .take 12, .take 13, .take 14, .take 15, .take 16, .run 17 []] [[15, 16, 17], [2, 3, 4, 8, 14, 15, 16, 17], [3, 4, 8, 14, 15, 16, 17], [4, 8, 14, 15, 16, 17], [8, 14, 15, 16, 17], [6, 7, 8, 14, 15, 16, 17], [7, 8, 14, 15, 16, 17], [8, 14, 15, 16, 17], [14, 15, 16, 17], [10, 11, 12, 13, 14, 15, 16, 17], [11, 12, 13, 14, 15, 16, 17], [12, 13, 14, 15, 16, 17], [13, 14, 15, 16, 17], [14, 15, 16, 17], [15, 16, 17], [16, 17], [17], []] (by kernel_rfl) (by kernel_rfl) (by decide) (by kernel_rfl) (fun _ _ _ _ _ h => h) ?_
            simp only [planWp, Array.getD_eq_getD_getElem?, List.getElem?_toArray, List.getElem?_cons_succ, List.getElem?_cons_zero, Option.getD_some]
            repeat (first | ((with_reducible refine And.intro ?_ ?_); first | exact trivial | rfl) | (fail) | ((fail_if_success at_builtin); go_step))
            rw [show (if (bs.length : Int) < (p : Int) + (dl : Int) then (bs.length : Int) else (p : Int) + (dl : Int)) = (e : Int) by have := He.out; split <;> omega]
            go_ret
            exact Fin.out e he2 _ (by (repeat (first | exact Fr.refl _ _ | assumption | refine Fr.setCell ?_ (by first | (right; omega) | (right; simp; done) | (right; simp; omega) | (left; simp; done) | (left; simp; omega) | (left; dsimp only; omega)) _ | refine Fr.alloc ?_ _ | refine Fr.drew ?_ | refine Fr.setRow ?_ (by first | (right; omega) | (right; simp; done) | (right; simp; omega) | (left; simp; done) | (left; simp; omega) | (left; dsimp only; omega)) _))) _ (by repeat (first | (with_reducible assumption) | ((with_reducible apply Blk.set_); (case' h => skip)) | ((with_reducible apply Blk.setRow); (case' h => skip)) | ((with_reducible apply Blk.far); (case' hp => (first | (simp; done) | (simp; omega) | omega)); (case' h => skip)) | ((with_reducible apply Blk.farRow); (case' hb => (first | (simp; done) | (simp; omega) | omega)); (case' h => skip)) | (with_reducible apply Blk.drew) | (with_reducible apply Blk.drewN) | ((with_reducible apply Blk.newAt); (first | rfl | (simp; done))) | ((apply Blk.newAt); (first | rfl | (simp; done))) | (with_reducible apply Blk.alloc) | assumption)) (by rfl) _ _ (by simp)
          · have e0 : (why == 0) = false := by simpa using w0
            rw [if_neg w0, show (decide (why = 0) && last) = false by simp [w0]]
            by_cases w5 : why = 5
            · subst w5
              rw [if_pos (.inl rfl)]
              go_enter Try.func70, Try.ntmps70
              go_wp2
              refine wp_region_plan [.take 0, .take 1, .take 2, .take 3, .take 4, .take 5, .take 6, .take 7, .take 8, .take 9, .take 10, .take 11, .take 12, .take 13, .take 14, .take 15, .take 16, .take 17, .take 18] [[1, 2, 3, 4, 5, 6, 7, 8, 9, 10, 11, 12, 13, 14, 15, 16, 17, 18], [2, 3, 4, 5, 6, 7, 8, 9, 10, 11, 12, 13, 14, 15, 16, 17, 18], [3, 4, 5, 6, 7, 8, 9, 10, 11, 12, 13, 14, 15, 16, 17, 18], [4, 5, 6, 7, 8, 9, 10, 11, 12, 13, 14, 15, 16, 17, 18], [5, 6, 7, 8, 9, 10, 11, 12, 13, 14, 15, 16, 17, 18], [6, 7, 8, 9, 10, 11, 12, 13, 14, 15, 16, 17, 18], [7, 8, 9, 10, 11, 12, 13, 14, 15, 16, 17, 18], [8, 9, 10, 11, 12, 13, 14, 15, 16, 17, 18], [9, 10, 11, 12, 13, 14, 15, 16, 17, 18], [10, 11, 12, 13, 14, 15, 16, 17, 18], [11, 12, 13, 14, 15, 16, 17, 18], [12, 17, 18], [17, 18], [14, 15, 16, 17, 18], [15, 16, 17, 18], [16, 17, 18], [17, 18], [18], []] (by kernel_rfl) (by kernel_rfl) (by decide) (by kernel_rfl) (fun _ _ _ _ _ h => h) ?_
              simp only [planWp, Array.getD_eq_getD_getElem?, List.getElem?_toArray, List.getElem?_cons_succ, List.getElem?_cons_zero, Option.getD_some]
              repeat (first | ((with_reducible refine And.intro ?_ ?_); first | exact trivial | rfl) | (fail) | ((fail_if_success at_builtin); go_step))
              go_wp2
              go_ret
              exact Fin.out 0 (by omega) _ (by (repeat (first | exact Fr.refl _ _ | assumption | refine Fr.setCell ?_ (by first | (right; omega) | (right; simp; done) | (right; simp; omega) | (left; simp; done) | (left; simp; omega) | (left; dsimp only; omega)) _ | refine Fr.alloc ?_ _ | refine Fr.drew ?_ | refine Fr.setRow ?_ (by first | (right; omega) | (right; simp; done) | (right; simp; omega) | (left; simp; done) | (left; simp; omega) | (left; dsimp only; omega)) _))) _ (by repeat (first | (with_reducible assumption) | ((with_reducible apply Blk.set_); (case' h => skip)) | ((with_reducible apply Blk.setRow); (case' h => skip)) | ((with_reducible apply Blk.far); (case' hp => (first | (simp; done) | (simp; omega) | omega)); (case' h => skip)) | ((with_reducible apply Blk.farRow); (case' hb => (first | (simp; done) | (simp; omega) | omega)); (case' h => skip)) | (with_reducible apply Blk.drew) | (with_reducible apply Blk.drewN) | ((with_reducible apply Blk.newAt); (first | rfl | (simp; done))) | ((apply Blk.newAt); (first | rfl | (simp; done))) | (with_reducible apply Blk.alloc) | assumption)) (by rfl) _ _ rfl
            · by_cases w3 : why = 3
              · subst w3
                rw [if_pos (.inr rfl)]
                go_enter Try.func70, Try.ntmps70
                go_wp2
                refine wp_region_plan [.take 0, .take 1, .take 2, .take 3, .take 4, .take 5, .take 6, .take 7, .take 8, .take 9, .take 10, .take 11, .take 12, .take 13, .take 14, .take 15, .take 16, .take 17, .take 18] [[1, 2, 3, 4, 5, 6, 7, 8, 9, 10, 11, 12, 13, 14, 15, 16, 17, 18], [2, 3, 4, 5, 6, 7, 8, 9, 10, 11, 12, 13, 14, 15, 16, 17, 18], [3, 4, 5, 6, 7, 8, 9, 10, 11, 12, 13, 14, 15, 16, 17, 18], [4, 5, 6, 7, 8, 9, 10, 11, 12, 13, 14, 15, 16, 17, 18], [5, 6, 7, 8, 9, 10, 11, 12, 13, 14, 15, 16, 17, 18], [6, 7, 8, 9, 10, 11, 12, 13, 14, 15, 16, 17, 18], [7, 8, 9, 10, 11, 12, 13, 14, 15, 16, 17, 18], [8, 9, 10, 11, 12, 13, 14, 15, 16, 17, 18], [9, 10, 11, 12, 13, 14, 15, 16, 17, 18], [10, 11, 12, 13, 14, 15, 16, 17, 18], [11, 12, 13, 14, 15, 16, 17, 18], [12, 17, 18], [17, 18], [14, 15, 16, 17, 18], [15, 16, 17, 18], [16, 17, 18], [17, 18], [18], []] (by kernel_rfl) (by kernel_rfl) (by decide) (by kernel_rfl) (fun _ _ _ _ _ h => h) ?_
                simp only [planWp, Array.getD_eq_getD_getElem?, List.getElem?_toArray, List.getElem?_cons_succ, List.getElem?_cons_zero, Option.getD_some]
                repeat (first | ((with_reducible refine And.intro ?_ ?_); first | exact trivial | rfl) | (fail) | ((fail_if_success at_builtin); go_step))
                go_wp2
                go_ret
                exact Fin.out 0 (by omega) _ (by (repeat (first | exact Fr.refl _ _ | assumption | refine Fr.setCell ?_ (by first | (right; omega) | (right; simp; done) | (right; simp; omega) | (left; simp; done) | (left; simp; omega) | (left; dsimp only; omega)) _ | refine Fr.alloc ?_ _ | refine Fr.drew ?_ | refine Fr.setRow ?_ (by first | (right; omega) | (right; simp; done) | (right; simp; omega) | (left; simp; done) | (left; simp; omega) | (left; dsimp only; omega)) _))) _ (by repeat (first | (with_reducible assumption) | ((with_reducible apply Blk.set_); (case' h => skip)) | ((with_reducible apply Blk.setRow); (case' h => skip)) | ((with_reducible apply Blk.far); (case' hp => (first | (simp; done) | (simp; omega) | omega)); (case' h => skip)) | ((with_reducible apply Blk.farRow); (case' hb => (first | (simp; done) | (simp; omega) | omega)); (case' h => skip)) | (with_reducible apply Blk.drew) | (with_reducible apply Blk.drewN) | ((with_reducible apply Blk.newAt); (first | rfl | (simp; done))) | ((apply Blk.newAt); (first | rfl | (simp; done))) | (with_reducible apply Blk.alloc) | assumption)) (by rfl) _ _ rfl
              · have e5 : (why == 5) = false := by simpa using w5
                have e3 : (why == 3) = false := by simpa using w3
                rw [if_neg (by simp [w5, w3])]
                clear w0 w5 w3
                go_enter Try.func70, Try.ntmps70
                go_wp2
                refine wp_region_plan [.take 0, .take 1, .take 2, .take 3, .take 4, .take 5, .take 6, .take 7, .take 8, .take 9, .take 10, .take 11, .take 12, .take 13, .take 14, .take 15, .take 16, .take 17, .take 18] [[1, 2, 3, 4, 5, 6, 7, 8, 9, 10, 11, 12, 13, 14, 15, 16, 17, 18], [2, 3, 4, 5, 6, 7, 8, 9, 10, 11, 12, 13, 14, 15, 16, 17, 18], [3, 4, 5, 6, 7, 8, 9, 10, 11, 12, 13, 14, 15, 16, 17, 18], [4, 5, 6, 7, 8, 9, 10, 11, 12, 13, 14, 15, 16, 17, 18], [5, 6, 7, 8, 9, 10, 11, 12, 13, 14, 15, 16, 17, 18], [6, 7, 8, 9, 10, 11, 12, 13, 14, 15, 16, 17, 18], [7, 8, 9, 10, 11, 12, 13, 14, 15, 16, 17, 18], [8, 9, 10, 11, 12, 13, 14, 15, 16, 17, 18], [9, 10, 11, 12, 13, 14, 15, 16, 17, 18], [10, 11, 12, 13, 14, 15, 16, 17, 18], [11, 12, 13, 14, 15, 16, 17, 18], [12, 17, 18], [17, 18], [14, 15, 16, 17, 18], [15, 16, 17, 18], [16, 17, 18], [17, 18], [18], []] (by kernel_rfl) (by kernel_rfl) (by decide) (by kernel_rfl) (fun _ _ _ _ _ h => h) ?_
                simp only [planWp, Array.getD_eq_getD_getElem?, List.getElem?_toArray, List.getElem?_cons_succ, List.getElem?_cons_zero, Option.getD_some]
                repeat (first | ((with_reducible refine And.intro ?_ ?_); first | exact trivial | rfl) | (fail) | ((fail_if_success at_builtin); go_step))
                go_wp2
                go_ret
                exact Heard.same H0.out rfl (by (repeat (first | exact Fr.refl _ _ | assumption | refine Fr.setCell ?_ (by first | (right; omega) | (right; simp; done) | (right; simp; omega) | (left; simp; done) | (left; simp; omega) | (left; dsimp only; omega)) _ | refine Fr.alloc ?_ _ | refine Fr.drew ?_ | refine Fr.setRow ?_ (by first | (right; omega) | (right; simp; done) | (right; simp; omega) | (left; simp; done) | (left; simp; omega) | (left; dsimp only; omega)) _)))
        · have ha' : (at_ != (s.at_ : Int)) = true := by simpa using ha
          rw [show mHear s ⟨xs, xf, xt, xe, 2, xn⟩ ⟨9, op, cid, name, cn, cwhy, slot, epoch, at_, last⟩ dl why bd = (s, false) from by unfold mHear; rw [if_neg (by simp), if_pos rfl, if_neg (by simp [ha])]]
          clear ha k8 hlt hd hbs hby
          go_enter Try.func70, Try.ntmps70
          go_wp2
          refine wp_region_plan [.take 0, .take 1, .take 2, .take 3, .take 4, .take 5, .take 6, .take 7, .take 8, .take 9, .take 10, .take 11, .take 12, .take 13, .take 14, .take 15, .take 16, .take 17, .take 18] [[1, 2, 3, 4, 5, 6, 7, 8, 9, 10, 11, 12, 13, 14, 15, 16, 17, 18], [2, 3, 4, 5, 6, 7, 8, 9, 10, 11, 12, 13, 14, 15, 16, 17, 18], [3, 4, 5, 6, 7, 8, 9, 10, 11, 12, 13, 14, 15, 16, 17, 18], [4, 5, 6, 7, 8, 9, 10, 11, 12, 13, 14, 15, 16, 17, 18], [5, 6, 7, 8, 9, 10, 11, 12, 13, 14, 15, 16, 17, 18], [6, 7, 8, 9, 10, 11, 12, 13, 14, 15, 16, 17, 18], [7, 8, 9, 10, 11, 12, 13, 14, 15, 16, 17, 18], [8, 9, 10, 11, 12, 13, 14, 15, 16, 17, 18], [9, 10, 11, 12, 13, 14, 15, 16, 17, 18], [10, 11, 12, 13, 14, 15, 16, 17, 18], [11, 12, 13, 14, 15, 16, 17, 18], [12, 17, 18], [17, 18], [14, 15, 16, 17, 18], [15, 16, 17, 18], [16, 17, 18], [17, 18], [18], []] (by kernel_rfl) (by kernel_rfl) (by decide) (by kernel_rfl) (fun _ _ _ _ _ h => h) ?_
          simp only [planWp, Array.getD_eq_getD_getElem?, List.getElem?_toArray, List.getElem?_cons_succ, List.getElem?_cons_zero, Option.getD_some]
          repeat (first | ((with_reducible refine And.intro ?_ ?_); first | exact trivial | rfl) | (fail) | ((fail_if_success at_builtin); go_step))
          go_wp2
          go_ret
          exact Heard.same H0.out rfl (by (repeat (first | exact Fr.refl _ _ | assumption | refine Fr.setCell ?_ (by first | (right; omega) | (right; simp; done) | (right; simp; omega) | (left; simp; done) | (left; simp; omega) | (left; dsimp only; omega)) _ | refine Fr.alloc ?_ _ | refine Fr.drew ?_ | refine Fr.setRow ?_ (by first | (right; omega) | (right; simp; done) | (right; simp; omega) | (left; simp; done) | (left; simp; omega) | (left; dsimp only; omega)) _)))
    · have h2' : (xp != 2) = true := by simpa using h2
      rw [show mHear s ⟨xs, xf, xt, xe, xp, xn⟩ ⟨9, op, cid, name, cn, cwhy, slot, epoch, at_, last⟩ dl why bd = (s, false) from by unfold mHear; rw [if_neg (by simp), if_pos rfl, if_neg (by simp [h2])]]
      clear hd hat h2 k8 hlt
      go_enter Try.func70, Try.ntmps70
      go_wp2
      refine wp_region_plan [.take 0, .take 1, .take 2, .take 3, .take 4, .take 5, .take 6, .take 7, .take 8, .take 9, .take 10, .take 11, .take 12, .take 13, .take 14, .take 15, .take 16, .take 17, .take 18] [[1, 2, 3, 4, 5, 6, 7, 8, 9, 10, 11, 12, 13, 14, 15, 16, 17, 18], [2, 3, 4, 5, 6, 7, 8, 9, 10, 11, 12, 13, 14, 15, 16, 17, 18], [3, 4, 5, 6, 7, 8, 9, 10, 11, 12, 13, 14, 15, 16, 17, 18], [4, 5, 6, 7, 8, 9, 10, 11, 12, 13, 14, 15, 16, 17, 18], [5, 6, 7, 8, 9, 10, 11, 12, 13, 14, 15, 16, 17, 18], [6, 7, 8, 9, 10, 11, 12, 13, 14, 15, 16, 17, 18], [7, 8, 9, 10, 11, 12, 13, 14, 15, 16, 17, 18], [8, 9, 10, 11, 12, 13, 14, 15, 16, 17, 18], [9, 10, 11, 12, 13, 14, 15, 16, 17, 18], [10, 11, 12, 13, 14, 15, 16, 17, 18], [11, 12, 13, 14, 15, 16, 17, 18], [12, 17, 18], [17, 18], [14, 15, 16, 17, 18], [15, 16, 17, 18], [16, 17, 18], [17, 18], [18], []] (by kernel_rfl) (by kernel_rfl) (by decide) (by kernel_rfl) (fun _ _ _ _ _ h => h) ?_
      simp only [planWp, Array.getD_eq_getD_getElem?, List.getElem?_toArray, List.getElem?_cons_succ, List.getElem?_cons_zero, Option.getD_some]
      repeat (first | ((with_reducible refine And.intro ?_ ?_); first | exact trivial | rfl) | (fail) | ((fail_if_success at_builtin); go_step))
      go_wp2
      go_ret
      exact Heard.same H0.out rfl (by (repeat (first | exact Fr.refl _ _ | assumption | refine Fr.setCell ?_ (by first | (right; omega) | (right; simp; done) | (right; simp; omega) | (left; simp; done) | (left; simp; omega) | (left; dsimp only; omega)) _ | refine Fr.alloc ?_ _ | refine Fr.drew ?_ | refine Fr.setRow ?_ (by first | (right; omega) | (right; simp; done) | (right; simp; omega) | (left; simp; done) | (left; simp; omega) | (left; dsimp only; omega)) _)))
  have e9 : (kind == 9) = false := by simpa using k9
  by_cases k10 : kind = 10
  · subst k10
    rw [show mHear s ⟨xs, xf, xt, xe, xp, xn⟩ ⟨10, op, cid, name, cn, cwhy, slot, epoch, at_, last⟩ dl why bd = (s, decide (why = 0) && decide (xp = 3)) from by unfold mHear; rw [if_neg (by simp), if_neg (by simp), if_pos rfl]]
    clear hd hat k8 k9
    by_cases hw : why = 0
    · subst hw
      go_enter Try.func70, Try.ntmps70
      go_wp2
      go_ret
      exact Heard.same H0.out (by have h3 : (xp == 3) = decide (xp = 3) := by rw [Bool.eq_iff_iff]; simp
                                  simp [h3]) (by (repeat (first | exact Fr.refl _ _ | assumption | refine Fr.setCell ?_ (by first | (right; omega) | (right; simp; done) | (right; simp; omega) | (left; simp; done) | (left; simp; omega) | (left; dsimp only; omega)) _ | refine Fr.alloc ?_ _ | refine Fr.drew ?_ | refine Fr.setRow ?_ (by first | (right; omega) | (right; simp; done) | (right; simp; omega) | (left; simp; done) | (left; simp; omega) | (left; dsimp only; omega)) _)))
    · have w0 : (why == 0) = false := by simpa using hw
      rw [show (decide (why = 0) && decide (xp = 3)) = false by simp [hw]]
      clear hw
      go_enter Try.func70, Try.ntmps70
      go_wp2
      go_ret
      exact Heard.same H0.out rfl (by (repeat (first | exact Fr.refl _ _ | assumption | refine Fr.setCell ?_ (by first | (right; omega) | (right; simp; done) | (right; simp; omega) | (left; simp; done) | (left; simp; omega) | (left; dsimp only; omega)) _ | refine Fr.alloc ?_ _ | refine Fr.drew ?_ | refine Fr.setRow ?_ (by first | (right; omega) | (right; simp; done) | (right; simp; omega) | (left; simp; done) | (left; simp; omega) | (left; dsimp only; omega)) _)))
  · have e10 : (kind == 10) = false := by simpa using k10
    rw [show mHear s ⟨xs, xf, xt, xe, xp, xn⟩ ⟨kind, op, cid, name, cn, cwhy, slot, epoch, at_, last⟩ dl why bd = (s, false) from by unfold mHear; rw [if_neg k8, if_neg k9, if_neg k10]]
    clear hd hat k8 k9 k10
    go_enter Try.func70, Try.ntmps70
    go_wp2
    go_ret
    exact Heard.same H0.out rfl (by (repeat (first | exact Fr.refl _ _ | assumption | refine Fr.setCell ?_ (by first | (right; omega) | (right; simp; done) | (right; simp; omega) | (left; simp; done) | (left; simp; omega) | (left; dsimp only; omega)) _ | refine Fr.alloc ?_ _ | refine Fr.drew ?_ | refine Fr.setRow ?_ (by first | (right; omega) | (right; simp; done) | (right; simp; omega) | (left; simp; done) | (left; simp; omega) | (left; dsimp only; omega)) _)))
end Go.Proofs.Ytglcmlicfmmlpaa
