/- The law NetOnce: its plain part and its walk: it returns true and turns nothing that was there. -/
import Derived.Laws.MakeOwn
import Derived.Test.YtnfmmfodnhmfaaaKeeps
namespace Go.Proofs.Ytnfmmfodnhmfaaa
open Go.RowKit Go.Maps

/-- A row of counters. -/
def rowOf (f : Nat → Nat) : Array Value := ((List.range 200).map fun k => Value.int .i64 (f k : Int)).toArray
theorem rowOf_size (f : Nat → Nat) : (rowOf f).size = 200 := by simp [rowOf]
theorem rowOf_get (f : Nat → Nat) {k : Nat} (hk : k < 200) : (rowOf f)[k]? = some (.int .i64 (f k : Int)) := by simp [rowOf, hk]
theorem rowOf_set (f : Nat → Nat) {b : Nat} (_hb : b < 200) : (rowOf f).setIfInBounds b (.int .i64 ((f b : Int) + 1)) = rowOf fun k => if k = b then f k + 1 else f k := by
  apply Array.ext
  · simp [rowOf]
  · intro i h1 h2
    rw [Array.getElem_setIfInBounds (by simpa [rowOf] using h1)]
    by_cases h : b = i
    · subst h; simp [rowOf]
    · simp only [rowOf, List.getElem_toArray, List.getElem_map, List.getElem_range]
      rw [if_neg h, if_neg (fun e => h e.symm)]
theorem made_ints : madeCells (Value.int .i64 0).cells (Int.toNat 200 * 1) = rowOf fun _ => 0 := by
  apply Array.ext
  · simp [madeCells, rowOf]
  · intro i h1 h2
    simp [madeCells, rowOf, Value.cells, Nat.mod_one]
theorem make_ints (w : World) : (Instr.makeSlice 42 (.int .i64 200) (.int .i64 200)).run Try.prog w = .ok (.slice (some ⟨w.heap.size, 0, none⟩) 200 200) (w.alloc (.cells (rowOf fun _ => 0) 3)) := by
  obtain ⟨i0, hi, hq0, hq1, hq2⟩ := info_parts (show (Try.prog.info? 3).map (fun i => (i.zero, i.size, i.bytes)) = some (some (.int .i64 0), 1, 8) from by kernel_rfl)
  have h := run_makeSlice (P := Try.prog) w 42 3 i0 (.int .i64 0) Try.underlying42 hi hq0 .i64 .i64 200 200 (by omega) (by omega) (by rw [hq1]; decide) (by rw [hq2]; decide) (by decide)
  rw [hq1, made_ints] at h
  exact h

/-- How many letters of a net hold the byte k alone. -/
def bodyN (L : List Letter) (k : Nat) : Nat := (L.filter fun x => x.d = [UInt8.ofNat k]).length

/-- What the law's script keeps: the letters that are out, the counters. -/
structure Once (L : List Letter) (s : Nat) (gs ds : Nat → Nat) (i : Nat) : Prop where
  body : ∀ x ∈ L, ∃ b, b < s ∧ x.d = [UInt8.ofNat b]
  count : ∀ k, k < s → gs k + bodyN L k ≤ 1 + ds k
  zero : ∀ k, s ≤ k → gs k = 0 ∧ ds k = 0
  len : L.length ≤ i
  sent : s ≤ i
  got : ∀ k, gs k ≤ i
  dup : ∀ k, ds k ≤ i

theorem ofNat_inj {a b : Nat} (ha : a < 200) (hb : b < 200) (h : UInt8.ofNat a = UInt8.ofNat b) : a = b := by
  have := congrArg UInt8.toNat h
  simp at this
  omega

theorem bodyN_app (L : List Letter) (x : Letter) (k : Nat) : bodyN (L ++ [x]) k = bodyN L k + if x.d = [UInt8.ofNat k] then 1 else 0 := by
  simp only [bodyN, List.filter_append, List.length_append, List.filter_cons, List.filter_nil]
  by_cases h : x.d = [UInt8.ofNat k] <;> simp [h]
theorem bodyN_erase (L : List Letter) (j : Nat) (x : Letter) (hj : L[j]? = some x) (k : Nat) : bodyN L k = bodyN (L.eraseIdx j) k + if x.d = [UInt8.ofNat k] then 1 else 0 := by
  induction L generalizing j with
  | nil => simp at hj
  | cons y L ih =>
    cases j with
    | zero =>
      simp at hj
      subst hj
      simp only [bodyN, List.eraseIdx_cons_zero, List.filter_cons]
      by_cases h : y.d = [UInt8.ofNat k] <;> simp [h]
    | succ j =>
      simp at hj
      have := ih j hj
      simp only [bodyN, List.eraseIdx_cons_succ, List.filter_cons] at this ⊢
      by_cases h : y.d = [UInt8.ofNat k]
      · simp [h] at this ⊢; omega
      · simp [h] at this ⊢; omega
theorem bodyN_none {L : List Letter} {s k : Nat} (h : ∀ x ∈ L, ∃ b, b < s ∧ x.d = [UInt8.ofNat b]) (hs : s ≤ k) (hk : k < 200) : bodyN L k = 0 := by
  simp only [bodyN, List.length_eq_zero_iff, List.filter_eq_nil_iff, decide_eq_true_eq]
  intro x hx e
  obtain ⟨b, hb, e'⟩ := h x hx
  rw [e'] at e
  injection e with e
  have := ofNat_inj (by omega) hk e
  omega

theorem Once.stay {L s gs ds i} (h : Once L s gs ds i) : Once L s gs ds (i + 1) :=
  ⟨h.body, h.count, h.zero, by have := h.len; omega, by have := h.sent; omega, fun k => by have := h.got k; omega, fun k => by have := h.dup k; omega⟩
theorem Once.send {L s gs ds i} (h : Once L s gs ds i) (f t : Int) (hi : i < 150) : Once (L ++ [⟨f, t, [UInt8.ofNat s]⟩]) (s + 1) gs ds (i + 1) := by
  have hs := h.sent
  refine ⟨fun x hx => ?_, fun k hk => ?_, fun k hk => h.zero k (by omega), by simp; exact h.len, by omega, fun k => by have := h.got k; omega, fun k => by have := h.dup k; omega⟩
  · rcases List.mem_append.1 hx with hx | hx
    · obtain ⟨b, hb, e⟩ := h.body x hx
      exact ⟨b, by omega, e⟩
    · simp at hx
      exact ⟨s, by omega, by rw [hx]⟩
  · rw [bodyN_app]
    by_cases hks : k = s
    · subst hks
      have h1 := bodyN_none h.body (Nat.le_refl _) (by omega)
      have h2 := h.zero k (Nat.le_refl _)
      rw [h1, if_pos rfl]
      omega
    · have h1 := h.count k (by omega)
      rw [if_neg (fun e => by
        injection e with e
        exact hks (ofNat_inj (by omega) (by omega) e).symm)]
      omega
theorem Once.take {L s gs ds i} (h : Once L s gs ds i) {j : Nat} {x : Letter} (hj : L[j]? = some x) {b : Nat} (hb : x.d = [UInt8.ofNat b]) (hbs : b < s) (hi : i < 150) : Once (L.eraseIdx j) s (fun k => if k = b then gs k + 1 else gs k) ds (i + 1) := by
  have hs := h.sent
  refine ⟨fun x hx => h.body x (List.mem_of_mem_eraseIdx hx), fun k hk => ?_, fun k hk => ⟨?_, (h.zero k hk).2⟩, ?_, by omega, fun k => ?_, fun k => by have := h.dup k; omega⟩
  · have h1 := h.count k hk
    have h2 := bodyN_erase L j x hj k
    by_cases hkb : k = b
    · subst hkb
      rw [if_pos hb] at h2
      rw [if_pos rfl]
      omega
    · have h3 : x.d ≠ [UInt8.ofNat k] := fun e => by
        rw [hb] at e
        injection e with e
        exact hkb (ofNat_inj (by omega) (by omega) e).symm
      rw [if_neg h3] at h2
      rw [if_neg hkb]
      omega
  · rw [if_neg (by omega)]; exact (h.zero k hk).1
  · have := List.length_eraseIdx_le L j; have := h.len; omega
  · have := h.got k; split <;> omega
theorem Once.drop {L s gs ds i} (h : Once L s gs ds i) (j : Nat) : Once (L.eraseIdx j) s gs ds (i + 1) := by
  refine ⟨fun x hx => h.body x (List.mem_of_mem_eraseIdx hx), fun k hk => ?_, h.zero, ?_, by have := h.sent; omega, fun k => by have := h.got k; omega, fun k => by have := h.dup k; omega⟩
  · have h1 := h.count k hk
    by_cases hj : j < L.length
    · have h2 := bodyN_erase L j _ (List.getElem?_eq_getElem hj) k
      omega
    · rw [List.eraseIdx_of_length_le (by omega)]; exact h1
  · have := List.length_eraseIdx_le L j; have := h.len; omega
theorem Once.double {L s gs ds i} (h : Once L s gs ds i) {x : Letter} (hx : x ∈ L) {b : Nat} (hb : x.d = [UInt8.ofNat b]) (hbs : b < s) (hi : i < 150) : Once (L ++ [x]) s gs (fun k => if k = b then ds k + 1 else ds k) (i + 1) := by
  have hs := h.sent
  refine ⟨fun y hy => ?_, fun k hk => ?_, fun k hk => ⟨(h.zero k hk).1, ?_⟩, by simp; exact h.len, by omega, fun k => by have := h.got k; omega, fun k => ?_⟩
  · rcases List.mem_append.1 hy with hy | hy
    · exact h.body y hy
    · simp at hy; subst hy; exact ⟨b, hbs, hb⟩
  · have h1 := h.count k hk
    rw [bodyN_app]
    by_cases hkb : k = b
    · subst hkb
      rw [if_pos hb, if_pos rfl]
      omega
    · have h3 : x.d ≠ [UInt8.ofNat k] := fun e => by
        rw [hb] at e
        injection e with e
        exact hkb (ofNat_inj (by omega) (by omega) e).symm
      rw [if_neg h3, if_neg hkb]
      omega
  · rw [if_neg (by omega)]; exact (h.zero k hk).2
  · have := h.dup k; split <;> omega
theorem Once.start : Once [] 0 (fun _ => 0) (fun _ => 0) 0 := ⟨by simp, by intro k hk; omega, by simp, Nat.le_refl _, Nat.le_refl _, by simp, by simp⟩
set_option maxRecDepth 100000 in
set_option maxHeartbeats 4000000 in
theorem once_any (v : Value) (l : List NOp) (ys : List Value) (w : World) (hl : Sl w (fun b => b < w.heap.size) 4 v l.length ys) (hr : RowsL (NOpR w) l ys) :
    Calls Try.prog 4 #[v] w fun e w' => e = .returned (.bool true) ∧ Fr nowhere w w' := by
  obtain ⟨A, c, rfl, hc, hm, hyl, hA⟩ := hl
  have mk := make_ints
  have hll : l.length ≤ 9223372036854775807 := by simp only [maxLen] at hm; omega
  have HA := Lib.hid hA
  have Hyl := Lib.hid hyl
  have Hr := Lib.hid hr
  clear hA hyl hr
  generalize hn : l.length = n at *
  have Hn := Lib.hid hn
  clear hn
  go_enter Try.func4, Try.ntmps4
  go_wp2_with fail
  refine (new_any _).mono ?_
  rintro e w1 ⟨p, rfl, ⟨F, hn, hF⟩, hf⟩
  dsimp only
  go_wp2_with fail
  go_loopw [4, 7] (fun sv iv wr => ∃ (s i : Nat) (L : List Letter) (gs ds : Nat → Nat) (F' : Nat → Prop), sv = .int .i64 s ∧ iv = .int .i64 i ∧ i ≤ n ∧ i ≤ 150 ∧ Once L s gs ds i ∧
      NetAt wr p L F' ∧ Blk wr w1.heap.size 3 (rowOf gs) ∧ Blk wr (w1.heap.size + 1) 3 (rowOf ds) ∧ Fr nowhere w wr ∧ (∀ b, F' b → w.heap.size ≤ b ∧ b ≠ w1.heap.size ∧ b ≠ w1.heap.size + 1))
    (fun _ i _ => 150 - (intOf i).toNat)
  case atStart =>
    refine ⟨0, 0, [], fun _ => 0, fun _ => 0, F, rfl, rfl, Nat.zero_le _, by omega, Once.start, hn.next (by (repeat (first | exact Fr.refl _ _ | assumption | refine Fr.setCell ?_ (.inr (by simp)) _ | refine Fr.setCell ?_ (.inr (by simp; omega)) _ | refine Fr.alloc ?_ _ | refine Fr.drew ?_))), ?_, ?_, ?_, ?_⟩
    · exact (Blk.new w1 _ _).alloc _
    · exact Blk.newAt (by simp)
    · exact (hf.alloc _).alloc _
    · intro b hb; have := hF b hb; have := hn.lt b hb; omega
  case round =>
    have hz1 := hf.size
    clear hn hF hf
    obtain ⟨s, i, L, gs, ds, F', rfl, rfl, hi1, hi2, ho, hn, hB5, hB6, hfr, hF⟩ := hrel
    have HO := Lib.hid ho
    have HF := Lib.hid hF
    have hs := ho.sent
    have hLl := ho.len
    clear ho hF
    by_cases hlt : i < n ∧ i < 150
    · obtain ⟨hk2, hk3⟩ := hlt
      obtain ⟨⟨kd, xf, m, xb⟩, hx⟩ : ∃ x, l[i]? = some x := ⟨_, List.getElem?_eq_getElem (by have := Hn.out; omega)⟩
      obtain ⟨cc, ⟨hd, A3, c3, hcc, hb⟩, hget⟩ := Hr.out.get (k := 4) (fun y c hy => by obtain ⟨_, _, _, rfl, _⟩ := hy; rfl) hx
      subst hcc
      obtain ⟨g, o, hA, hgl, _, hcell⟩ := HA.out (by omega)
      subst hA
      have cell : ∀ j u, [Value.int .i64 kd, .int .i64 xf, .int .i64 m, .slice A3 xb.length c3][j]? = some u → wr.cell? ⟨g, o + (i * 4 + j), none⟩ = some u := fun j u hu =>
        (World.cell?_of_block (w := w) (hfr.block g hgl id)).trans (hcell _ _ (hget j u hu))
      have a0 : wr.cell? ⟨g, o + i * 4, none⟩ = some (.int .i64 kd) := cell 0 _ rfl
      have a1 : wr.cell? ⟨g, o + i * 4 + 1, none⟩ = some (.int .i64 xf) := by rw [Nat.add_assoc]; exact cell 1 _ rfl
      have a2 : wr.cell? ⟨g, o + i * 4 + 2, none⟩ = some (.int .i64 m) := by rw [Nat.add_assoc]; exact cell 2 _ rfl
      have a3 : wr.cell? ⟨g, o + i * 4 + 3, none⟩ = some (.slice A3 xb.length c3) := by rw [Nat.add_assoc]; exact cell 3 _ rfl
      generalize xb.length = xl at *
      have Hx := Lib.hid hx
      clear hget hcell cell hb hx hd
      have hd3 : decide (i < n) = true := by simp; omega
      have hi3 : (i : Int) < (n : Int) := by omega
      have hi4 : (i : Int) < 150 := by omega
      have hgr : g < wr.heap.size := by have := hfr.size; omega
      have hstay : ∀ W : World, Fr nowhere wr W → ∃ F2, NetAt W p L F2 ∧ Blk W w1.heap.size 3 (rowOf gs) ∧ Blk W (w1.heap.size + 1) 3 (rowOf ds) ∧ Fr nowhere w W ∧ (∀ b, F2 b → w.heap.size ≤ b ∧ b ≠ w1.heap.size ∧ b ≠ w1.heap.size + 1) :=
        fun W hW => ⟨F', hn.next hW, hB5.fr hW id, hB6.fr hW id, Fr.trans hfr hW (fun _ _ e => e), HF.out⟩
      have Hstay := Lib.hid hstay
      clear hstay
      have hkd : (kd = 0 ∨ kd = 1 ∨ kd = 2) ∨ kd = 3 ∨ kd = 4 ∨ kd = 5 ∨ (kd ≠ 0 ∧ kd ≠ 1 ∧ kd ≠ 2 ∧ kd ≠ 3 ∧ kd ≠ 4 ∧ kd ≠ 5) := by omega
      rcases hkd with hkd | rfl | rfl | rfl | ⟨q0, q1, q2, q3, q4, q5⟩
      · have hw0 : sendWhy L 0 1 [UInt8.ofNat s] = 0 := by
          have e1 : (!(someB 0 && someB 1)) = false := by decide
          simp only [sendWhy, e1, List.length_cons, List.length_nil]
          rw [if_neg (by simp), if_neg (by omega), if_neg (by omega)]
        have hb1 : bcell (UInt8.ofNat s) = .int .u8 (s : Int) := by
          simp only [bcell]
          congr 2
          simp
          omega
        have hbs : ∀ (W : World) (g : Nat), W.heap.size = g → Bs (W.alloc (.cells #[.int .u8 (s : Int)] 5)) (fun b => b = g) (.slice (some ⟨g, 0, none⟩) 1 1) [UInt8.ofNat s] := fun W g e => by
          subst e
          have := bs_new W [UInt8.ofNat s] 5 (0, 0) (by simp [maxLen])
          simp only [List.map_cons, List.map_nil, hb1] at this
          exact this
        have Hbs := Lib.hid hbs
        have Hw0 := Lib.hid hw0
        clear hbs hw0 hb1
        rcases hkd with rfl | rfl | rfl
        all_goals
          go_wp2_with fail
          refine (send_any p L F' _ 0 1 _ [UInt8.ofNat s] _ (hn.next (by (repeat (first | exact Fr.refl _ _ | assumption | refine Fr.setCell ?_ (.inr (by simp)) _ | refine Fr.setCell ?_ (.inr (by simp; omega)) _ | refine Fr.alloc ?_ _ | refine Fr.drew ?_)))) (Hbs.out _ _ (by simp)) (by simp)).mono ?_
          rintro e w3 ⟨rfl, F3, hn3, hf3, hF3⟩
          rw [Hw0.out, if_pos rfl] at hn3
          rw [Hw0.out]
          have hfr3 : Fr F' wr w3 := Fr.trans (by (repeat (first | exact Fr.refl _ _ | assumption | refine Fr.setCell ?_ (.inr (by simp)) _ | refine Fr.setCell ?_ (.inr (by simp; omega)) _ | refine Fr.alloc ?_ _ | refine Fr.drew ?_))) hf3 (fun _ _ e => e)
          have hF3' : ∀ b, F3 b → w.heap.size ≤ b ∧ b ≠ w1.heap.size ∧ b ≠ w1.heap.size + 1 := fun b hb => by
            rcases hF3 b hb with h | h
            · exact HF.out b h
            · have h5 := hB5.lt
              have h6 := hB6.lt
              simp at h
              omega
          have HF3 := Lib.hid hF3'
          clear hF3 hF3'
          dsimp only
          go_wp2_with fail
          go_roundw
          case rel =>
            exact ⟨s + 1, i + 1, _, gs, ds, F3, by go_num, by go_num, by omega, by omega, HO.out.send 0 1 (by omega), hn3, hB5.fr hfr3 (fun h => (HF.out _ h).2.1 rfl), hB6.fr hfr3 (fun h => (HF.out _ h).2.2 rfl),
              Fr.trans hfr hfr3 (fun b hb h => by have := (HF.out b h).1; omega), HF3.out⟩
          case measure => simp [intOf]; omega
      · by_cases hm : 0 ≤ m ∧ m < L.length
        · obtain ⟨j, rfl⟩ : ∃ j : Nat, m = j := ⟨m.toNat, by omega⟩
          obtain ⟨y, hy⟩ : ∃ y, L[j]? = some y := ⟨_, List.getElem?_eq_getElem (by omega)⟩
          obtain ⟨b, hbs, hyd⟩ := HO.out.body y (List.mem_of_getElem? hy)
          have Hyd := Lib.hid hyd
          have Hy := Lib.hid hy
          have hdl : y.d.length = 1 := by rw [hyd]; rfl
          have hdc : y.d.map bcell = [.int .u8 (b : Int)] := by
            rw [hyd]
            simp [bcell]
            omega
          have Hdl := Lib.hid hdl
          have Hdc := Lib.hid hdc
          clear hy hyd hdl hdc
          go_wp2_with fail
          refine (take_some p L F' j y _ (hn.next (by (repeat (first | exact Fr.refl _ _ | assumption | refine Fr.setCell ?_ (.inr (by simp)) _ | refine Fr.setCell ?_ (.inr (by simp; omega)) _ | refine Fr.alloc ?_ _ | refine Fr.drew ?_)))) Hy.out).mono ?_
          rintro e w3 ⟨A5, c5, rfl, ho5, hn3, hf3⟩
          rw [Hdl.out, Hdc.out] at ho5
          rw [Hdl.out]
          obtain ⟨ga, _, hA5, _, _⟩ := ho5.form (by omega)
          injection hA5 with hA5
          subst hA5
          have ha0 : w3.cell? ⟨ga, 0, none⟩ = some (.int .u8 (b : Int)) := (ho5.cellAt 0 (by simp)).trans rfl
          have hga : ga < w3.heap.size := (ho5.lt ga rfl).2
          have hfr3 : Fr F' wr w3 := Fr.trans (by (repeat (first | exact Fr.refl _ _ | assumption | refine Fr.setCell ?_ (.inr (by simp)) _ | refine Fr.setCell ?_ (.inr (by simp; omega)) _ | refine Fr.alloc ?_ _ | refine Fr.drew ?_))) hf3 (fun _ _ e => e)
          have hB5' := hB5.fr hfr3 (fun h => (HF.out _ h).2.1 rfl)
          have hB6' := hB6.fr hfr3 (fun h => (HF.out _ h).2.2 rfl)
          have hg5 := hB5'.lt
          have r5 : w3.cell? ⟨w1.heap.size, b, none⟩ = some (.int .i64 (gs b : Int)) := (hB5'.cell b).trans (rowOf_get gs (by omega))
          have rf5 := hB5'.frozen b
          have hgb : gs b ≤ i := HO.out.got b
          have hb1 : (b : Int) < 200 := by omega
          have hb2 : decide (b < 200) = true := by simp; omega
          have hb3 : (b : Int) < (s : Int) := by omega
          have Ho5 := Lib.hid ho5
          clear ho5
          dsimp only
          go_wp2_with fail
          go_roundw
          case rel =>
            have hset : Fr (fun b' => b' = w1.heap.size) w3 (w3.setCell ⟨w1.heap.size, b, none⟩ (.int .i64 ((gs b : Int) + 1))) := Fr.setCell (F := fun b' => b' = w1.heap.size) (Fr.refl _ _) (.inl rfl) _
            have h5 := hB5'.set_ b (.int .i64 ((gs b : Int) + 1))
            rw [rowOf_set gs (by omega)] at h5
            exact ⟨s, i + 1, _, _, ds, F', rfl, by go_num, by omega, by omega, HO.out.take Hy.out Hyd.out hbs (by omega), hn3.fr (hset.alloc _) (fun b hb e => (HF.out b hb).2.1 e), h5.alloc _, hB6'.fr (hset.alloc _) (by omega),
              Fr.trans (Fr.trans hfr hfr3 (fun b hb h => by have := (HF.out b h).1; omega)) (hset.alloc _) (fun b hb h => by omega), HF.out⟩
          case measure => simp [intOf]; omega
        · have hmn : m < 0 ∨ (L.length : Int) ≤ m := by omega
          have H := Lib.hid (fun (W : World) (hW : NetAt W p L F') => take_none p L F' m W hW hmn)
          unfold noLetter at H
          clear hm hmn
          go_wp2_with fail
          refine (H.out _ (hn.next (by (repeat (first | exact Fr.refl _ _ | assumption | refine Fr.setCell ?_ (.inr (by simp)) _ | refine Fr.setCell ?_ (.inr (by simp; omega)) _ | refine Fr.alloc ?_ _ | refine Fr.drew ?_))))).mono ?_
          rintro e w3 ⟨rfl, hf3⟩
          have hfr3 : Fr nowhere wr w3 := Fr.trans (by (repeat (first | exact Fr.refl _ _ | assumption | refine Fr.setCell ?_ (.inr (by simp)) _ | refine Fr.setCell ?_ (.inr (by simp; omega)) _ | refine Fr.alloc ?_ _ | refine Fr.drew ?_))) hf3 (fun _ _ e => e)
          dsimp only
          go_wp2_with fail
          go_roundw
          case rel =>
            obtain ⟨F2, t1, t2, t3, t4, t5⟩ := Hstay.out _ (hfr3.alloc _)
            exact ⟨s, i + 1, L, gs, ds, F2, rfl, by go_num, by omega, by omega, HO.out.stay, t1, t2, t3, t4, t5⟩
          case measure => simp [intOf]; omega
      · go_wp2_with fail
        refine (drop_any p L F' m _ (hn.next (by (repeat (first | exact Fr.refl _ _ | assumption | refine Fr.setCell ?_ (.inr (by simp)) _ | refine Fr.setCell ?_ (.inr (by simp; omega)) _ | refine Fr.alloc ?_ _ | refine Fr.drew ?_))))).mono ?_
        rintro e w3 ⟨rfl, hn3, hf3⟩
        have hfr3 : Fr F' wr w3 := Fr.trans (by (repeat (first | exact Fr.refl _ _ | assumption | refine Fr.setCell ?_ (.inr (by simp)) _ | refine Fr.setCell ?_ (.inr (by simp; omega)) _ | refine Fr.alloc ?_ _ | refine Fr.drew ?_))) hf3 (fun _ _ e => e)
        have ho3 : Once (if 0 ≤ m ∧ m < L.length then L.eraseIdx m.toNat else L) s gs ds (i + 1) := by
          split
          · exact HO.out.drop _
          · exact HO.out.stay
        generalize (if 0 ≤ m ∧ m < L.length then L.eraseIdx m.toNat else L) = L3 at *
        have Ho3 := Lib.hid ho3
        clear ho3
        dsimp only
        go_wp2_with fail
        go_roundw
        case rel =>
          exact ⟨s, i + 1, L3, gs, ds, F', rfl, by go_num, by omega, by omega, Ho3.out, hn3, hB5.fr hfr3 (fun h => (HF.out _ h).2.1 rfl), hB6.fr hfr3 (fun h => (HF.out _ h).2.2 rfl),
            Fr.trans hfr hfr3 (fun b hb h => by have := (HF.out b h).1; omega), HF.out⟩
        case measure => simp [intOf]; omega
      · have hdl0 : ∀ x ∈ L, x.d.length ≤ 140737488351232 := fun x hx => by
          obtain ⟨b, _, e⟩ := HO.out.body x hx
          rw [e]; simp
        have Hdl0 := Lib.hid hdl0
        clear hdl0
        by_cases hm : 0 ≤ m ∧ m < L.length
        · obtain ⟨j, rfl⟩ : ∃ j : Nat, m = j := ⟨m.toNat, by omega⟩
          obtain ⟨y, hy⟩ : ∃ y, L[j]? = some y := ⟨_, List.getElem?_eq_getElem (by omega)⟩
          obtain ⟨b, hbs, hyd⟩ := HO.out.body y (List.mem_of_getElem? hy)
          have hw0 : doubleWhy L j = 0 := by unfold doubleWhy; rw [if_pos hm, if_neg (by omega)]
          have hgd : L.getD j ⟨0, 0, []⟩ = y := by rw [List.getD_eq_getElem?_getD, hy]; rfl
          have hl0 : doubleL L j = L ++ [y] := by unfold doubleL; rw [hw0, if_pos rfl, Int.toNat_natCast, hgd]
          have Hyd := Lib.hid hyd
          have Hy := Lib.hid hy
          have hdl : y.d.length = 1 := by rw [hyd]; rfl
          have hdc : y.d.map bcell = [.int .u8 (b : Int)] := by
            rw [hyd]
            simp [bcell]
            omega
          have Hdl := Lib.hid hdl
          have Hdc := Lib.hid hdc
          have Hw0 := Lib.hid hw0
          have Hl0 := Lib.hid hl0
          clear hy hyd hdl hdc hw0 hgd hl0
          go_wp2_with fail
          refine (look_some p L F' j y _ (hn.next (by (repeat (first | exact Fr.refl _ _ | assumption | refine Fr.setCell ?_ (.inr (by simp)) _ | refine Fr.setCell ?_ (.inr (by simp; omega)) _ | refine Fr.alloc ?_ _ | refine Fr.drew ?_)))) Hy.out).mono ?_
          rintro e w2 ⟨A5, c5, rfl, ho5, hf2⟩
          rw [Hdl.out, Hdc.out] at ho5
          rw [Hdl.out]
          have hfr2 : Fr nowhere wr w2 := Fr.trans (by (repeat (first | exact Fr.refl _ _ | assumption | refine Fr.setCell ?_ (.inr (by simp)) _ | refine Fr.setCell ?_ (.inr (by simp; omega)) _ | refine Fr.alloc ?_ _ | refine Fr.drew ?_))) hf2 (fun _ _ e => e)
          obtain ⟨ga, _, hA5, _, _⟩ := ho5.form (by omega)
          injection hA5 with hA5
          subst hA5
          have ha0 : w2.cell? ⟨ga, 0, none⟩ = some (.int .u8 (b : Int)) := (ho5.cellAt 0 (by simp)).trans rfl
          have hga : ga < w2.heap.size ∧ wr.heap.size < ga := ⟨(ho5.lt ga rfl).2, by have := (ho5.lt ga rfl).1; simp at this; omega⟩
          have Ho5 := Lib.hid ho5
          have b1 : Blk w2 wr.heap.size _ _ := (Blk.new wr _ _).same (hf2.block _ (by simp) id)
          obtain ⟨y0, y1, y2, y3, yf0, yf1, yf2, yf3⟩ := b1.facts4
          have hzb := b1.lt
          clear ho5
          dsimp only
          go_wp2_with fail
          refine (double_any p L F' j (w2.alloc _) ((hn.next hfr2).next ((Fr.refl _ _).alloc _)) Hdl0.out).mono ?_
          rintro e w3 ⟨rfl, F3, hn3, hf3, hF3⟩
          rw [Hl0.out] at hn3
          rw [Hw0.out]
          have hfr23 : Fr F' w2 w3 := Fr.trans (by (repeat (first | exact Fr.refl _ _ | assumption | refine Fr.setCell ?_ (.inr (by simp)) _ | refine Fr.setCell ?_ (.inr (by simp; omega)) _ | refine Fr.alloc ?_ _ | refine Fr.drew ?_))) hf3 (fun _ _ e => e)
          have hfr3 : Fr F' wr w3 := Fr.trans hfr2.any hfr23 (fun _ _ e => e)
          have hB5' := hB5.fr hfr3 (fun h => (HF.out _ h).2.1 rfl)
          have hB6' := hB6.fr hfr3 (fun h => (HF.out _ h).2.2 rfl)
          have hg6 := hB6'.lt
          have hgF : ¬ F' ga := fun h => by have := hn.lt ga h; omega
          have hga3 : ga < w3.heap.size := by have := hfr23.size; omega
          have ha3 : w3.cell? ⟨ga, 0, none⟩ = some (.int .u8 (b : Int)) := (World.cell?_of_block (hfr23.block ga hga.1 hgF)).trans ha0
          have b2 : Blk w3 w2.heap.size _ _ := (Blk.new w2 _ _).same (hf3.block _ (by simp) (fun h => by have := hn.lt _ h; have := hfr2.size; omega))
          obtain ⟨z0, z1, z2, zf0, zf1, zf2⟩ := b2.facts3
          have hzb2 := b2.lt
          have r6 : w3.cell? ⟨w1.heap.size + 1, b, none⟩ = some (.int .i64 (ds b : Int)) := (hB6'.cell b).trans (rowOf_get ds (by omega))
          have rf6 := hB6'.frozen b
          have hdb : ds b ≤ i := HO.out.dup b
          have hb1 : (b : Int) < 200 := by omega
          have hb2 : decide (b < 200) = true := by simp; omega
          have hb3 : (b : Int) < (s : Int) := by omega
          have hF3' : ∀ b, F3 b → w.heap.size ≤ b ∧ b ≠ w1.heap.size ∧ b ≠ w1.heap.size + 1 := fun b hb => by
            rcases hF3 b hb with h | h
            · exact HF.out b h
            · have h5 := hB5.lt
              have h6 := hB6.lt
              have h7 := hfr2.size
              simp at h
              omega
          have HF3 := Lib.hid hF3'
          clear hF3 hF3'
          dsimp only
          go_wp2_with fail
          go_roundw
          case rel =>
            have hset : Fr (fun b' => b' = w1.heap.size + 1) w3 (w3.setCell ⟨w1.heap.size + 1, b, none⟩ (.int .i64 ((ds b : Int) + 1))) := Fr.setCell (F := fun b' => b' = w1.heap.size + 1) (Fr.refl _ _) (.inl rfl) _
            have h6 := hB6'.set_ b (.int .i64 ((ds b : Int) + 1))
            rw [rowOf_set ds (by omega)] at h6
            exact ⟨s, i + 1, _, gs, _, F3, rfl, by go_num, by omega, by omega, HO.out.double (List.mem_of_getElem? Hy.out) Hyd.out hbs (by omega), hn3.fr hset (fun b hb e => (HF3.out b hb).2.2 e), hB5'.fr hset (by omega), h6,
              Fr.trans (Fr.trans hfr hfr3 (fun b hb h => by have := (HF.out b h).1; omega)) hset (fun b hb h => by omega), HF3.out⟩
          case measure => simp [intOf]; omega
        · have hmn : m < 0 ∨ (L.length : Int) ≤ m := by omega
          have hw1 : doubleWhy L m = 1 := by unfold doubleWhy; rw [if_neg hm]
          have hl1 : doubleL L m = L := by unfold doubleL; rw [hw1]; rfl
          have H := Lib.hid (fun (W : World) (hW : NetAt W p L F') => look_none p L F' m W hW hmn)
          unfold noLetter at H
          have Hw1 := Lib.hid hw1
          have Hl1 := Lib.hid hl1
          clear hm hmn hw1 hl1
          go_wp2_with fail
          refine (H.out _ (hn.next (by (repeat (first | exact Fr.refl _ _ | assumption | refine Fr.setCell ?_ (.inr (by simp)) _ | refine Fr.setCell ?_ (.inr (by simp; omega)) _ | refine Fr.alloc ?_ _ | refine Fr.drew ?_))))).mono ?_
          rintro e w2 ⟨rfl, hf2⟩
          have hfr2 : Fr nowhere wr w2 := Fr.trans (by (repeat (first | exact Fr.refl _ _ | assumption | refine Fr.setCell ?_ (.inr (by simp)) _ | refine Fr.setCell ?_ (.inr (by simp; omega)) _ | refine Fr.alloc ?_ _ | refine Fr.drew ?_))) hf2 (fun _ _ e => e)
          have b1 : Blk w2 wr.heap.size _ _ := (Blk.new wr _ _).same (hf2.block _ (by simp) id)
          obtain ⟨y0, y1, y2, y3, yf0, yf1, yf2, yf3⟩ := b1.facts4
          have hzb := b1.lt
          dsimp only
          go_wp2_with fail
          refine (double_any p L F' m (w2.alloc _) ((hn.next hfr2).next ((Fr.refl _ _).alloc _)) Hdl0.out).mono ?_
          rintro e w3 ⟨rfl, F3, hn3, hf3, hF3⟩
          rw [Hl1.out] at hn3
          rw [Hw1.out]
          have hfr3 : Fr F' wr w3 := Fr.trans (Fr.trans hfr2.any ((Fr.refl _ _).alloc _) (fun _ _ e => e)) hf3 (fun _ _ e => e)
          have hF3' : ∀ b, F3 b → w.heap.size ≤ b ∧ b ≠ w1.heap.size ∧ b ≠ w1.heap.size + 1 := fun b hb => by
            rcases hF3 b hb with h | h
            · exact HF.out b h
            · have h5 := hB5.lt
              have h6 := hB6.lt
              have h7 := hfr2.size
              simp at h
              omega
          have HF3 := Lib.hid hF3'
          clear hF3 hF3'
          dsimp only
          go_wp2_with fail
          go_roundw
          case rel =>
            exact ⟨s, i + 1, L, gs, ds, F3, rfl, by go_num, by omega, by omega, HO.out.stay, hn3, hB5.fr hfr3 (fun h => (HF.out _ h).2.1 rfl), hB6.fr hfr3 (fun h => (HF.out _ h).2.2 rfl),
              Fr.trans hfr hfr3 (fun b hb h => by have := (HF.out b h).1; omega), HF3.out⟩
          case measure => simp [intOf]; omega
      · have e0 : (kd == 0) = false := by simpa using q0
        have e1 : (kd == 1) = false := by simpa using q1
        have e2 : (kd == 2) = false := by simpa using q2
        have e3 : (kd == 3) = false := by simpa using q3
        have e4 : (kd == 4) = false := by simpa using q4
        have e5 : (kd == 5) = false := by simpa using q5
        clear q0 q1 q2 q3 q4 q5
        go_wp2_with fail
        go_roundw
        case rel =>
          obtain ⟨F2, t1, t2, t3, t4, t5⟩ := Hstay.out _ ((Fr.refl _ wr).alloc _)
          exact ⟨s, i + 1, L, gs, ds, F2, rfl, by go_num, by omega, by omega, HO.out.stay, t1, t2, t3, t4, t5⟩
        case measure => simp [intOf]; omega
    · have hor : (n : Int) ≤ (i : Int) ∨ (i : Int) < (n : Int) ∧ (150 : Int) ≤ (i : Int) := by omega
      clear hlt HA Hyl Hr Hn
      rcases hor with hd1 | ⟨hd1, hd2⟩
      all_goals
        go_wp2_with fail
        go_loopw [13] (fun kv wq => ∃ k : Nat, kv = .int .i64 k ∧ k ≤ s ∧ Fr nowhere wr wq) (fun kv _ => s - (intOf kv).toNat)
        case atStart => exact ⟨0, rfl, Nat.zero_le _, Fr.refl _ _⟩
        case round =>
          rename World => wq
          obtain ⟨k, rfl, hk, hfq⟩ := hrel
          by_cases hks : k < s
          · have hB5q := hB5.fr hfq id
            have hB6q := hB6.fr hfq id
            have r5 : wq.cell? ⟨w1.heap.size, k, none⟩ = some (.int .i64 (gs k : Int)) := (hB5q.cell k).trans (rowOf_get gs (by omega))
            have r6 : wq.cell? ⟨w1.heap.size + 1, k, none⟩ = some (.int .i64 (ds k : Int)) := (hB6q.cell k).trans (rowOf_get ds (by omega))
            have hg5 := hB5q.lt
            have hg6 := hB6q.lt
            have hk1 : (k : Int) < (s : Int) := by omega
            have hk2 : (k : Int) < 200 := by omega
            have hk3 : decide (k < 200) = true := by simp; omega
            have hgk := HO.out.got k
            have hdk := HO.out.dup k
            have hle : (gs k : Int) ≤ 1 + (ds k : Int) := by have := HO.out.count k hks; omega
            go_wp2_with fail
            refine wp_region_plan [.take 0, .take 1, .take 2, .take 3, .take 4, .take 5, .take 6, .take 7, .take 8, .take 9] [[2, 3, 9], [2, 3, 9], [3, 9], [9], [6, 7, 8, 9], [6, 7, 8, 9], [7, 8, 9], [8, 9], [9], []] (by kernel_rfl) (by kernel_rfl) (by decide) (by kernel_rfl) (fun _ _ _ _ _ h => h) ?_
            simp only [planWp, Array.getD_eq_getD_getElem?, List.getElem?_toArray, List.getElem?_cons_succ, List.getElem?_cons_zero, Option.getD_some]
            repeat (first | ((with_reducible refine And.intro ?_ ?_); first | exact trivial | rfl) | go_step)
            go_roundw
            case rel => exact ⟨k + 1, by go_num, by omega, hfq.drew⟩
            case measure => simp [intOf]; omega
          · have hks2 : (s : Int) ≤ (k : Int) := by omega
            go_wp2_with fail
            refine (known_any _).mono ?_
            rintro e w6 ⟨rfl, hf6⟩
            dsimp only
            go_wp2_with fail
            go_ret
            exact ⟨rfl, Fr.trans (Fr.trans hfr hfq (fun _ _ e => e)) hf6 (fun _ _ e => e)⟩
end Go.Proofs.Ytnfmmfodnhmfaaa
