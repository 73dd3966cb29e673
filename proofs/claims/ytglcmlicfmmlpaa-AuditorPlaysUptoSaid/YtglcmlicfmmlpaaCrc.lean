/- A helper of the laws that fills memory for good (spoil) and the helpers next to it: what they compute. -/
import Derived.Test.YtglcmlicfmmlpaaPlan
namespace Go.Proofs.Ytglcmlicfmmlpaa
open Go.RowKit Go.Maps

theorem info_u8 : (Try.prog.info? 5).map (fun i => (i.zero, i.size, i.bytes)) = some (some (.int .u8 0), 1, 1) := by kernel_rfl

/-- Bytes that were lent: behind them, in spare room, stands a mark. -/
def LentAt (w : World) (v : Value) (bs : List UInt8) (g : Nat) : Prop :=
  ∃ cap, v = .slice (some ⟨g, 0, none⟩) bs.length cap ∧ w.ownsRow 0 5 1 (.slice (some ⟨g, 0, none⟩) (bs.length + 1) cap) (bs.length + 1) (bs.map bcell ++ [.int .u8 167])

theorem LentAt.same {w w' : World} {v : Value} {bs : List UInt8} {g : Nat} (h : LentAt w v bs g) (hb : w'.heap[g]? = w.heap[g]?) : LentAt w' v bs g := by
  obtain ⟨cap, rfl, ho⟩ := h
  exact ⟨cap, rfl, own_same ho fun g' hg _ _ => by simp [Value.ownBlock] at hg; subst hg; exact hb⟩
theorem LentAt.lt {w : World} {v : Value} {bs : List UInt8} {g : Nat} (h : LentAt w v bs g) : g < w.heap.size := by
  obtain ⟨cap, rfl, ho⟩ := h
  exact (ho.lt g rfl).2

theorem own_take {w : World} {base : Nat} {e : TypeId} {size n k cap : Nat} {A : Option Addr} {xs : List Value} (h : w.ownsRow base e size (.slice A n cap) n xs) (hk : k ≤ n) (hA : A ≠ none) :
    w.ownsRow base e size (.slice A k cap) k (xs.take (k * size)) := by
  rcases h.2 with ⟨h1, _⟩ | ⟨g, cap', cur, h1, hb, hg, hn, hc, hs, ht⟩
  · injection h1 with h1; exact absurd h1 hA
  · injection h1 with h1 h2 h3
    subst h1 h3
    refine ⟨?_, .inr ⟨g, cap, cur, rfl, hb, hg, by omega, hc, hs, ?_⟩⟩
    · rw [List.length_take, h.1, Nat.min_eq_left (Nat.mul_le_mul_right _ hk)]
    · rw [← ht, List.take_take, Nat.min_eq_left (Nat.mul_le_mul_right _ hk)]

theorem LentAt.own {w : World} {v : Value} {bs : List UInt8} {g : Nat} (h : LentAt w v bs g) : ∃ cap, v = .slice (some ⟨g, 0, none⟩) bs.length cap ∧ w.ownsRow 0 5 1 (.slice (some ⟨g, 0, none⟩) bs.length cap) bs.length (bs.map bcell) := by
  obtain ⟨cap, rfl, ho⟩ := h
  refine ⟨cap, rfl, ?_⟩
  have := own_take ho (k := bs.length) (by omega) (by simp)
  rwa [Nat.mul_one, List.take_left' (by simp)] at this
theorem LentAt.bs {w : World} {v : Value} {bs : List UInt8} {g : Nat} (h : LentAt w v bs g) : Bs w (fun b => b = g) v bs := by
  obtain ⟨cap, rfl, ho⟩ := h.own
  exact Sl.of_own ho (fun g' hg => by simp [Value.ownBlock] at hg; exact hg.symm)

set_option maxHeartbeats 400000 in
theorem lent_any (G : Nat → Prop) (v : Value) (bs : List UInt8) (w : World) (h : Bs w G v bs) (hb : bs.length ≤ 140737488351232) :
    Calls Try.prog 42 #[v] w fun e w' => ∃ v' g, e = .returned v' ∧ LentAt w' v' bs g ∧ w.heap.size ≤ g ∧ Fr nowhere w w' := by
  have h0 := h
  obtain ⟨A, c, rfl, hc, hm, hl, hA⟩ := h0
  obtain ⟨i0, hi, hz0, hz1, hz2⟩ := info_parts info_u8
  have hm' : (bs.length : Int) + 1 ≤ 9223372036854775807 := by omega
  clear hA hl
  go_enter Try.func42, Try.ntmps42
  repeat (first | ((with_reducible refine And.intro ?_ ?_); first | exact trivial | rfl) | ((fail_if_success at_builtin); go_step))
  refine wpList_append_sl _ rfl (.tmp 4) (.tmp 5) _ rfl w.heap.size 5 i0 _ 1 1 Try.underlying26 hi hz0 hz1 hz2 rfl (by omega) (.slice none 0 0) 0 [] rfl (World.ownsRow_nil _ _ _ _) G (.slice A bs.length c) bs.length (bs.map bcell) rfl h (bcells_one bs) (by simp only [maxLen]; omega) (by omega) (Nat.le_refl _) ?_
  intro v1 w1 hown1 hg1 hat1 hnl1
  simp only [Nat.zero_add, List.nil_append] at hown1
  obtain ⟨A1, c1, rfl, _⟩ := ownsRow_slice hown1
  clear hnl1
  have hf1 : Fr nowhere w w1 := (Fr.refl _ _).grown hg1 (fun g e => by simp [Value.ownBlock] at e)
  have hsl : Sl (w1.alloc (.cells #[.int .u8 167] 5)) (fun _ => True) 1 (.slice (some ⟨w1.heap.size, 0, none⟩) 1 1) 1 [.int .u8 167] :=
    ⟨_, 1, rfl, by omega, by simp [maxLen], by simp, fun _ => ⟨_, 0, rfl, by simp, trivial, fun j u hu => by rw [← addr_add]; exact World.news_of_block (heap_alloc_new w1 _) j u hu⟩⟩
  have hz1' := hf1.size
  repeat (first | ((with_reducible refine And.intro ?_ ?_); first | exact trivial | rfl) | ((fail_if_success at_builtin); go_step))
  refine wpList_append_sl _ rfl (.tmp 7) (.tmp 8) _ rfl w.heap.size 5 i0 _ 1 1 Try.underlying26 hi hz0 hz1 hz2 rfl (by omega) (.slice A1 bs.length c1) bs.length (bs.map bcell) rfl (hown1.alloc _) _ _ 1 [.int .u8 167] rfl hsl (by intro u hu; simp at hu; subst hu; rfl) (by simp only [maxLen]; omega) (by omega) (by simp; omega) ?_
  intro v2 w2 hown2 hg2 hat2 hnl2
  have hf2 : Fr nowhere w w2 := (hf1.alloc _).grown hg2 (fun g e => .inr (own_blk hown1 e).choose_spec.2)
  rcases hown2.2 with ⟨rfl, h0⟩ | ⟨g2, cap2, cur, rfl, hb2, hgg2, hnc, hcm, _, _⟩
  · omega
  have hcap : ((bs.length : Int)) ≤ (cap2 : Int) := by omega
  have hcap2 : (cap2 == 0) = false := by simp; omega
  have Hown2 := Lib.hid hown2
  clear hown1 hown2 hnl2 hsl hgg2 hat1 hat2
  repeat (first | ((with_reducible refine And.intro ?_ ?_); first | exact trivial | rfl) | go_step)
  go_ret
  refine ⟨_, g2, rfl, ⟨cap2, rfl, own_base Hown2.out (fun _ _ _ => Nat.zero_le _)⟩, hb2, hf2⟩

set_option maxHeartbeats 400000 in
theorem kept_any (G : Nat → Prop) (v u : Value) (bs : List UInt8) (g : Nat) (w : World) (h : LentAt w v bs g) (hu : Bs w G u bs) (hb : bs.length ≤ 140737488351232) :
    Calls Try.prog 49 #[v, u] w fun e w' => e = .returned (.bool true) ∧ w = w' := by
  have h1 := run_convert_bs (P := Try.prog) h.bs 26 9 5 Try.underlying26 Try.underlying5 Try.underlying9
  have h2 := run_convert_bs (P := Try.prog) hu 26 9 5 Try.underlying26 Try.underlying5 Try.underlying9
  obtain ⟨A, c, rfl, hc, hm, hl, hA⟩ := hu
  obtain ⟨cap, rfl, ho⟩ := h
  have hcell := ho.cellAt bs.length (by omega)
  rw [List.getElem?_append_right (by simp)] at hcell
  simp only [List.length_map, Nat.sub_self, List.getElem?_cons_zero] at hcell
  have hcap : bs.length + 1 ≤ cap ∧ cap ≤ maxLen := by
    rcases ho.2 with ⟨h, _⟩ | ⟨_, _, _, h, _, _, h3, h4, _⟩
    · cases h
    · injection h with _ _ h; subst h; exact ⟨h3, h4⟩
  have hi1 : (bs.length : Int) + 1 ≤ (cap : Int) := by omega
  have hi2 : (bs.length : Int) + 1 ≤ 9223372036854775807 := by omega
  have hcap0 : (cap == 0) = false := by simp; omega
  clear hA hl ho
  generalize hn : bs.length = n at *
  have Hn := Lib.hid hn
  clear hn
  go_enter Try.func49, Try.ntmps49
  go_wp2
  go_ret
  exact ⟨rfl, rfl⟩

theorem emod_of_tmod (n k : Int) (hk : 0 < k) : n % k = if n.tmod k < 0 then n.tmod k + k else n.tmod k := by
  have h1 := Int.tmod_eq_emod (a := n) (b := k)
  have h2 := Int.emod_nonneg n (by omega : k ≠ 0)
  have h3 := Int.emod_lt_of_pos n hk
  split at h1
  · rw [if_neg (by omega)]; omega
  · rename_i hn
    have h4 : n % k ≠ 0 := fun e => hn (.inr (Int.dvd_of_emod_eq_zero e))
    have h5 : (k.natAbs : Int) = k := by omega
    rw [h5] at h1
    rw [if_pos (by omega)]; omega

set_option maxHeartbeats 400000 in
theorem count_any (n k : Int) (w : World) (hk : 0 < k) (hk' : k ≤ 4611686018427387904) : Calls Try.prog 23 #[.int .i64 n, .int .i64 k] w fun e w' => e = .returned (.int .i64 (n % k)) ∧ w = w' := by
  have h1 : n.tmod k < k := Int.tmod_lt_of_pos n hk
  have h2 : -k < n.tmod k := Int.lt_tmod_of_pos n hk
  have hk0 : (k == 0) = false := by simp; omega
  rw [emod_of_tmod n k hk]
  by_cases h : n.tmod k < 0
  · rw [if_pos h]
    have hd : decide (n.tmod k < 0) = true := by simpa using h
    go_enter Try.func23, Try.ntmps23
    go_wp2
    go_ret
    exact ⟨rfl, rfl⟩
  · rw [if_neg h]
    have hd : decide (n.tmod k < 0) = false := by simpa using h
    go_enter Try.func23, Try.ntmps23
    go_wp2
    go_ret
    exact ⟨rfl, rfl⟩

/-- Spoil writes over its bytes, and behind them: only that row, and what is new, has turned. -/
theorem spoil_any (A : Option Addr) (n cap : Nat) (xs : List Value) (w : World) (h : w.ownsRow 0 5 1 (.slice A n cap) n xs) (hn : n ≤ 140737488351232) :
    Calls Try.prog 29 #[.slice A n cap] w fun e w' => e = .returned (.tuple #[]) ∧ Fr (fun b => A.map (·.block) = some b) w w' := by
  obtain ⟨i0, hi, hz0, hz1, hz2⟩ := info_parts info_u8
  have hxl := h.1
  go_enter Try.func29, Try.ntmps29
  go_wp2_with fail
  go_loopw [2, 9, 10, 11, 3, 4, 5, 6, 7, 8] (fun i _ _ _ _ _ _ _ _ _ wr => ∃ (k : Nat) (ys : List Value), i = .int .i64 k ∧ k ≤ n ∧ wr.ownsRow 0 5 1 (.slice A n cap) n ys ∧ Fr (fun b => A.map (·.block) = some b) w wr) (fun i _ _ _ _ _ _ _ _ _ wr => n - (intOf i).toNat)
  case atStart => exact ⟨0, xs, rfl, Nat.zero_le _, h, Fr.refl _ _⟩
  case round =>
    obtain ⟨k, ys, rfl, hk, hown, hf⟩ := hrel
    by_cases hlt : k < n
    · obtain ⟨g, cap', hA, _, _⟩ := hown.form (by omega)
      have hA : A = some ⟨g, 0, none⟩ := by injection hA
      subst hA
      have hyl := hown.1
      obtain ⟨u0, hkc⟩ : ∃ u, wr.cell? ⟨g, k, none⟩ = some u := ⟨_, (hown.cellAt k (by omega)).trans (List.getElem?_eq_getElem (by omega))⟩
      have hkf := hown.frozenAt k
      have hgl := (hown.lt g rfl).2
      have Hown := Lib.hid hown
      have h0k : (0 : Int) ≤ (k : Int) := by omega
      have hk1 : (k : Int) < (n : Int) := by omega
      have Hyl := Lib.hid hyl
      have Hxl := Lib.hid hxl
      clear hown hyl hxl h
      go_wp2
      go_roundw
      case rel =>
        refine ⟨k + 1, _, by go_num, by omega, (Hown.out.stored k (.int .u8 90)).1, ?_⟩
        exact hf.setCell (p := ⟨g, k, none⟩) (.inl rfl) _
      case measure => simp [intOf]; omega
    · have hkn : k = n := by omega
      subst hkn
      clear hlt
      have hkd : decide ((k : Int) < (k : Int)) = false := by simp
      have hsl : Sl (wr.alloc (.cells #[.int .u8 91] 5)) (fun _ => True) 1 (.slice (some ⟨wr.heap.size, 0, none⟩) 1 1) 1 [.int .u8 91] :=
        ⟨_, 1, rfl, by omega, by simp [maxLen], by simp, fun _ => ⟨_, 0, rfl, by simp, trivial, fun j u hu => by rw [← addr_add]; exact World.news_of_block (heap_alloc_new wr _) j u hu⟩⟩
      have hz := hf.size
      have hyl := hown.1
      have Hyl := Lib.hid hyl
      have Hxl := Lib.hid hxl
      clear h hxl hyl
      repeat (first | ((with_reducible refine And.intro ?_ ?_); first | exact trivial | rfl) | ((fail_if_success at_builtin); go_step))
      refine wpList_append_sl _ rfl (.tmp 12) (.tmp 13) _ rfl 0 5 i0 _ 1 1 Try.underlying26 hi hz0 hz1 hz2 rfl (by omega) (.slice A k cap) k ys rfl (hown.alloc _) _ _ 1 [.int .u8 91] rfl hsl (by intro u hu; simp at hu; subst hu; rfl) (by simp only [maxLen]; omega) (by omega) (by omega) ?_
      intro v2 w2 hown2 hg2 hat2 hnl2
      have hf2 : Fr (fun b => A.map (·.block) = some b) w w2 := (hf.alloc _).grown hg2 (fun g e => .inl (by rw [ownBlock_slice] at e; exact e))
      obtain ⟨g2, cap2, hv2, _, hlt2⟩ := hown2.form (by omega)
      subst hv2
      obtain ⟨u0, hkc⟩ : ∃ u, w2.cell? ⟨g2, k, none⟩ = some u := ⟨_, (hown2.cellAt k (by omega)).trans (List.getElem?_eq_getElem (by simp [Hyl.out]))⟩
      have hkf := hown2.frozenAt k
      have hk1 : (0 : Int) ≤ (k : Int) := by omega
      have hk2 : (k : Int) < (k : Int) + 1 := by omega
      have hk3 : (k : Int) + 1 ≤ 9223372036854775807 := by omega
      have Hat := Lib.hid hat2
      clear hown2 hown hnl2 hsl hat2
      repeat (first | ((with_reducible refine And.intro ?_ ?_); first | exact trivial | rfl) | go_step)
      go_end0
      have hfin : (some g2 = A.map (·.block)) ∨ w.heap.size ≤ g2 := by
        rcases Hat.out with e | e
        · left; rw [ownBlock_slice, ownBlock_slice] at e; exact e
        · right; simp [Value.ownBlock] at e; omega
      refine ⟨rfl, hf2.setCell (p := ⟨g2, k, none⟩) (hfin.imp (fun e => e.symm) id) _⟩
end Go.Proofs.Ytglcmlicfmmlpaa
