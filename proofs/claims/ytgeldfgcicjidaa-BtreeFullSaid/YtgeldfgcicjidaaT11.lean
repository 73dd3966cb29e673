/-
  A change of one key, level by level, in plain words.
-/
import Derived.Test.YtgeldfgcicjidaaT10
namespace Go.Proofs.Ytgeldfgcicjidaa
open Go.RowKit

theorem parts_three {α : Type} {sz : α → Nat} {M : Nat} (hM : M ≤ 250) (hM4 : 4 ≤ M) {l : List α} (h : ∀ x ∈ l, sz x ≤ M) (hs : (l.map sz).sum ≤ 376) (hl : l.length ≤ 66) : (parts sz l).length ≤ 3 := by
  have key : ∀ l : List α, (∀ x ∈ l, sz x ≤ M) → l ≠ [] → ∀ C c s, pkS sz l = some (C, c, s) → 251 * C.length + (c.map sz).sum ≤ 2 * (l.map sz).sum ∨ 64 + C.length ≤ l.length := by
    intro l
    refine snoc_ind (p := fun l => (∀ x ∈ l, sz x ≤ M) → l ≠ [] → ∀ C c s, pkS sz l = some (C, c, s) → 251 * C.length + (c.map sz).sum ≤ 2 * (l.map sz).sum ∨ 64 + C.length ≤ l.length) (fun _ h => absurd rfl h) (fun l x ih hx _ C c s he => ?_) l
    rw [pkS_snoc] at he
    rcases l with _ | ⟨y, l⟩
    · cases he
      left; simp; omega
    · obtain ⟨C0, c0, s0, e, ⟨h1, h2, h3, h4, h5, h6⟩⟩ := pk_ok hM hM4 (y :: l) (fun z hz => hx z (List.mem_append_left _ hz)) (by simp)
      have i1 := ih (fun z hz => hx z (List.mem_append_left _ hz)) (by simp) C0 c0 s0 e
      rw [e] at he
      unfold pkStep at he
      dsimp only at he
      have hC0 : C0.length ≤ C0.flatten.length := by
        have : ∀ D : List (List α), (∀ q ∈ D, q ≠ []) → D.length ≤ D.flatten.length := by
          intro D hD
          induction D with
          | nil => simp
          | cons q D ih =>
            have j1 := ih (fun z hz => hD z (List.mem_cons_of_mem _ hz))
            have j2 := List.length_pos_iff.2 (hD q List.mem_cons_self)
            rw [List.flatten_cons, List.length_append, List.length_cons]; omega
        exact this C0 (fun q hq => (h6 q hq).1)
      have hlen := congrArg List.length h1
      rw [List.length_append] at hlen
      rw [List.map_append, List.sum_append, List.length_append]
      split at he
      · rename_i hc
        cases he
        rw [List.length_append]
        simp only [List.map_cons, List.map_nil, List.sum_cons, List.sum_nil, List.length_cons, List.length_nil] at *
        rcases hc with hc | hc
        · rcases i1 with i1 | i1
          · left; omega
          · right; omega
        · right; omega
      · cases he
        rw [List.map_append, List.sum_append]
        simp only [List.map_cons, List.map_nil, List.sum_cons, List.sum_nil, List.length_cons, List.length_nil] at *
        rcases i1 with i1 | i1
        · left; omega
        · right; omega
  by_cases hn : l = []
  · subst hn; exact Nat.zero_le _
  · obtain ⟨C, c, s, e, _⟩ := pk_ok hM hM4 l h hn
    have := key l h hn C c s e
    unfold parts
    rw [e, pkL, List.length_append, List.length_singleton]
    omega
theorem partsB_three {leaf : Bool} {l : List It} (h : ∀ x ∈ l, x.ok) (hs : sizeN leaf l ≤ 376) (hl : l.length ≤ 66) : (partsB leaf l).length ≤ 3 := parts_three (M := 106) (by decide) (by decide) (fun x hx => sizeI_any (h x hx)) hs hl
theorem kvs_append (A B : List (Nat × List KV)) : kvs (A ++ B) = kvs A ++ kvs B := List.flatMap_append
theorem kvs_cons (x : Nat × List KV) (B : List (Nat × List KV)) : kvs (x :: B) = x.2 ++ kvs B := List.flatMap_cons
theorem head_mem {l : List KV} (h : l ≠ []) : l.headD ([], []) ∈ l := by
  cases l with
  | nil => exact absurd rfl h
  | cons x l => exact List.mem_cons_self
theorem kv_heads : ∀ {K : List (Nat × List KV)}, KSrt (kvs K) → (∀ x ∈ K, x.2 ≠ []) → Srt (K.map mdI)
  | [], _, _ => List.Pairwise.nil
  | x :: K, h, hn => by
    rw [kvs_cons] at h
    obtain ⟨h1, h2, h3⟩ := List.pairwise_append.1 h
    rw [List.map_cons]
    refine List.pairwise_cons.2 ⟨fun y hy => ?_, kv_heads h2 (fun z hz => hn z (List.mem_cons_of_mem _ hz))⟩
    obtain ⟨z, hz, rfl⟩ := List.mem_map.1 hy
    exact h3 _ (head_mem (hn x List.mem_cons_self)) _ (List.mem_flatMap.2 ⟨z, hz, head_mem (hn z (List.mem_cons_of_mem _ hz))⟩)
theorem belowF_lt {l : List It} {key : List UInt8} (h : l ≠ []) : belowF l key < l.length := by
  have h1 := pos_le l key
  have h2 : 0 < l.length := List.length_pos_iff.2 h
  unfold belowF
  split
  · rename_i hf
    unfold fnd at hf
    split at hf
    · rename_i x hx; exact (List.getElem?_eq_some_iff.1 hx).1
    · cases hf
  · omega
theorem pos_lo {l : List It} {key : List UInt8} {j : Nat} {x : It} (hj : j < pos l key) (hx : l[j]? = some x) : cmpB x.k key < 0 := by
  have h1 : x ∈ l.take (pos l key) := List.mem_of_getElem? (i := j) (by rw [List.getElem?_take_of_lt hj]; exact hx)
  unfold pos at h1
  rw [tw_take] at h1
  have h2 := tw_mem h1
  exact of_decide_eq_true h2
theorem pos_at {l : List It} {key : List UInt8} {x : It} (hx : l[pos l key]? = some x) : ¬ cmpB x.k key < 0 := by
  unfold pos at hx
  have := tw_at hx
  exact of_decide_eq_false this
/-- The pairs ahead of the kid that has a key, and those behind it. -/
theorem below_loc {K : List (Nat × List KV)} {key : List UInt8} {i : Nat} {x : Nat × List KV} (h : KSrt (kvs K)) (hn : ∀ x ∈ K, x.2 ≠ []) (hi : belowF (K.map mdI) key = i) (hx : K[i]? = some x) :
    (∀ y ∈ kvs (K.take i), cmpB y.1 key < 0) ∧ (∀ y ∈ kvs (K.drop (i + 1)), cmpB key y.1 < 0) := by
  have hs := kv_heads h hn
  have hil := (List.getElem?_eq_some_iff.1 hx).1
  have hK : K = K.take i ++ x :: K.drop (i + 1) := by
    conv => lhs; rw [← List.take_append_drop i K, List.drop_eq_getElem_cons hil]
    rw [(List.getElem?_eq_some_iff.1 hx).2]
  have hxn := hn x (List.mem_of_getElem? hx)
  have hk2 := h
  rw [hK, kvs_append, kvs_cons] at hk2
  obtain ⟨_, hk3, hk4⟩ := List.pairwise_append.1 hk2
  have hmx : (K.map mdI)[i]? = some (mdI x) := by rw [List.getElem?_map, hx]; rfl
  unfold belowF at hi
  have hhead : i = 0 ∨ cmpB (mdI x).k key ≤ 0 := by
    split at hi
    · rename_i hf
      subst hi
      unfold fnd at hf
      rw [hmx] at hf
      right
      have := of_decide_eq_true hf
      omega
    · rcases Nat.eq_zero_or_pos i with h0 | h0
      · exact .inl h0
      · right
        have := pos_lo (l := K.map mdI) (key := key) (j := i) (by omega) hmx
        omega
  refine ⟨fun y hy => ?_, fun y hy => ?_⟩
  · rcases hhead with h0 | h0
    · subst h0; cases hy
    · have h1 := hk4 y hy _ (List.mem_append_left _ (head_mem hxn))
      have h2 : (mdI x).k = (x.2.headD ([], [])).1 := rfl
      rw [h2] at h0
      rcases Int.lt_or_eq_of_le h0 with h3 | h3
      · exact cmpB_trans _ _ _ h1 h3
      · rw [← cmpB_eq _ _ h3]; exact h1
  · obtain ⟨z, hz, hyz⟩ := List.mem_flatMap.1 hy
    obtain ⟨j, hj⟩ := List.getElem?_of_mem hz
    rw [List.getElem?_drop] at hj
    have hmz : (K.map mdI)[i + 1 + j]? = some (mdI z) := by rw [List.getElem?_map, hj]; rfl
    have hzn := hn z (List.mem_of_getElem? hj)
    -- the kid's first key lies behind the key
    have h1 : cmpB key (mdI z).k < 0 := by
      split at hi
      · rename_i hf
        subst hi
        unfold fnd at hf
        rw [hmx] at hf
        have h2 := cmpB_eq _ _ (of_decide_eq_true hf)
        have h3 := hs.lt (by omega) hmx hmz
        rwa [h2] at h3
      · rename_i hf
        have hp : pos (K.map mdI) key ≤ i + 1 + j := by omega
        have hple := (List.getElem?_eq_some_iff.1 hmz).1
        have hpx := List.getElem?_eq_getElem (l := K.map mdI) (i := pos (K.map mdI) key) (by omega)
        have h4 := pos_at hpx
        have h5 : cmpB (K.map mdI)[pos (K.map mdI) key].k key ≠ 0 := fun e => hf (by unfold fnd; rw [hpx]; exact decide_eq_true e)
        have h6 := cmpB_swap (K.map mdI)[pos (K.map mdI) key].k key
        have h7 : cmpB key (K.map mdI)[pos (K.map mdI) key].k < 0 := by omega
        rcases Nat.lt_or_eq_of_le hp with h8 | h8
        · exact cmpB_trans _ _ _ h7 (hs.lt h8 hpx hmz)
        · have h9 := List.getElem?_eq_some_iff.1 hmz
          obtain ⟨h9, h10⟩ := h9
          have : (K.map mdI)[pos (K.map mdI) key] = mdI z := by rw [← h10]; congr 1
          rwa [this] at h7
    obtain ⟨q, hq⟩ := List.getElem?_of_mem hyz
    rcases Nat.eq_zero_or_pos q with rfl | hq0
    · obtain ⟨zq, zl⟩ := z
      cases zl with
      | nil => exact absurd rfl hzn
      | cons a zl => rw [show y = a from (Option.some.inj hq).symm]; exact h1
    · have hz2 : KSrt z.2 := by
        have h2 : z.2.Sublist (kvs K) := by
          obtain ⟨a, b, hab⟩ := List.append_of_mem (List.mem_of_getElem? hj)
          rw [hab, kvs_append, kvs_cons]
          exact List.Sublist.trans (List.sublist_append_left _ _) (List.sublist_append_right _ _)
        exact List.Pairwise.sublist h2 h
      have h3 : z.2[0]? = some (z.2.headD ([], [])) := by
        obtain ⟨zq, zl⟩ := z
        cases zl with
        | nil => exact absurd rfl hzn
        | cons a zl => rfl
      exact cmpB_trans _ _ _ h1 (hz2.lt hq0 h3 hq)
/-- What a change of one key makes of a tree. -/
structure ChOk (S S' : PS) (k dep r : Nat) (g : List KV → List KV) (l : List KV) (K : List (Nat × List KV)) : Prop where
  ext : Ext S S' k
  kids : ∀ x ∈ K, ∃ r', IsT S' dep r' x.1 x.2
  flat : kvs K = g l
  cnt : S.fre.length ≤ S'.fre.length + 3 * (dep + 1)
  dn : K.length + S'.fre.length ≤ S.fre.length
  k3 : K.length ≤ 3
  two : 2 ≤ K.length → dep = 0 ∨ 8 ≤ r
  one : ∀ x, K = [x] → ∃ r', r' ≤ r + 2 ∧ IsT S' dep r' x.1 x.2 ∧ ((∀ l, l.length ≤ (g l).length) → r ≤ r')
theorem leaf3 {S : PS} {r i : Nat} {l : List KV} {key : List UInt8} {g : List KV → List KV} {pre : List KV → Prop} (hT : IsT S 0 r i l) (hg : GOk key g pre) : (partsB true ((g l).map lfI)).length ≤ 3 := by
  have hok := hg.ok l hT.ok
  obtain ⟨hr, hN⟩ := hT
  have hl64 := hN.nd.len
  have hsz := hN.nd.size
  rw [List.length_map] at hl64
  exact partsB_three (leaf := true) (l := (g l).map lfI) (fun x hx => by obtain ⟨y, hy, rfl⟩ := List.mem_map.1 hx; exact lfI_ok.2 (hok y hy)) (by have := hg.size l; omega) (by rw [List.length_map]; have := hg.len l; omega)
theorem ch_leaf {S S1 : PS} {k r i : Nat} {l : List KV} {key : List UInt8} {g : List KV → List KV} {pre : List KV → Prop} {P : List Nat} (hS : S.good k) (hT : IsT S 0 r i l) (hg : GOk key g pre) (hW : wrAll S ((partsB true ((g l).map lfI)).map (encN true)) = (S1, P, true)) :
    ∃ K, upP (partsB true ((g l).map lfI)) P = K.map mdI ∧ ChOk S S1 k 0 r g l K ∧ K.length = P.length := by
  have hok := hg.ok l hT.ok
  obtain ⟨hr, hN⟩ := hT
  obtain ⟨e, c1, c2, K, u1, u2, u3, u4⟩ := leaf_up hS hok hW
  have h3 := leaf3 (S := S) (r := r) (i := i) ⟨hr, hN⟩ hg
  refine ⟨K, u1, ⟨e, fun x hx => ⟨_, (u2 x hx).1⟩, u3, by omega, by omega, by omega, fun _ => .inl rfl, fun x hx => ⟨x.2.length, ?_, (u2 x (by rw [hx]; exact List.mem_cons_self)).1, fun hm => ?_⟩⟩, u4⟩
  · have h4 := (u2 x (by rw [hx]; exact List.mem_cons_self)).2
    have h5 := hg.len l
    omega
  · have h4 : x.2 = g l := by rw [← u3, hx]; simp [kvs]
    rw [h4, hr]
    exact hm l
theorem mid3 {S1 : PS} {k d i : Nat} {K0 K1 : List (Nat × List KV)} (hS : S1.ok k) (hN : NdOk false (K0.map mdI)) (hi : i < K0.length) (hk3 : K1.length ≤ 3) (hnew : ∀ y ∈ K0.take i ++ K1 ++ K0.drop (i + 1), ∃ r, IsT S1 d r y.1 y.2) : (partsB false ((K0.take i ++ K1 ++ K0.drop (i + 1)).map mdI)).length ≤ 3 := by
  have hl64 := hN.len
  have hsz := hN.size
  rw [List.length_map] at hl64
  have hlen : (K0.take i ++ K1 ++ K0.drop (i + 1)).length + 1 = K0.length + K1.length := by
    simp only [List.length_append, List.length_take, List.length_drop]; omega
  have hok1 := mdI_ok hS hnew
  have hsum : ∀ (M : List (Nat × List KV)), (∀ y ∈ M.map mdI, y.ok) → sizeN false (M.map mdI) ≤ M.length * 27 := fun M hM => by
    have := sum_le (sz := sizeI false) (M := 27) (c := M.map mdI) (fun y hy => sizeI_mid (hM y hy))
    rwa [List.length_map] at this
  have hsz2 : sizeN false ((K0.take i ++ K1 ++ K0.drop (i + 1)).map mdI) ≤ 376 := by
    have h2 := sizeN_part (leaf := false) (K0.map mdI) i (i + 1) (by omega)
    have h3 := hsum K1 (fun y hy => by
      obtain ⟨z, hz, rfl⟩ := List.mem_map.1 hy
      exact hok1 _ (List.mem_map_of_mem (List.mem_append_left _ (List.mem_append_right _ hz))))
    rw [List.map_append, List.map_append, sizeN_append, sizeN_append, List.map_take, List.map_drop]
    omega
  exact partsB_three (leaf := false) hok1 hsz2 (by rw [List.length_map]; omega)
theorem ch_mid {S S1 S2 : PS} {k d r i : Nat} {K0 K1 : List (Nat × List KV)} {l : List KV} {key : List UInt8} {g : List KV → List KV} {pre : List KV → Prop} {P : List Nat} {x : Nat × List KV} {r1 : Nat} (hS : S.good k) (hr : r = K0.length) (hN : NdOk false (K0.map mdI)) (hK : ∀ x ∈ K0, ∃ r', IsT S d r' x.1 x.2) (hl : l = kvs K0) (hs : KSrt l) (hg : GOk key g pre)
    (hi : belowF (K0.map mdI) key = i) (hx : K0[i]? = some x) (h1 : ChOk S S1 k d r1 g x.2 K1) (hW : wrAll S1 ((partsB false ((K0.take i ++ K1 ++ K0.drop (i + 1)).map mdI)).map (encN false)) = (S2, P, true)) :
    ∃ K, upP (partsB false ((K0.take i ++ K1 ++ K0.drop (i + 1)).map mdI)) P = K.map mdI ∧ ChOk S S2 k (d + 1) r g l K ∧ K.length = P.length := by
  have hne : ∀ x ∈ K0, x.2 ≠ [] := fun x hx => by obtain ⟨r', h⟩ := hK x hx; exact h.ne
  have hil := (List.getElem?_eq_some_iff.1 hx).1
  have hK0 : K0 = K0.take i ++ x :: K0.drop (i + 1) := by
    conv => lhs; rw [← List.take_append_drop i K0, List.drop_eq_getElem_cons hil]
    rw [(List.getElem?_eq_some_iff.1 hx).2]
  have hnew : ∀ y ∈ K0.take i ++ K1 ++ K0.drop (i + 1), ∃ r, IsT S1 d r y.1 y.2 := fun y hy => by
    rcases List.mem_append.1 hy with hy | hy
    · rcases List.mem_append.1 hy with hy | hy
      · obtain ⟨r', h⟩ := hK y (List.mem_of_mem_take hy); exact ⟨r', h.ext h1.ext⟩
      · exact h1.kids y hy
    · obtain ⟨r', h⟩ := hK y (List.mem_of_mem_drop hy); exact ⟨r', h.ext h1.ext⟩
  have g1 := h1.ext.good hS
  obtain ⟨e, c1, c2, K, u1, u2, u3, u4, u5⟩ := mid_up g1 hnew hW
  have hlen : (K0.take i ++ K1 ++ K0.drop (i + 1)).length + 1 = K0.length + K1.length := by
    simp only [List.length_append, List.length_take, List.length_drop]; omega
  have hl64 := hN.len
  have hsz := hN.size
  rw [List.length_map] at hl64
  have hk3 := h1.k3
  have hok1 := mdI_ok g1.1 hnew
  have h3 := mid3 g1.1 hN hil hk3 hnew
  have hpb := partsB_mid hok1
  rw [List.length_map] at hpb
  have hflat : kvs K = g l := by
    obtain ⟨b1, b2⟩ := below_loc (hl ▸ hs) hne hi hx
    have := (hg.loc (kvs (K0.take i)) x.2 (kvs (K0.drop (i + 1))) (hne x (List.mem_of_getElem? hx)) b1 b2).1
    rw [u3, kvs_append, kvs_append, h1.flat, ← this, hl]
    congr 1
    conv => rhs; rw [hK0]
    rw [kvs_append, kvs_cons, List.append_assoc]
  have hcnt := h1.cnt
  have hdn := h1.dn
  refine ⟨K, u1, ⟨h1.ext.trans e, fun y hy => by obtain ⟨r', _, h⟩ := u2 y hy; exact ⟨r', h⟩, hflat, by omega, by omega, by omega, fun h2 => .inr (by omega), fun y hy => ?_⟩, u4⟩
  refine ⟨_, by omega, u5 y hy, fun hm => ?_⟩
  have h4 : K1 ≠ [] := fun e0 => by
    have h5 := h1.flat
    rw [e0] at h5
    have h6 := hm x.2
    rw [← h5] at h6
    exact hne x (List.mem_of_getElem? hx) (List.eq_nil_of_length_eq_zero (by simpa [kvs] using h6))
  have h5 : 1 ≤ K1.length := List.length_pos_iff.2 h4
  omega
end Go.Proofs.Ytgeldfgcicjidaa
