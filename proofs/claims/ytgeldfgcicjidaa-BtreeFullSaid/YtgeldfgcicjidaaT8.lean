/-
  Trees, in plain words.
-/
import Derived.Test.YtgeldfgcicjidaaT7
namespace Go.Proofs.Ytgeldfgcicjidaa
open Go.RowKit

abbrev KV := List UInt8 × List UInt8
structure okKV (x : KV) : Prop where
  k1 : 1 ≤ x.1.length
  k24 : x.1.length ≤ 24
  b80 : x.2.length ≤ 80
def lfI (x : KV) : It := ⟨x.1, x.2, 0⟩
def mdI (x : Nat × List KV) : It := ⟨(x.2.headD ([], [])).1, [], x.1⟩
abbrev kvs (K : List (Nat × List KV)) : List KV := K.flatMap (·.2)
theorem lfI_ok {x : KV} : (lfI x).ok ↔ okKV x := ⟨fun h => ⟨h.k1, h.k24, h.b80⟩, fun h => ⟨h.k1, h.k24, h.b80, by show 0 < 4096; decide⟩⟩
def KSrt (l : List KV) : Prop := l.Pairwise fun a b => cmpB a.1 b.1 < 0
theorem KSrt.it {l : List KV} (h : KSrt l) : Srt (l.map lfI) := List.pairwise_map.2 h
/-- A tree: its depth, how many items its root has, its root's page, its pairs. -/
def IsT (S : PS) : Nat → Nat → Nat → List KV → Prop
  | 0, r, i, l => r = l.length ∧ IsN S i true (l.map lfI)
  | d + 1, r, i, l => ∃ K : List (Nat × List KV), r = K.length ∧ IsN S i false (K.map mdI) ∧ (∀ x ∈ K, ∃ r', IsT S d r' x.1 x.2) ∧ l = kvs K
theorem IsT.ext {S S' : PS} {k : Nat} (e : Ext S S' k) : ∀ {d r i : Nat} {l : List KV}, IsT S d r i l → IsT S' d r i l
  | 0, _, _, _, ⟨h1, h2⟩ => ⟨h1, e.isN h2⟩
  | d + 1, _, _, _, ⟨K, h1, h2, h3, h4⟩ => ⟨K, h1, e.isN h2, fun x hx => by obtain ⟨r', h⟩ := h3 x hx; exact ⟨r', IsT.ext e h⟩, h4⟩
theorem IsT.lt {S : PS} : ∀ {d r i : Nat} {l : List KV}, IsT S d r i l → i < S.n
  | 0, _, _, _, ⟨_, h⟩ => h.lt
  | _ + 1, _, _, _, ⟨_, _, h, _⟩ => h.lt
theorem IsT.ne {S : PS} : ∀ {d r i : Nat} {l : List KV}, IsT S d r i l → l ≠ []
  | 0, _, _, l, ⟨_, h⟩ => fun e => h.nd.ne (by rw [e]; rfl)
  | d + 1, _, _, l, ⟨K, _, h2, h3, h4⟩ => fun e => by
    cases K with
    | nil => exact h2.nd.ne rfl
    | cons x K =>
      obtain ⟨r', h⟩ := h3 x List.mem_cons_self
      rw [h4, kvs, List.flatMap_cons] at e
      exact IsT.ne h (List.append_eq_nil_iff.1 e).1
theorem IsT.ok {S : PS} : ∀ {d r i : Nat} {l : List KV}, IsT S d r i l → ∀ x ∈ l, okKV x
  | 0, _, _, l, ⟨_, h⟩, x, hx => lfI_ok.1 (h.nd.ok _ (List.mem_map_of_mem hx))
  | d + 1, _, _, l, ⟨K, _, _, h3, h4⟩, x, hx => by
    rw [h4] at hx
    obtain ⟨y, hy, hxy⟩ := List.mem_flatMap.1 hx
    obtain ⟨r', h⟩ := h3 y hy
    exact IsT.ok h x hxy
/-- Some lists as nodes on pages: what is found there. -/
theorem wr_nodes {S S1 : PS} {k : Nat} {P : List Nat} {leaf : Bool} {G : List (List It)} (hS : S.good k) (hG : ∀ l ∈ G, NdOk leaf l) (hW : wrAll S (G.map (encN leaf)) = (S1, P, true)) :
    Ext S S1 k ∧ P.length = G.length ∧ S1.fre.length + G.length = S.fre.length ∧ ∀ (j q : Nat) (l : List It), P[j]? = some q → G[j]? = some l → IsN S1 q leaf l := by
  have h := wrAll_ok hS (G.map (encN leaf)) (fun b hb => by obtain ⟨l, hl, rfl⟩ := List.mem_map.1 hb; exact nd_len (hG l hl))
  rw [hW] at h
  have h1 : P.length = G.length := by have := h.yes rfl; rwa [List.length_map] at this
  refine ⟨h.ext, h1, by have := h.cnt; dsimp only at this; omega, fun j q l hq hl => ?_⟩
  obtain ⟨p1, p2, p3⟩ := h.pg j q (encN leaf l) hq (by rw [List.getElem?_map, hl]; rfl)
  exact ⟨h.ext.n ▸ p1, p2, p3, hG l (List.mem_of_getElem? hl)⟩
theorem headD_map {l : List KV} (h : l ≠ []) : headK (l.map lfI) = (l.headD ([], [])).1 := by
  cases l with
  | nil => exact absurd rfl h
  | cons x l => rfl
theorem head_kvs {K : List (Nat × List KV)} (h : K ≠ []) (hK : ∀ x ∈ K, x.2 ≠ []) : headK (K.map mdI) = ((kvs K).headD ([], [])).1 := by
  cases K with
  | nil => exact absurd rfl h
  | cons x K =>
    obtain ⟨q, l⟩ := x
    cases l with
    | nil => exact absurd rfl (hK _ List.mem_cons_self)
    | cons y l => rfl
theorem zip_kvs {α : Type} (f : α → List KV) : ∀ {G : List α} {P : List Nat}, P.length = G.length → kvs (List.zipWith (fun g q => (q, f g)) G P) = G.flatMap f
  | [], [], _ => rfl
  | g :: G, q :: P, h => by
    rw [List.zipWith_cons_cons, kvs, List.flatMap_cons, List.flatMap_cons]
    have := zip_kvs f (G := G) (P := P) (by simpa using h)
    rw [kvs] at this
    rw [this]
  | [], _ :: _, h => by simp at h
  | _ :: _, [], h => by simp at h
theorem zip_mem {α : Type} {f : α → List KV} {G : List α} {P : List Nat} {x : Nat × List KV} (h : x ∈ List.zipWith (fun g q => (q, f g)) G P) : ∃ (j : Nat) (g : α), G[j]? = some g ∧ P[j]? = some x.1 ∧ x.2 = f g := by
  obtain ⟨j, hj⟩ := List.getElem?_of_mem h
  rw [List.getElem?_zipWith] at hj
  split at hj
  · rename_i g q h1 h2
    cases hj
    exact ⟨j, g, h1, h2, rfl⟩
  · cases hj
theorem zip_up {α : Type} {f : α → List KV} {e : α → List It} : ∀ {G : List α} {P : List Nat}, (∀ g ∈ G, headK (e g) = ((f g).headD ([], [])).1) → upP (G.map e) P = (List.zipWith (fun g q => (q, f g)) G P).map mdI
  | [], _, _ => by simp [upP]
  | _ :: _, [], _ => by simp [upP]
  | g :: G, q :: P, h => by
    have := zip_up (f := f) (e := e) (G := G) (P := P) (fun x hx => h x (List.mem_cons_of_mem _ hx))
    unfold upP at *
    rw [List.map_cons, List.zipWith_cons_cons, List.zipWith_cons_cons, List.map_cons, ← this, h g List.mem_cons_self]
    rfl
theorem kvs_flatten : ∀ G : List (List (Nat × List KV)), kvs G.flatten = G.flatMap kvs
  | [] => rfl
  | g :: G => by
    rw [List.flatten_cons, kvs, List.flatMap_append, List.flatMap_cons]
    exact congrArg _ (kvs_flatten G)
/-- Pairs as leaves. -/
theorem leaf_up {S S1 : PS} {k : Nat} {P : List Nat} {l : List KV} (hS : S.good k) (hl : ∀ x ∈ l, okKV x) (hW : wrAll S ((partsB true (l.map lfI)).map (encN true)) = (S1, P, true)) :
    Ext S S1 k ∧ S1.fre.length + P.length = S.fre.length ∧ P.length = (partsB true (l.map lfI)).length ∧ ∃ K : List (Nat × List KV), upP (partsB true (l.map lfI)) P = K.map mdI ∧ (∀ x ∈ K, IsT S1 0 x.2.length x.1 x.2 ∧ x.2.length ≤ l.length) ∧ kvs K = l ∧ K.length = P.length := by
  have hok : ∀ x ∈ l.map lfI, x.ok := fun x hx => by obtain ⟨y, hy, rfl⟩ := List.mem_map.1 hx; exact lfI_ok.2 (hl y hy)
  obtain ⟨hf, hnd⟩ := partsB_ok (leaf := true) hok (fun x hx => by obtain ⟨y, hy, rfl⟩ := List.mem_map.1 hx; rfl)
  have hm : partsB true (l.map lfI) = (parts (fun x => sizeI true (lfI x)) l).map (List.map lfI) := parts_map (fun _ => rfl) l
  rw [hm] at hf hnd hW ⊢
  obtain ⟨e, h1, h2, h3⟩ := wr_nodes hS hnd hW
  obtain ⟨G, hG⟩ : ∃ G, parts (fun x => sizeI true (lfI x)) l = G := ⟨_, rfl⟩
  rw [hG] at hf hnd hW h1 h2 h3 ⊢
  rw [List.length_map] at h1 h2
  have hfl : G.flatten = l := by
    rw [← hG]
    exact (parts_ok (sz := fun x => sizeI true (lfI x)) (M := 106) (by decide) (by decide) (fun x hx => sizeI_leaf (lfI_ok.2 (hl x hx)))).1
  have hne : ∀ g ∈ G, g ≠ [] := fun g hg e => (hnd _ (List.mem_map_of_mem hg)).ne (by rw [e]; rfl)
  refine ⟨e, by omega, by rw [List.length_map]; exact h1, List.zipWith (fun g q => (q, g)) G P, zip_up (f := fun g => g) (e := List.map lfI) (fun g hg => headD_map (hne g hg)), fun x hx => ?_, ?_, by rw [List.length_zipWith]; omega⟩
  · obtain ⟨j, g, hg, hq, hx2⟩ := zip_mem (f := fun g => g) hx
    have := h3 j x.1 (g.map lfI) hq (by rw [List.getElem?_map, hg]; rfl)
    rw [hx2]
    refine ⟨⟨rfl, this⟩, ?_⟩
    rw [← hfl]
    exact (List.sublist_flatten_of_mem (List.mem_of_getElem? hg)).length_le
  · have := zip_kvs (fun g : List KV => g) (G := G) (P := P) h1
    rw [this, ← hfl]
    simp
/-- Trees as kids of nodes above them. -/
theorem mid_up {S S1 : PS} {k d : Nat} {P : List Nat} {K : List (Nat × List KV)} (hS : S.good k) (hK : ∀ x ∈ K, ∃ r, IsT S d r x.1 x.2) (hW : wrAll S ((partsB false (K.map mdI)).map (encN false)) = (S1, P, true)) :
    Ext S S1 k ∧ S1.fre.length + P.length = S.fre.length ∧ P.length = (partsB false (K.map mdI)).length ∧ ∃ K' : List (Nat × List KV), upP (partsB false (K.map mdI)) P = K'.map mdI ∧ (∀ x ∈ K', ∃ r, r ≤ K.length ∧ IsT S1 (d + 1) r x.1 x.2) ∧ kvs K' = kvs K ∧ K'.length = P.length ∧ (∀ x, K' = [x] → IsT S1 (d + 1) K.length x.1 x.2) := by
  have hn := hS.1.nk
  have hn4 := hS.1.k4
  have hKn : ∀ x ∈ K, x.2 ≠ [] := fun x hx => by obtain ⟨r, h⟩ := hK x hx; exact h.ne
  have hok : ∀ x ∈ K.map mdI, x.ok := fun x hx => by
    obtain ⟨y, hy, rfl⟩ := List.mem_map.1 hx
    obtain ⟨r, h⟩ := hK y hy
    have hlt := h.lt
    have hne := hKn y hy
    obtain ⟨q, l⟩ := y
    cases l with
    | nil => exact absurd rfl hne
    | cons z l => obtain ⟨k1, k2, _⟩ := h.ok z List.mem_cons_self; exact ⟨k1, k2, Nat.zero_le _, by show q < 4096; dsimp only at hlt; omega⟩
  obtain ⟨hf, hnd⟩ := partsB_ok (leaf := false) hok (fun x hx => by obtain ⟨y, hy, rfl⟩ := List.mem_map.1 hx; rfl)
  have hm : partsB false (K.map mdI) = (parts (fun x => sizeI false (mdI x)) K).map (List.map mdI) := parts_map (fun _ => rfl) K
  have hfl : (parts (fun x => sizeI false (mdI x)) K).flatten = K := (parts_ok (sz := fun x => sizeI false (mdI x)) (M := 27) (by decide) (by decide) (fun x hx => sizeI_mid (hok _ (List.mem_map_of_mem hx)))).1
  rw [hm] at hf hnd hW ⊢
  obtain ⟨e, h1, h2, h3⟩ := wr_nodes hS hnd hW
  obtain ⟨G, hG⟩ : ∃ G, parts (fun x => sizeI false (mdI x)) K = G := ⟨_, rfl⟩
  rw [hG] at hf hnd hW h1 h2 h3 hfl ⊢
  rw [List.length_map] at h1 h2
  have hgm : ∀ g ∈ G, ∀ x ∈ g, x ∈ K := fun g hg x hx => hfl ▸ List.mem_flatten.2 ⟨g, hg, hx⟩
  have hne : ∀ g ∈ G, g ≠ [] := fun g hg e => (hnd _ (List.mem_map_of_mem hg)).ne (by rw [e]; rfl)
  have hT : ∀ x ∈ List.zipWith (fun g q => (q, kvs g)) G P, ∃ (j : Nat) (g : List (Nat × List KV)), G[j]? = some g ∧ IsT S1 (d + 1) g.length x.1 x.2 := fun x hx => by
    obtain ⟨j, g, hg, hq, hx2⟩ := zip_mem (f := kvs) hx
    have := h3 j x.1 (g.map mdI) hq (by rw [List.getElem?_map, hg]; rfl)
    exact ⟨j, g, hg, g, rfl, this, fun y hy => by obtain ⟨r, h⟩ := hK y (hgm g (List.mem_of_getElem? hg) y hy); exact ⟨r, h.ext e⟩, hx2⟩
  refine ⟨e, by omega, by rw [List.length_map]; exact h1, List.zipWith (fun g q => (q, kvs g)) G P, zip_up (f := kvs) (e := List.map mdI) (fun g hg => head_kvs (hne g hg) (fun x hx => hKn x (hgm g hg x hx))), fun x hx => ?_, ?_, by rw [List.length_zipWith]; omega, fun x hx => ?_⟩
  · obtain ⟨j, g, hg, h⟩ := hT x hx
    refine ⟨g.length, ?_, h⟩
    rw [← hfl]
    exact (List.sublist_flatten_of_mem (List.mem_of_getElem? hg)).length_le
  · rw [zip_kvs kvs h1, ← hfl, kvs_flatten]
  · obtain ⟨j, g, hg, h⟩ := hT x (by rw [hx]; exact List.mem_cons_self)
    have hl : G.length = 1 := by
      have := congrArg List.length hx
      rw [List.length_zipWith, List.length_singleton] at this
      omega
    obtain ⟨g', rfl⟩ := List.length_eq_one_iff.1 hl
    have : j = 0 := by have := (List.getElem?_eq_some_iff.1 hg).1; simp at this; exact this
    subst this
    obtain rfl : g' = g := Option.some.inj hg
    have hK2 : K = g' := by rw [← hfl]; simp
    rw [hK2]; exact h
structure GrowOk (S : PS) (k d : Nat) (K : List (Nat × List KV)) (R : PS × Int × Bool) : Prop where
  ext : Ext S R.1 k
  cnt : S.fre.length ≤ R.1.fre.length + (K.length - 1)
  no : R.2.2 = false → R.1.fre = [] ∧ S.fre.length < K.length - 1
  nil : K = [] → R = (S, -1, true)
  one : ∀ x, K = [x] → R = (S, (x.1 : Int), true)
  yes : R.2.2 = true → K ≠ [] → ∃ d' r i, R.2.1 = ((i : Nat) : Int) ∧ IsT R.1 d' r i (kvs K) ∧ d ≤ d' ∧ d' < d + K.length
  few : R.2.2 = true → 2 ≤ K.length → K.length ≤ 9 → ∃ i, R.2.1 = ((i : Nat) : Int) ∧ IsT R.1 (d + 1) K.length i (kvs K)
theorem mdI_ok {S : PS} {k d : Nat} {K : List (Nat × List KV)} (hS : S.ok k) (hK : ∀ x ∈ K, ∃ r, IsT S d r x.1 x.2) : ∀ x ∈ K.map mdI, x.ok := fun x hx => by
  obtain ⟨y, hy, rfl⟩ := List.mem_map.1 hx
  obtain ⟨r, h⟩ := hK y hy
  have hlt := h.lt
  have hne := h.ne
  have hn := hS.nk
  have hn4 := hS.k4
  obtain ⟨q, l⟩ := y
  cases l with
  | nil => exact absurd rfl hne
  | cons z l => obtain ⟨k1, k2, _⟩ := h.ok z List.mem_cons_self; exact ⟨k1, k2, Nat.zero_le _, by show q < 4096; dsimp only at hlt; omega⟩
theorem mdI_shp (K : List (Nat × List KV)) : Shp false (K.map mdI) := fun x hx => by obtain ⟨y, hy, rfl⟩ := List.mem_map.1 hx; rfl
theorem kvs_ne {S : PS} {d : Nat} {K : List (Nat × List KV)} (hK : ∀ x ∈ K, ∃ r, IsT S d r x.1 x.2) (h : K ≠ []) : kvs K ≠ [] := by
  cases K with
  | nil => exact absurd rfl h
  | cons x K =>
    obtain ⟨r, hx⟩ := hK x List.mem_cons_self
    rw [kvs, List.flatMap_cons]
    exact fun e => hx.ne (List.append_eq_nil_iff.1 e).1
/-- What growing a root makes of trees. -/
theorem grow_tree {k : Nat} : ∀ (f : Nat) {S : PS} {d : Nat} {K : List (Nat × List KV)}, S.good k → (∀ x ∈ K, ∃ r, IsT S d r x.1 x.2) → K.length ≤ f → GrowOk S k d K (growF f S (K.map mdI))
  | 0, S, d, K, hS, hK, hf => by
    obtain rfl : K = [] := List.eq_nil_of_length_eq_zero (by omega)
    exact ⟨Ext.refl S k, Nat.le_refl _, (fun h => by cases h), fun _ => rfl, (fun x h => by cases h), fun _ h => absurd rfl h, fun _ h => absurd h (by decide)⟩
  | f + 1, S, d, K, hS, hK, hf => by
    by_cases h1 : 1 < K.length
    · have hok := mdI_ok hS.1 hK
      have hpb := partsB_mid hok
      rw [List.length_map] at hpb
      have hWk := wrAll_ok hS ((partsB false (K.map mdI)).map (encN false)) (fun b hb => by
        obtain ⟨l, hl, rfl⟩ := List.mem_map.1 hb
        exact nd_len ((partsB_ok (leaf := false) hok (mdI_shp K)).2 l hl))
      rw [growF, if_pos (by rw [List.length_map]; exact h1)]
      obtain ⟨⟨S1, P, ok⟩, hW⟩ : ∃ r, wrAll S ((partsB false (K.map mdI)).map (encN false)) = r := ⟨_, rfl⟩
      rw [hW] at hWk ⊢
      have hK2 : K ≠ [] := fun e => by rw [e] at h1; simp at h1
      have hK3 : ∀ x, K ≠ [x] := fun x e => by rw [e] at h1; simp at h1
      have n3 := hWk.cnt
      cases ok with
      | false =>
        obtain ⟨n1, n2⟩ := hWk.no rfl
        dsimp only at n1 n2 n3 ⊢
        rw [List.length_map] at n2
        rw [n1, List.length_nil] at n3
        exact ⟨hWk.ext, by dsimp only; omega, fun _ => ⟨n1, by omega⟩, fun e => absurd e hK2, fun x e => absurd e (hK3 x), (fun h => by cases h), fun h => by cases h⟩
      | true =>
        obtain ⟨e, c1, c2, K', u1, u2, u3, u4, u5⟩ := mid_up hS hK hW
        dsimp only at n3 ⊢
        rw [u1]
        have hK' : ∀ x ∈ K', ∃ r, IsT S1 (d + 1) r x.1 x.2 := fun x hx => by obtain ⟨r, _, h⟩ := u2 x hx; exact ⟨r, h⟩
        obtain ⟨g1, g2, g3, g4, g5, g6, g7⟩ := grow_tree f (e.good hS) hK' (by omega)
        have hp1 : K' ≠ [] := fun e0 => by
          rw [e0] at u3
          exact kvs_ne hK hK2 u3.symm
        have hp2 : 1 ≤ K'.length := List.length_pos_iff.2 hp1
        refine ⟨e.trans g1, by omega, fun h => ?_, fun e => absurd e hK2, fun x e => absurd e (hK3 x), fun h _ => ?_, fun h _ h9 => ?_⟩
        · obtain ⟨g8, g9⟩ := g3 h
          exact ⟨g8, by omega⟩
        · obtain ⟨d', r, i, y1, y2, y3, y4⟩ := g6 h hp1
          rw [u3] at y2
          exact ⟨d', r, i, y1, y2, by omega, by omega⟩
        · obtain ⟨x, hx⟩ : ∃ x, K' = [x] := List.length_eq_one_iff.1 (by omega)
          have y1 := u5 x hx
          have y2 : kvs K = x.2 := by rw [← u3, hx]; simp [kvs]
          rw [g5 x hx, y2]
          exact ⟨x.1, rfl, y1⟩
    · rw [growF_root (by rw [List.length_map]; exact h1)]
      rcases K with _ | ⟨x, K⟩
      · exact ⟨Ext.refl S k, Nat.le_refl _, (fun h => by cases h), fun _ => rfl, (fun x h => by cases h), fun _ h => absurd rfl h, fun _ h => absurd h (by decide)⟩
      · obtain rfl : K = [] := List.eq_nil_of_length_eq_zero (by rw [List.length_cons] at h1; omega)
        obtain ⟨r, hx⟩ := hK x List.mem_cons_self
        refine ⟨Ext.refl S k, Nat.le_refl _, (fun h => by cases h), (fun h => by cases h), fun y hy => by cases hy; rfl, fun _ _ => ⟨d, r, x.1, rfl, by simpa [kvs] using hx, Nat.le_refl _, by simp⟩, fun _ h => absurd h (by simp)⟩
end Go.Proofs.Ytgeldfgcicjidaa
