/-
  Slices made, cleared, grown; a range over a function whose iterator turns what it has.
-/
import Derived.Lib.AppendZerosOnto
import Derived.Lib.AppendZeros
import Derived.Laws.MakeOwn
import Derived.Test.YtgeldfgcicjidaaK1
import Derived.Test.YtgeldfgcicjidaaC0
namespace Go.Proofs.Ytgeldfgcicjidaa
open Go.RowKit
set_option linter.unusedSimpArgs false
set_option linter.unusedVariables false

/-- A slice of one's own that holds these elements, each of k cells. -/
def ownQ {α : Type} (f : α → List Value) (T k : Nat) (v : Value) (n : Nat) (L : List α) : HP := fun h => L.length = n ∧ own v T k n (L.flatMap f) h
theorem flat_take {α : Type} {f : α → List Value} {k : Nat} (hk : ∀ x, (f x).length = k) : ∀ (l : List α) (i : Nat), (l.flatMap f).take (i * k) = (l.take i).flatMap f
  | l, 0 => by simp
  | [], i + 1 => by simp
  | x :: l, i + 1 => by
    rw [List.flatMap_cons, List.take_succ_cons, List.flatMap_cons, ← flat_take hk l i, show (i + 1) * k = (f x).length + i * k by rw [hk, Nat.succ_mul]; omega, List.take_append, List.take_of_length_le (by omega), Nat.add_sub_cancel_left]
theorem flat_set {α : Type} {f : α → List Value} {k : Nat} (hk : ∀ x, (f x).length = k) {l : List α} {i : Nat} (r : α) (hi : i < l.length) : setL (l.flatMap f) (i * k) (f r) = (l.set i r).flatMap f := by
  unfold setL
  rw [flat_take hk, hk, show i * k + k = (i + 1) * k by rw [Nat.succ_mul], flat_drop hk, List.set_eq_take_append_cons_drop, if_pos hi]
  simp
section
variable {P : Program} {ω : Amb} {m : Nat} {ds : List Deferred} {Γ Γ' Γ1 : List HP} {β : List (Nat × Value)} {K : Act → World → Prop} {α : Type} {f : α → List Value} {T k n c g : Nat} {v : Value} {L : List α}
theorem vw_Q : Vw (ownQ f T k v n L) v k n (L.flatMap f) := fun h hh => vw_own h hh.2
theorem St.Q_sl (h : ∀ A c, v = .slice A n c → n ≤ c → c ≤ maxLen → L.length = n → St ω m ds (ownQ f T k v n L :: Γ) β K) : St ω m ds (ownQ f T k v n L :: Γ) β K := fun a w b d => by
  obtain ⟨ba, p1, p2, l1, l2, ap, ⟨hl, hq⟩, hr⟩ := id b
  obtain ⟨A, c, e, h1, h2, _⟩ := vw_own _ hq
  exact h A c e h1 h2 hl a w b d
theorem St.Q_some (hn : 0 < n) (h : ∀ g c, v = .slice (some ⟨g, 0, none⟩) n c → n ≤ c → c ≤ maxLen → St ω m ds (ownQ f T k v n L :: Γ) β K) : St ω m ds (ownQ f T k v n L :: Γ) β K := fun a w b d => by
  obtain ⟨ba, p1, p2, l1, l2, ap, ⟨hl, hq⟩, hr⟩ := id b
  obtain ⟨h0, (⟨rfl, rfl⟩ | ⟨g, c, tail, e, h1, h2, _⟩)⟩ := hq
  · omega
  · exact h g c e h1 h2 a w b d
theorem cells_Q (hk : ∀ x, (f x).length = k) {i : Nat} {x : α} (h : L[i]? = some x) (p : Sel (ownQ f T k (.slice (some ⟨g, 0, none⟩) n c) n L) Γ Γ' := by repeat (first | with_reducible exact Sel.head | apply Sel.tail)) : CellsIn ω Γ g (0 + i * k) (f x) := fun w hh => by
  obtain ⟨_, _, hl, _⟩ := hh.get p
  have hi := (List.getElem?_eq_some_iff.1 h).1
  exact vw_Q.cells p (by omega) (by rw [hk]; exact flat_at hk h) w hh
/-- A store of an element. -/
theorem r_stQ {x y : Operand} {r : Option Nat} {ops : Array Oper} {Q : Exit → Act → World → Prop} {rest : List Oper} {t ty : TypeId} {pos : String} {af : Array Edge} {gd : Option (Nat × Bool)} {b : Bool} (hk : ∀ x, (f x).length = k) (h1 : ∀ x, (f x).all (·.oneCell') = true) (z : α) (i : Nat) (hT : rowOf P t = some (k, b)) (hi : i < n)
    (kk : St ω m ds (ownQ f T k (.slice (some ⟨g, 0, none⟩) n c) n (L.set i z) :: Γ') β (Run P r ops Q rest)) (hx : ev β x = some (.pointer (some ⟨g, 0 + i * k, none⟩)) := by exact rfl) (hy : ev β y = some (.agg (f z).toArray) := by exact rfl)
    (p : Sel (ownQ f T k (.slice (some ⟨g, 0, none⟩) n c) n L) Γ Γ' := by repeat (first | with_reducible exact Sel.head | apply Sel.tail)) (hw : wants ops β gd = some true := by exact rfl) :
    St ω m ds Γ β (Run P r ops Q (⟨none, .store t x y, ty, pos, af, gd⟩ :: rest)) := by
  refine St.sel p fun a w hh hb => ?_
  obtain ⟨ba, p1, p2, l1, l2, ap, ⟨hl, hq⟩, hr⟩ := id hh
  have hh2 : Holds ω (own (.slice (some ⟨g, 0, none⟩) n c) T k n (L.flatMap f) :: Γ') w := ⟨ba, p1, p2, l1, l2, ap, hq, hr⟩
  refine St.own_open (fun h _ _ => by cases h) (fun g' c' tail hg h2 h3 h4 h5 => ?_) a w hh2 hb
  cases hg
  have hle : (i + 1) * k ≤ n * k := Nat.mul_le_mul_right _ (by omega)
  rw [Nat.zero_add] at hx
  refine run_store_any (u := .agg (f z).toArray) hw hx hy .head hT (by simpa [Value.cells] using hk z) (by simpa [Value.cells] using h1 z) (by rw [List.length_append, h5]; rw [Nat.succ_mul] at hle; omega) ?_
  have e : (Value.agg (f z).toArray).cells.toList = f z := by simp [Value.cells]
  have e2 : setL (L.flatMap f ++ tail) (i * k) (f z) = (L.set i z).flatMap f ++ tail := by
    rw [← flat_set hk z (by omega : i < L.length)]
    unfold setL
    rw [hk, List.take_append_of_le_length (by rw [h5]; rw [Nat.succ_mul] at hle; omega), List.drop_append_of_le_length (by rw [h5]; rw [Nat.succ_mul] at hle; omega)]
    simp
  rw [e, e2]
  refine St.ent (fun h hp => ⟨by rw [List.length_set]; exact hl, pts_own' h2 h3 ?_ ?_ h hp⟩) kk
  · rw [← h4, List.length_append, List.length_append, flat_len hk, flat_len hk, List.length_set]
  · rw [flat_len hk, List.length_set, hl]
end
theorem zeros_rep (z : Array Value) (hz : 0 < z.size) : ∀ n : Nat, ((List.range (n * z.size)).map fun i => z[i % z.size]!) = (List.replicate n z.toList).flatten
  | 0 => by simp
  | n + 1 => by
    rw [List.replicate_succ, List.flatten_cons, ← zeros_rep z hz n, Nat.succ_mul, Nat.add_comm, List.range_add, List.map_append, List.map_map]
    congr 1
    · refine List.ext_getElem (by simp) fun i h1 h2 => ?_
      simp only [List.length_map, List.length_range] at h1
      rw [List.getElem_map, List.getElem_range, Nat.mod_eq_of_lt h1]
      simp [h1]
    · refine List.map_congr_left fun i _ => ?_
      simp
section
variable {P : Program} {ω : Amb} {m : Nat} {ds : List Deferred} {Γ Γ' Γ1 Γ2 Δ : List HP} {β β' : List (Nat × Value)} {r : Option Nat} {ops : Array Oper} {Q : Exit → Act → World → Prop} {rest : List Oper} {K : Act → World → Prop}
variable {ty : TypeId} {pos : String} {af : Array Edge} {gd : Option (Nat × Bool)} {x y : Operand} {v u : Value} {g off k n c : Nat} {T t e : TypeId} {cs vs : List Value} {A : Option Addr} {X F : HP} {w w' : World} {h0 : Part}

/-- A slice that is made. -/
theorem r_mk {d : Nat} {z : Value} {by_ : Nat} {i : Int} (ht : P.underlying t = some (.slice e)) (hE : EI P e z k by_) (n : Nat) (hi : i = n) (h0 : n ≤ 4611686018427387904) (h2 : by_ * n ≤ 281474976710656)
    (kk : ∀ g, St ω m ds (pts g e (List.replicate n z.cells.toList).flatten :: Γ) ((d, .slice (some ⟨g, 0, none⟩) n n) :: β) (Run P r ops Q rest)) (hx : ev β x = some (.int .i64 i) := by exact rfl) (hy : ev β y = some (.int .i64 i) := by exact rfl) (hw : wants ops β gd = some true := by exact rfl) (hd : d < m := by decide) :
    St ω m ds Γ β (Run P r ops Q (⟨some d, .makeSlice t x y, ty, pos, af, gd⟩ :: rest)) := by
  intro a w hh hb
  obtain ⟨ii, hinf, hz, hs, hby, hzs, hpos⟩ := hE
  subst hi
  have hr := run_make (P := P) w t e ii z ht hinf hz .i64 .i64 (n : Int) (n : Int) (by omega) (Int.le_refl _) (by rw [hby]; omega) (by omega)
  have hc : madeCells z.cells (n * ii.size) = (List.replicate n z.cells.toList).flatten.toArray := by
    rw [← zeros_rep z.cells (by omega)]
    apply Array.toList_inj.1
    simp [madeCells, hs, hzs]
  have hex : (execOp a.eval ⟨some d, .makeSlice t x y, ty, pos, af, gd⟩).run P w = .ok (.value (.slice (some ⟨w.heap.size, 0, none⟩) n n)) (w.alloc (.cells (List.replicate n z.cells.toList).flatten.toArray e)) := by
    simp only [execOp, hb.eval hx, hb.eval hy, Sem.run_bind]
    rw [hr]
    simp [hc]
  refine wpListIn_ran (fun f => wd_fn r f) (wanted_of hb hw) ⟨by simp, .inl ⟨_, hex, rfl⟩⟩ (kk w.heap.size _ _ ?_ (hb.put hd _))
  have := hh.alloc (.cells (List.replicate n z.cells.toList).flatten.toArray e)
  simpa [pts] using this
/-- append of a make to nil. -/
theorem r_am {d : Nat} {z : Value} {by_ : Nat} {tn : TypeId} {kn kq : IntKind} {i : Int} (ht : P.underlying t = some (.slice e)) (htn : P.underlying tn = some (.int kn)) (hE : EI P e z k by_) (n : Nat) (hi : i = n) (h0 : 0 < n) (h63 : n ≤ 4611686018427387904) (h48 : n * by_ ≤ 140737488355328)
    (kk : ∀ g c cs, n ≤ c → c ≤ maxLen → cs.length = c * k → St ω m ds (pts g e cs :: Γ) ((d, .slice (some ⟨g, 0, none⟩) n c) :: β) (Run P r ops Q rest)) (hx : ev β x = some (.slice none 0 0) := by exact rfl) (hy : ev β y = some (.int kq i) := by exact rfl) (hw : wants ops β gd = some true := by exact rfl) (hd : d < m := by decide) :
    St ω m ds Γ β (Run P r ops Q (⟨some d, .call { callee := .builtin .append, args := #[x, y], argTypes := #[t, tn] }, ty, pos, af, gd⟩ :: rest)) := by
  intro a w hh hb
  obtain ⟨ii, hinf, hz, hs, hby, hzs, hpos⟩ := hE
  subst hi
  have hr := Go.Lib.run_append_nil_zeros (P := P) w t tn ty e ii z kq kn ht htn hinf hz n h0 (by omega) (by omega) (by rw [hby]; omega)
  have hex := exec_append (P := P) (pos := pos) (af := af) (gd := gd) (d := some d) hb hx hy hr
  have hge := grownCap_ge w n 0 e
  refine wpListIn_ran (fun f => wd_fn r f) (wanted_of hb hw) ⟨by simp, .inl ⟨_, hex, rfl⟩⟩ (kk w.heap.size (grownCap w n 0 e) (Builtin.zeroCells z.cells n ++ Builtin.zeroCells z.cells (grownCap w n 0 e - n)).toList hge (grownCap_le_maxLen w n 0 e (by simp [maxLen]; omega)) (by
    rw [Array.toList_append, List.length_append, Array.length_toList, Array.length_toList, zeroCells_size, zeroCells_size, hzs, ← Nat.add_mul]; congr 1; omega) _ _ ?_ (hb.put hd _))
  have := (hh.drew).alloc (.cells (Builtin.zeroCells z.cells n ++ Builtin.zeroCells z.cells (grownCap w n 0 e - n)) e)
  unfold pts
  rw [Array.toArray_toList]
  exact this
/-- A slice that is cleared. -/
theorem r_clQ {α : Type} {f : α → List Value} {L : List α} {z : Value} {by_ : Nat} (z0 : α) (hk : ∀ x, (f x).length = k) (ht : P.underlying t = some (.slice e)) (hE : EI P e z k by_) (hz0 : f z0 = z.cells.toList) (h1 : (f z0).all (·.oneCell') = true) (kk : St ω m ds (ownQ f T k v n (List.replicate n z0) :: Γ') β (Run P r ops Q rest))
    (hx : ev β x = some v := by exact rfl) (p : Sel (ownQ f T k v n L) Γ Γ' := by repeat (first | with_reducible exact Sel.head | apply Sel.tail)) (hw : wants ops β gd = some true := by exact rfl) :
    St ω m ds Γ β (Run P r ops Q (⟨none, .call { callee := .builtin .clear, args := #[x], argTypes := #[t] }, ty, pos, af, gd⟩ :: rest)) := by
  refine St.sel p fun a w hh hb => ?_
  obtain ⟨ii, hinf, hz, hs, hby, hzs, hpos⟩ := hE
  obtain ⟨ba, p1, p2, l1, l2, ap, ⟨hl, hq⟩, hr⟩ := id hh
  have hh2 : Holds ω (own v T k n (L.flatMap f) :: Γ') w := ⟨ba, p1, p2, l1, l2, ap, hq, hr⟩
  have hzl : (Builtin.zeroCells z.cells n).toList = (List.replicate n z0).flatMap f := by
    have := zeros_rep z.cells (by omega) n
    rw [List.flatMap_replicate, hz0, ← this]
    simp [Builtin.zeroCells]
  have hzn : (List.replicate n z0).length = n := List.length_replicate
  have hlen := flat_len hk (List.replicate n z0)
  rw [hzn] at hlen
  refine St.own_open (m := m) (ds := ds) (β := β) (K := Run P r ops Q (⟨none, .call { callee := .builtin .clear, args := #[x], argTypes := #[t] }, ty, pos, af, gd⟩ :: rest)) (fun hv hn _ => ?_) (fun g c tail hg h2 h3 h4 h5 => ?_) a w hh2 hb
  · clear hh hb
    intro a w hh hb
    subst hv hn
    have hex : (execOp a.eval ⟨none, .call { callee := .builtin .clear, args := #[x], argTypes := #[t] }, ty, pos, af, gd⟩).run P w = .ok (.value (.tuple #[])) w := by
      simp [execOp, resolve, invoke, builtin, hb.eval hx, Builtin.clear_, run_underlying ht]
    exact wpListIn_ran (fun f => wd_fn r f) (wanted_of hb hw) ⟨by simp, .inl ⟨_, hex, rfl⟩⟩ (kk _ _ (hh.own_nil.ent fun h hp => ⟨hzn, by simpa using hp⟩) (hb.put' (fun _ h => by cases h) _))
  · clear hh hb
    intro a w hh hb
    subst hg
    have hblk := hh.ptsAt .head
    have hex : (execOp a.eval ⟨none, .call { callee := .builtin .clear, args := #[x], argTypes := #[t] }, ty, pos, af, gd⟩).run P w = .ok (.value (.tuple #[])) (w.setCells g 0 ((List.replicate n z0).flatMap f)) := by
      rcases Nat.eq_zero_or_pos n with h0 | h0
      · subst h0
        simp [execOp, resolve, invoke, builtin, hb.eval hx, Builtin.clear_, run_underlying ht, World.setCells]
      · have hst := run_storeCells_cells (P := P) g 0 ((List.replicate n z0).flatMap f) 0 w (fun j hj => by
          rw [cell_of_row w g (0 + 0 + j) _ T (0, 0) hblk]
          have : 0 + 0 + j < (L.flatMap f ++ tail).length := by rw [List.length_append]; omega
          rw [List.getElem?_toArray, List.getElem?_eq_getElem this]; rfl) (fun j hj => by simp [World.frozen?, hblk]) (fun u hu => by
          obtain ⟨y, hy, hu⟩ := List.mem_flatMap.1 hu
          rw [List.eq_of_mem_replicate hy] at hu
          exact List.all_eq_true.1 h1 u hu)
        have hn0 : n ≠ 0 := by omega
        rw [← hzl] at hst ⊢
        have hcl : (Builtin.clear_ #[t] ty #[.slice (some ⟨g, 0, none⟩) n c]).run P w = .ok (.tuple #[]) (w.setCells g 0 (Builtin.zeroCells z.cells n).toList) := by
          simp only [Nat.add_zero] at hst
          simp [Builtin.clear_, run_underlying ht, hn0, zeroValue, typeInfo, hinf, hz, hst]
        simp only [execOp, resolve, invoke, builtin, Sem.run_bind, Sem.run_pure, Result.andThen_ok, List.map_toArray, List.map_cons, List.map_nil, hb.eval hx, hcl]
    refine wpListIn_ran (fun f => wd_fn r f) (wanted_of hb hw) ⟨by simp, .inl ⟨_, hex, rfl⟩⟩ (kk _ _ ?_ (hb.put' (fun _ h => by cases h) _))
    have h6 := hh.setCells_ (vs := (List.replicate n z0).flatMap f) (off := 0) (by rw [List.length_append]; omega)
    have e : setL (L.flatMap f ++ tail) 0 ((List.replicate n z0).flatMap f) = (List.replicate n z0).flatMap f ++ tail := by
      unfold setL
      rw [hlen, ← h5, Nat.zero_add, List.take_zero, List.nil_append, List.drop_left]
    rw [e] at h6
    refine h6.ent fun h hp => ⟨hzn, pts_own' h2 h3 (by rw [List.length_append, hlen, ← h5, ← List.length_append]; exact h4) hlen h hp⟩
/-- append to one's own elements. -/
theorem r_apQ {α : Type} {f : α → List Value} {L M : List α} {d : Nat} {z : Value} {by_ q : Nat} (hf : ∀ x, (f x).length = k) (h1 : ∀ x, (f x).all (·.oneCell') = true) (ht : P.underlying t = some (.slice e)) (hE : EI P e z k by_) (hs : Vw X u k q (M.flatMap f)) (hq : M.length = q) (hn : n ≤ 70368744177664) (hm' : q ≤ 70368744177664) (hby : (n + q) * by_ ≤ 140737488355328)
    (kk : ∀ v', (v' = .slice none 0 0 ↔ v = .slice none 0 0 ∧ q = 0) → St ω m ds (ownQ f e k v' (n + q) (L ++ M) :: Γ') ((d, v') :: β) (Run P r ops Q rest)) (p : Sel (ownQ f e k v n L) Γ Γ' := by repeat (first | with_reducible exact Sel.head | apply Sel.tail)) (px : Sel X Γ' Γ1 := by repeat (first | with_reducible exact Sel.head | apply Sel.tail))
    (hx : ev β x = some v := by exact rfl) (hy : ev β y = some u := by exact rfl) (hw : wants ops β gd = some true := by exact rfl) (hd : d < m := by decide) :
    St ω m ds Γ β (Run P r ops Q (⟨some d, .call { callee := .builtin .append, args := #[x, y], argTypes := #[t, t] }, ty, pos, af, gd⟩ :: rest)) := by
  refine St.sel p fun a w hh hb => ?_
  obtain ⟨ba, p1, p2, l1, l2, ap, ⟨hl, ho⟩, hr⟩ := id hh
  have hh2 : Holds ω (own v e k n (L.flatMap f) :: Γ') w := ⟨ba, p1, p2, l1, l2, ap, ho, hr⟩
  refine run_append hw hd ht hE hx hy .head hs (.tail px) (fun c hc => by
    obtain ⟨y, _, hc⟩ := List.mem_flatMap.1 hc
    exact List.all_eq_true.1 (h1 y) c hc) (by simp only [maxLen]; omega) hby (fun v' hv' => ?_) a w hh2 hb
  rw [← List.flatMap_append]
  exact St.ent (fun h hp => ⟨by rw [List.length_append, hl, hq], hp⟩) (kk v' hv')
/-- A slice of none, built. -/
theorem r_bs0 {α : Type} {f : α → List Value} {d : Nat} {z : Value} {by_ : Nat} (ht : P.underlying t = some (.slice e)) (hE : EI P e z k by_) (kk : ∀ g, St ω m ds (ownQ f e k (.slice (some ⟨g, 0, none⟩) 0 0) 0 [] :: Γ) ((d, .slice (some ⟨g, 0, none⟩) 0 0) :: β) (Run P r ops Q rest))
    (hw : wants ops β gd = some true := by exact rfl) (hd : d < m := by decide) : St ω m ds Γ β (Run P r ops Q (⟨some d, .buildSlice t 0 #[], ty, pos, af, gd⟩ :: rest)) := by
  intro a w hh hb
  obtain ⟨ii, hinf, hz, hs, hby, hzs, hpos⟩ := hE
  have hex : (execOp a.eval ⟨some d, .buildSlice t 0 #[], ty, pos, af, gd⟩).run P w = .ok (.value (.slice (some ⟨w.heap.size, 0, none⟩) 0 0)) (w.alloc (.cells #[] e)) := by
    simp [execOp, Instr.buildSlice, run_underlying ht, sizeOf, typeInfo, hinf, Instr.fill, newRow, newObj, show Array.range 0 = #[] from rfl]
    rfl
  refine wpListIn_ran (fun f => wd_fn r f) (wanted_of hb hw) ⟨by simp, .inl ⟨_, hex, rfl⟩⟩ (kk w.heap.size _ _ ?_ (hb.put hd _))
  exact (hh.alloc (.cells #[] e)).ent fun h hp => ⟨rfl, by simp, .inr ⟨_, 0, [], rfl, Nat.le_refl _, by simp [maxLen], by simp, hp⟩⟩
theorem St.nilQ {α : Type} {f : α → List Value} (h : St ω m ds (ownQ f T k (.slice none 0 0) 0 [] :: Γ) β K) : St ω m ds Γ β K := St.own_nil (T := T) (k := k) (St.ent (fun _ hp => ⟨rfl, hp⟩) h)
end
/-- An iterator's contract; it turns what it has from IT0 to IT. -/
def IterX (P : Program) (g : FuncId) (cap : List Value) (IT0 IT : HP) (X : Nat → List Value → Prop) (R : Nat → List Value → HP) (fin : Nat → Prop) (F0 : HP) : Prop :=
  ∀ (ω : Amb) (l : Nat) (J : Nat → HP) (Jx : HP) (w : World), YieldOk P ω l J Jx IT X R → Holds ω [J 0, IT0, F0] w →
    Calls P g (.func (.yield l) #[] #[] :: cap).toArray w fun e w' => (∃ v, e = .returned v) ∧ ((∃ i, fin i ∧ Holds ω [J i, IT, F0] w') ∨ Holds ω [Jx, F0] w')
section
variable {P : Program} {ω : Amb} {n : Nat} {ds : List Deferred} {Γ Γ' Γ1 Δ : List HP} {β β' : List (Nat × Value)} {r : Option Nat} {ops : Array Oper} {Q : Exit → Act → World → Prop} {rest : List Oper} {K : Act → World → Prop}
variable {w w' : World} {g : Nat}
/-- The loop in a function's own frame. -/
theorem do_rangeX {gop : Operand} {ps : List Tmp} {assign body : Code} {gf : FuncId} {cap : List Value} (hg : ev β gop = some (.func (.func gf) #[] cap.toArray)) (hf : hasBody P gf = true)
    (I : Nat → List HP) (Ix : Code → List HP) {IT0 IT : HP} {X : Nat → List Value → Prop} {R : Nat → List Value → HP} {fin : Nat → Prop} (it : ∀ F0, IterX P gf cap IT0 IT X R fin F0) (hp : Pick (IT0 :: I 0) Γ Γ1)
    {α : Sort _} (φ : Nat → List Value → α → Prop) (βa : Nat → List Value → α → List (Nat × Value)) (Γa : Nat → List Value → α → List HP) (hps : ∀ i vs, X i vs → vs.length = ps.length) (hpn : ps.all (fun p => Nat.blt p n) = true)
    (hassign : ∀ l FR i vs, X i vs → hasLoop l FR → St ω n [] (I i ++ [R i vs, IT, FR]) (zipB ps vs β) (Do P (some l) assign (Exit.then (fun a w => ∃ x, φ i vs x ∧ Holds ω (Γa i vs x ++ [FR]) w ∧ Binds n [] (βa i vs x) a) nopost)))
    (hbody : ∀ l FR i vs x, X i vs → φ i vs x → hasLoop l FR → St ω n [] (Γa i vs x ++ [FR]) (βa i vs x) (Do P (some l) body (rndS ω (I (i + 1)) Ix IT FR)))
    (hdone : ∀ D i, fin i → St ω n ({ target := .collected D, args := #[] } :: ds) (blk D (.deferred (some [])) :: (I i ++ IT :: Γ1)) β (Q .normal))
    (hstop : ∀ D c, St ω n ({ target := .collected D, args := #[] } :: ds) (blk D (.deferred (some [])) :: (Ix c ++ Γ1)) β (Do P none c Q)) :
    St ω n ds Γ β (Do P none (.rangeFunc gop ps.toArray assign body) Q) := by
  intro a w hh hb
  refine wpIn_rangeFunc ?_
  intro fn _
  obtain ⟨rec0, hrec⟩ : ∃ rec0 : LoopState → Option Code → Loop, rec0 = fun st pe => { state := st, pending := pe, fn, tmps := a.tmps, params := ps.toArray, assign, body, defers := w.heap.size } := ⟨_, rfl⟩
  obtain ⟨W1, hWe⟩ : ∃ W1, (w.alloc (.deferred (some []))).alloc (.loop (rec0 .ready none)) = W1 := ⟨_, rfl⟩
  have hW1 := (hh.alloc (.deferred (some []))).alloc (.loop (rec0 .ready none))
  rw [World.size_alloc, hWe] at hW1
  have hpk : Holds ω ([IT0] ++ I 0 ++ [Sep Γ1]) w := hh.pick hp
  refine ⟨w.heap.size + 1, [{ target := .collected w.heap.size, args := #[] }], W1, { target := .fn (.func gf) cap.toArray, args := #[.func (.yield (w.heap.size + 1)) #[] #[]] }, W1, gf,
    (.func (.yield (w.heap.size + 1)) #[] #[] :: cap).toArray, W1, ?_, ?_, fun _ _ => trivial, ?_, fun h => absurd h (wd_depth none), ?_⟩
  · rw [← hWe, hrec]; exact run_enterLoop_outer _ _ _ _ _
  · simp only [resolve, rangeCall, hb.eval hg]
    simp [go_sem]
  · have := run_callFunc (P := P) hf (.func (.yield (w.heap.size + 1)) #[] #[] :: cap).toArray W1
    simp [invoke, go_sem, this]
  · have hb' : Binds n [] β ⟨a.tmps, []⟩ := ⟨hb.size, rfl, hb.get⟩
    have hy := loop_round (P := P) (ω := ω) (l := w.heap.size + 1) hrec φ βa Γa hps hpn hb' hassign hbody
    have hst : Holds ω [Sep (blk (w.heap.size + 1) (.loop (rec0 .ready none)) :: I 0), IT0, Sep (blk w.heap.size (.deferred (some [])) :: Γ1)] W1 := by
      have h1 := hW1.perm ((hp.perm.cons (blk w.heap.size (.deferred (some [])))).cons (blk (w.heap.size + 1) (.loop (rec0 .ready none))))
      refine Holds.flat.2 ?_
      have h2 : Holds ω ((blk w.heap.size (.deferred (some [])) :: Γ1) ++ ((blk (w.heap.size + 1) (.loop (rec0 .ready none)) :: I 0) ++ [IT0])) W1 := by
        refine h1.perm ?_
        simp only [List.cons_append]
        refine (List.Perm.swap _ _ _).trans (List.Perm.cons _ ?_)
        have e1 : (blk (w.heap.size + 1) (.loop (rec0 .ready none)) :: IT0 :: (I 0 ++ Γ1)).Perm (Γ1 ++ (blk (w.heap.size + 1) (.loop (rec0 .ready none)) :: (I 0 ++ [IT0]))) := by
          have e2 : (blk (w.heap.size + 1) (.loop (rec0 .ready none)) :: IT0 :: (I 0 ++ Γ1)) = ((blk (w.heap.size + 1) (.loop (rec0 .ready none)) :: IT0 :: I 0) ++ Γ1) := by simp
          rw [e2]
          refine List.perm_append_comm.trans (List.Perm.append_left _ (List.Perm.cons _ ?_))
          exact List.perm_append_comm (l₁ := [IT0])
        exact e1
      have h3 := (Holds.flat.2 h2).perm (List.perm_append_comm (l₁ := [Sep (blk w.heap.size (.deferred (some [])) :: Γ1)]))
      simpa using h3
    refine (calls_in none (it (Sep (blk w.heap.size (.deferred (some [])) :: Γ1)) ω (w.heap.size + 1) _ _ _ hy hst)).mono ?_
    rintro e w2 ⟨⟨v, rfl⟩, hcase⟩
    rcases hcase with ⟨i, hfin, hw2⟩ | hw2
    · have h1 : Holds ω (blk (w.heap.size + 1) (.loop (rec0 .ready none)) :: (I i ++ [IT, Sep (blk w.heap.size (.deferred (some [])) :: Γ1)])) w2 := Holds.flat.1 hw2
      have hend := run_endLoop (P := P) (h1.block .head) (by rw [hrec]; simp)
      refine ⟨none, _, by rw [hend, hrec], ?_⟩
      have h2 : Holds ω (I i ++ [IT, Sep (blk w.heap.size (.deferred (some [])) :: Γ1)]) (w2.putObj (w.heap.size + 1) (.loop { rec0 .ready none with state := .exhausted })) := (h1.putObj).drop
      have h3 : Holds ω ((I i ++ [IT]) ++ (blk w.heap.size (.deferred (some [])) :: Γ1)) (w2.putObj (w.heap.size + 1) (.loop { rec0 .ready none with state := .exhausted })) := Holds.unpick (by simpa using h2)
      refine hdone w.heap.size i hfin _ _ ?_ ⟨hb.size, by simp [hb.defers], hb.get⟩
      have h4 := h3.perm List.perm_middle
      rw [hrec] at h4
      simpa using h4
    · obtain ⟨c, hc⟩ := Sep.ex hw2.2
      have h1 : Holds ω (blk (w.heap.size + 1) (.loop (rec0 .done (some c))) :: (Ix c ++ [Sep (blk w.heap.size (.deferred (some [])) :: Γ1)])) w2 := Holds.flat.1 ⟨hw2.1, hc⟩
      have hend := run_endLoop (P := P) (h1.block .head) (by rw [hrec]; simp)
      refine ⟨some c, _, by rw [hend, hrec], ?_⟩
      have h2 : Holds ω (Ix c ++ [Sep (blk w.heap.size (.deferred (some [])) :: Γ1)]) (w2.putObj (w.heap.size + 1) (.loop { rec0 .done (some c) with state := .exhausted })) := (h1.putObj).drop
      have h3 := Holds.unpick h2
      refine hstop w.heap.size c _ _ ?_ ⟨hb.size, by simp [hb.defers], hb.get⟩
      have h4 := h3.perm List.perm_middle
      rw [hrec] at h4
      simpa using h4
end
end Go.Proofs.Ytgeldfgcicjidaa
