/-
  More laws of single operations: copies, arrays, complements, the greatest of two.
-/
import Derived.Test.YtgeldfgcicjidaaS13
namespace Go.Proofs.Ytgeldfgcicjidaa
open Go.RowKit

section
variable {P : Program} {ω : Amb} {m : Nat} {ds : List Deferred} {Γ Γ' Γ1 Γ2 Δ : List HP} {β β' : List (Nat × Value)} {r : Option Nat} {ops : Array Oper} {Q : Exit → Act → World → Prop} {rest : List Oper} {K : Act → World → Prop}
variable {d : Option Tmp} {ty : TypeId} {pos : String} {af : Array Edge} {gd : Option (Nat × Bool)} {x y : Operand} {v u : Value} {g off k n c : Nat} {T t e : TypeId} {cs vs : List Value} {A : Option Addr} {X F : HP} {w w' : World}
theorem rd_com {kk : IntKind} {i : Int} (hx : ev β x = some (.int kk i)) : Reads P ω m ds Γ β ⟨d, .unOp .xor t x, ty, pos, af, gd⟩ (.int kk (kk.wrap (BitVec.ofInt kk.bits (if kk.signed then -1 else kk.max) ^^^ BitVec.ofInt kk.bits i).toNat)) := fun a w hh hb => by
  simp [execOp, hb.eval hx, Op.unary, Op.intBits]
theorem rd_max {kk : IntKind} {i j : Int} {tys : Array TypeId} (hx : ev β x = some (.int kk i)) (hy : ev β y = some (.int kk j)) : Reads P ω m ds Γ β ⟨d, .call { callee := .builtin .max, args := #[x, y], argTypes := tys }, ty, pos, af, gd⟩ (.int kk (max i j)) := fun a w hh hb => by
  simp only [execOp, resolve, invoke, builtin, Sem.run_bind, Sem.run_pure, Result.andThen_ok, List.map_toArray, List.map_cons, List.map_nil, hb.eval hx, hb.eval hy, Builtin.max_, List.foldlM_cons, List.foldlM_nil, Builtin.max2]
  congr 3
  omega
theorem rd_min {kk : IntKind} {i j : Int} {tys : Array TypeId} (hx : ev β x = some (.int kk i)) (hy : ev β y = some (.int kk j)) : Reads P ω m ds Γ β ⟨d, .call { callee := .builtin .min, args := #[x, y], argTypes := tys }, ty, pos, af, gd⟩ (.int kk (min i j)) := fun a w hh hb => by
  simp only [execOp, resolve, invoke, builtin, Sem.run_bind, Sem.run_pure, Result.andThen_ok, List.map_toArray, List.map_cons, List.map_nil, hb.eval hx, hb.eval hy, Builtin.min_, List.foldlM_cons, List.foldlM_nil, Builtin.min2]
  congr 3
  omega
/-- An array as a slice. -/
theorem rd_arr {l by_ : Nat} {z : Value} (ht : P.underlying t = some (.array l e)) (hE : EI P e z k by_) (hx : ev β x = some (.pointer (some ⟨g, off, none⟩))) :
    Reads P ω m ds Γ β ⟨d, .slice t x none none none, ty, pos, af, gd⟩ (.slice (some ⟨g, off, none⟩) l l) := fun a w hh hb => by
  obtain ⟨ii, hi', hz, hs, hby, hzs, hpos⟩ := hE
  have hsz : (sizeOf e).run P w = .ok k w := by simp [sizeOf, typeInfo, hi', hs]
  simp [execOp, hb.eval hx, Instr.sliceAt, run_underlying ht, Instr.sureAddr, Instr.sliceBounds, hsz, addr_add]
theorem rd_arrTo {l by_ : Nat} {z : Value} {j : Nat} (ht : P.underlying t = some (.array l e)) (hE : EI P e z k by_) (hx : ev β x = some (.pointer (some ⟨g, off, none⟩))) (hy : ev β y = some (.int .i64 j)) (hj : j ≤ l) :
    Reads P ω m ds Γ β ⟨d, .slice t x none (some y) none, ty, pos, af, gd⟩ (.slice (some ⟨g, off, none⟩) j l) := fun a w hh hb => by
  obtain ⟨ii, hi', hz, hs, hby, hzs, hpos⟩ := hE
  have hsz : (sizeOf e).run P w = .ok k w := by simp [sizeOf, typeInfo, hi', hs]
  simp [execOp, hb.eval hx, hb.eval hy, Instr.sliceAt, run_underlying ht, Instr.sureAddr, Instr.sliceBounds, Instr.sliceBound, asIntOf, hsz, addr_add, hj]
theorem rd_arrIx {l by_ : Nat} {z : Value} {i : Nat} (ht : P.underlying t = some (.array l e)) (hE : EI P e z k by_) (hx : ev β x = some (.pointer (some ⟨g, off, none⟩))) (hy : ev β y = some (.int .i64 i)) (hi : i < l) :
    Reads P ω m ds Γ β ⟨d, .indexAddr t x y, ty, pos, af, gd⟩ (.pointer (some ⟨g, off + i * k, none⟩)) := fun a w hh hb => by
  obtain ⟨ii, hi', hz, hs, hby, hzs, hpos⟩ := hE
  have hsz : (sizeOf e).run P w = .ok k w := by simp [sizeOf, typeInfo, hi', hs]
  simp [execOp, hb.eval hx, hb.eval hy, Instr.indexAt, Instr.sureAddr, asIntOf, run_underlying ht, hi, hsz, addr_add]
/-- A slice cut at a place that is its capacity, too. -/
theorem rd_slice3' {z : Value} {by_ l : Nat} {i j : Nat} {lo ho mo : Operand} (ht : P.underlying t = some (.slice e)) (hE : EI P e z k by_) (hx : ev β x = some (.slice A l c)) (hlo : ev β lo = some (.int .i64 i)) (hhi : ev β ho = some (.int .i64 j)) (hmx : ev β mo = some (.int .i64 j)) (hij : i ≤ j) (hc : j ≤ c) :
    Reads P ω m ds Γ β ⟨d, .slice t x (some lo) (some ho) (some mo), ty, pos, af, gd⟩ (.slice (subA A j i k) (j - i) (j - i)) := fun a w hh hb => by
  obtain ⟨ii, hi', hz, hs, hby, hzs, hpos⟩ := hE
  have hsz : (sizeOf e).run P w = .ok k w := by simp [sizeOf, typeInfo, hi', hs]
  simp [execOp, hb.eval hx, hb.eval hlo, hb.eval hhi, hb.eval hmx, Instr.sliceAt, Instr.slice, run_underlying ht, Instr.sliceBounds, Instr.sliceBound, asIntOf, hsz, hc, hij, subA]
/-- What copy takes: q elements of u. -/
def Cp (P : Program) (ω : Amb) (Γ : List HP) (k : Nat) (u : Value) (dl q : Nat) (news : List Value) : Prop :=
  ∀ w, Holds ω Γ w → ∃ sl, (Builtin.lenOf u).run P w = .ok sl w ∧ Nat.min sl dl = q ∧ (Builtin.firstCells k q u).run P w = .ok news.toArray w
theorem cp_vw {q dl : Nat} (s : Vw X v k n cs) (p : Sel X Γ Γ') (hq : Nat.min n dl = q) : Cp P ω Γ k v dl q (cs.take (q * k)) := fun w hh => by
  have hqn : q ≤ n := by rw [← hq]; exact Nat.min_le_left _ _
  obtain ⟨A, c, rfl, q1, q2, q3, hA⟩ := s.sl p hh
  refine ⟨n, rfl, hq, ?_⟩
  have hl : (cs.take (q * k)).length = q * k := by
    rw [List.length_take, q3]; exact Nat.min_eq_left (Nat.mul_le_mul_right _ hqn)
  by_cases hn : 0 < q
  · obtain ⟨g, o, rfl, _, _, hr⟩ := hA (by omega)
    exact run_firstCells_some w k q _ n c _ hl (fun j u hu => by
      have hj := (List.getElem?_eq_some_iff.1 hu).1
      rw [hl] at hj
      rw [List.getElem?_take_of_lt hj] at hu
      rw [addr_add]; exact hr j u hu)
  · obtain rfl : q = 0 := by omega
    have h0 : cs.take (0 * k) = [] := by simp
    rw [h0]
    cases A with
    | none => exact run_firstCells_none w k 0 n c
    | some a => exact run_firstCells_some w k 0 a n c [] (by simp) (fun j u hu => by simp at hu)
theorem cp_all {dl : Nat} (s : Vw X v k n cs) (p : Sel X Γ Γ') (hq : n ≤ dl) (hl : cs.length = n * k) : Cp P ω Γ k v dl n cs := by
  have := cp_vw (P := P) (ω := ω) s p (q := n) (dl := dl) (Nat.min_eq_left hq)
  rwa [← hl, List.take_length] at this
/-- copy into a block. -/
theorem r_cp {d : Nat} {z : Value} {by_ dl dc : Nat} {tx : TypeId} {cs' : List Value} (q : Nat) (news : List Value) (ht : P.underlying t = some (.slice e)) (hE : EI P e z k by_) (hs : Cp P ω Γ k u dl q news) (hn : news.length = q * k) (hle : off + news.length ≤ cs.length) (h1 : news.all (·.oneCell') = true) (he : setL cs off news = cs')
    (kk : St ω m ds (pts g T cs' :: Γ') ((d, .int .i64 q) :: β) (Run P r ops Q rest)) (hx : ev β x = some (.slice (some ⟨g, off, none⟩) dl dc) := by exact rfl) (hy : ev β y = some u := by exact rfl)
    (p : Sel (pts g T cs) Γ Γ' := by repeat (first | with_reducible exact Sel.head | apply Sel.tail)) (hw : wants ops β gd = some true := by exact rfl) (hd : d < m := by decide) :
    St ω m ds Γ β (Run P r ops Q (⟨some d, .call { callee := .builtin .copy, args := #[x, y], argTypes := #[t, tx] }, ty, pos, af, gd⟩ :: rest)) := by
  intro a w hh hb
  obtain ⟨ii, hi', hz, hs', hby, hzs, hpos⟩ := hE
  have hsz : (sizeOf e).run P w = .ok k w := by simp [sizeOf, typeInfo, hi', hs']
  obtain ⟨sl, e1, e2, e3⟩ := hs w hh
  have hq := hh.ptsAt p
  have hst := run_storeCells_cells (P := P) g off news 0 w (fun j hj => by
    rw [Nat.add_zero, cell_of_row w g (off + j) cs.toArray T (0, 0) hq]
    have : off + j < cs.length := by omega
    simp [List.getElem?_eq_getElem this]) (fun j hj => by simp [World.frozen?, hq]) (fun v hv => List.all_eq_true.1 h1 v hv)
  have hr : (execOp a.eval ⟨some d, .call { callee := .builtin .copy, args := #[x, y], argTypes := #[t, tx] }, ty, pos, af, gd⟩).run P w = .ok (.value (.int .i64 q)) (w.setCells g off news) := by
    simp only [execOp, resolve, invoke, builtin, Sem.run_bind, Sem.run_pure, Result.andThen_ok, List.map_toArray, List.map_cons, List.map_nil, hb.eval hx, hb.eval hy, Builtin.copy_, List.getElem?_toArray, List.getElem?_cons_zero, List.getElem?_cons_succ, run_underlying ht, hsz, e1, e2, e3]
    simp [hst, goInt]
  refine wpListIn_ran (fun f => wd_fn r f) (wanted_of hb hw) ⟨by simp, .inl ⟨_, hr, rfl⟩⟩ (kk _ _ ?_ (hb.put hd _))
  rw [← he]
  exact (hh.sel p).setCells_ hle
/-- copy of nothing. -/
theorem r_cp0 {d : Nat} {z : Value} {by_ dl dc : Nat} {tx : TypeId} (ht : P.underlying t = some (.slice e)) (hE : EI P e z k by_) (hs : Cp P ω Γ k u dl 0 [])
    (kk : St ω m ds Γ ((d, .int .i64 0) :: β) (Run P r ops Q rest)) (hx : ev β x = some (.slice A dl dc) := by exact rfl) (hy : ev β y = some u := by exact rfl) (hw : wants ops β gd = some true := by exact rfl) (hd : d < m := by decide) :
    St ω m ds Γ β (Run P r ops Q (⟨some d, .call { callee := .builtin .copy, args := #[x, y], argTypes := #[t, tx] }, ty, pos, af, gd⟩ :: rest)) := by
  intro a w hh hb
  obtain ⟨ii, hi', hz, hs', hby, hzs, hpos⟩ := hE
  have hsz : (sizeOf e).run P w = .ok k w := by simp [sizeOf, typeInfo, hi', hs']
  obtain ⟨sl, e1, e2, e3⟩ := hs w hh
  have hr : (execOp a.eval ⟨some d, .call { callee := .builtin .copy, args := #[x, y], argTypes := #[t, tx] }, ty, pos, af, gd⟩).run P w = .ok (.value (.int .i64 0)) w := by
    simp only [execOp, resolve, invoke, builtin, Sem.run_bind, Sem.run_pure, Result.andThen_ok, List.map_toArray, List.map_cons, List.map_nil, hb.eval hx, hb.eval hy, Builtin.copy_, List.getElem?_toArray, List.getElem?_cons_zero, List.getElem?_cons_succ, run_underlying ht, hsz, e1, e2, e3]
    cases A <;> simp [storeCells, goInt]
  exact wpListIn_ran (fun f => wd_fn r f) (wanted_of hb hw) ⟨by simp, .inl ⟨_, hr, rfl⟩⟩ (kk _ _ hh (hb.put hd _))
/-- A slice of one element. -/
theorem r_bs1 {α : Type} {f : α → List Value} {d : Nat} {z : Value} {by_ : Nat} (x0 : α) (hf : (f x0).length = k) (ht : P.underlying t = some (.slice e)) (hE : EI P e z k by_) (hk : k ≤ 16777216)
    (kk : ∀ b, St ω m ds (ownQ f e k (.slice (some ⟨b, 0, none⟩) 1 1) 1 [x0] :: Γ) ((d, .slice (some ⟨b, 0, none⟩) 1 1) :: β) (Run P r ops Q rest))
    (he : ev β y = some (.agg (f x0).toArray) := by exact rfl) (hw : wants ops β gd = some true := by exact rfl) (hd : d < m := by decide) :
    St ω m ds Γ β (Run P r ops Q (⟨some d, .buildSlice t 1 #[(0, y)], ty, pos, af, gd⟩ :: rest)) := by
  refine run_buildSlice (l := [y]) (us := [.agg (f x0).toArray]) hw hd ht hE (by simp [evs, he]) (by simp [Value.cells, hf]) (by simp) (by simpa using hk) (fun b => ?_)
  have h0 := kk b
  refine St.pts_own (n := 1) (k := k) (by decide) (by simp [joinL, Value.cells, hf]) (St.ent (fun _ hp => ⟨rfl, ?_⟩) h0)
  simpa [joinL, Value.cells] using hp
/-- One cell of an element. -/
theorem flat_set1 {α : Type} {f : α → List Value} {k : Nat} (hk : ∀ x, (f x).length = k) {l : List α} {i j : Nat} {x x' : α} {u : Value} (hx : l[i]? = some x) (hj : j < k) (hf : f x' = (f x).set j u) : (l.flatMap f).set (i * k + j) u = (l.set i x').flatMap f := by
  have hi := (List.getElem?_eq_some_iff.1 hx).1
  rw [← flat_set hk x' hi, hf]
  have e : l.flatMap f = (l.flatMap f).take (i * k) ++ (f x ++ (l.flatMap f).drop ((i + 1) * k)) := by
    conv => lhs; rw [← List.take_append_drop (i * k) (l.flatMap f)]
    congr 1
    rw [← flat_at hk hx, Nat.succ_mul, ← List.drop_drop, List.take_append_drop]
  have hl : ((l.flatMap f).take (i * k)).length = i * k := by
    rw [List.length_take, flat_len hk]
    have : i * k ≤ l.length * k := Nat.mul_le_mul_right _ (by omega)
    omega
  conv => lhs; rw [e]
  rw [List.set_append_right _ _ (by omega), hl, Nat.add_sub_cancel_left, List.set_append_left _ _ (by rw [hk]; exact hj)]
  unfold setL
  rw [List.length_set, hk, Nat.succ_mul, List.append_assoc]
theorem r_stQ1 {α : Type} {f : α → List Value} {L : List α} {b : Bool} (hk : ∀ x, (f x).length = k) {z z' : α} (i j : Nat) (hz : L[i]? = some z) (hj : j < k) (hf : f z' = (f z).set j u) (hT : rowOf P t = some (1, b)) (h1 : u.oneCell' = true)
    (kk : St ω m ds (ownQ f T k (.slice (some ⟨g, 0, none⟩) n c) n (L.set i z') :: Γ') β (Run P r ops Q rest)) (hx : ev β x = some (.pointer (some ⟨g, 0 + i * k + j, none⟩)) := by exact rfl) (hy : ev β y = some u := by exact rfl)
    (p : Sel (ownQ f T k (.slice (some ⟨g, 0, none⟩) n c) n L) Γ Γ' := by repeat (first | with_reducible exact Sel.head | apply Sel.tail)) (hw : wants ops β gd = some true := by exact rfl) :
    St ω m ds Γ β (Run P r ops Q (⟨none, .store t x y, ty, pos, af, gd⟩ :: rest)) := by
  refine St.sel p fun a w hh hb => ?_
  obtain ⟨ba, p1, p2, l1, l2, ap, ⟨hl, hq⟩, hr⟩ := id hh
  have hi := (List.getElem?_eq_some_iff.1 hz).1
  rw [Nat.zero_add] at hx
  refine run_store_own hw hx hy .head hT h1 (by
    rw [flat_len hk]
    have : (i + 1) * k ≤ L.length * k := Nat.mul_le_mul_right _ (by omega)
    rw [Nat.succ_mul] at this
    omega) ?_ a w ⟨ba, p1, p2, l1, l2, ap, hq, hr⟩ hb
  rw [flat_set1 hk hz hj hf]
  exact St.ent (fun h hp => ⟨by rw [List.length_set]; exact hl, hp⟩) kk
theorem cellQ {α : Type} {f : α → List Value} {L : List α} (hk : ∀ x, (f x).length = k) {i j : Nat} {x : α} (h : L[i]? = some x) (hj : j < k) (hu : (f x)[j]? = some u) (p : Sel (ownQ f T k (.slice (some ⟨g, 0, none⟩) n c) n L) Γ Γ' := by repeat (first | with_reducible exact Sel.head | apply Sel.tail)) : CellsIn ω Γ g (0 + i * k + j) [u] := fun w hh => by
  obtain ⟨_, _, hl, _⟩ := hh.get p
  have hi := (List.getElem?_eq_some_iff.1 h).1
  have := Vw.cells1 (ω := ω) (vw_Q (f := f) (T := T) (k := k) (v := .slice (some ⟨g, 0, none⟩) n c) (n := n) (L := L)) p (by omega) (flat_cell hk h hj hu)
  rw [Nat.add_assoc]
  exact this w hh
end
end Go.Proofs.Ytgeldfgcicjidaa
