/-
  append: to a slice without room, whosever it is; of a string's bytes.
-/
import Derived.Test.YtgeldfgcicjidaaS9
import Derived.Deep.AppendSrc
import Derived.Deep.Upon
namespace Go.Proofs.Ytgeldfgcicjidaa
open Go.RowKit
set_option linter.unusedSimpArgs false
set_option linter.unusedVariables false

theorem cells_agg (l : List Value) : (Value.agg l.toArray).cells.toList = l := rfl
theorem cells_int (k : IntKind) (n : Int) : (Value.int k n).cells.toList = [.int k n] := rfl
theorem cells_bcell (b : UInt8) : (bcell b).cells.toList = [bcell b] := rfl
theorem cells_bool (b : Bool) : (Value.bool b).cells.toList = [.bool b] := rfl
theorem cells_string (b : ByteArray) : (Value.string b).cells.toList = [.string b] := rfl
theorem cells_pointer (b : Option Addr) : (Value.pointer b).cells.toList = [.pointer b] := rfl
theorem cells_slice (b : Option Addr) (n c : Nat) : (Value.slice b n c).cells.toList = [.slice b n c] := rfl
theorem cells_map (b : Option Nat) : (Value.map b).cells.toList = [.map b] := rfl
theorem cells_func (f : Fn) (a c : Array Value) : (Value.func f a c).cells.toList = [.func f a c] := rfl
section
variable {P : Program} {ω : Amb} {m : Nat} {ds : List Deferred} {Γ Γ' Γ1 Γ2 Δ : List HP} {β β' : List (Nat × Value)} {r : Option Nat} {ops : Array Oper} {Q : Exit → Act → World → Prop} {rest : List Oper} {K : Act → World → Prop}
variable {ty : TypeId} {pos : String} {af : Array Edge} {gd : Option (Nat × Bool)} {x y : Operand} {v u : Value} {g off k n c : Nat} {T t e : TypeId} {cs vs : List Value} {A : Option Addr} {X F : HP} {w w' : World} {h0 : Part}

theorem zeroCells_size (z : Array Value) (n : Nat) : (Builtin.zeroCells z n).size = n * z.size := by simp [Builtin.zeroCells]
theorem exec_append {d : Option Nat} {tx : TypeId} {a : Act} {v' : Value} (hb : Binds m ds β a) (hx : ev β x = some v) (hy : ev β y = some u) (h : (Builtin.append_ #[t, tx] ty #[v, u]).run P w = .ok v' w') :
    (execOp a.eval ⟨d, .call { callee := .builtin .append, args := #[x, y], argTypes := #[t, tx] }, ty, pos, af, gd⟩).run P w = .ok (.value v') w' := by
  simp only [execOp, resolve, invoke, builtin, Sem.run_bind, Sem.run_pure, Result.andThen_ok, List.map_toArray, List.map_cons, List.map_nil, hb.eval hx, hb.eval hy, h]
/-- A new row, and nothing else turned. -/
theorem Holds.newRow {cs : List Value} {c : Nat} (hh : Holds ω Γ w) (z : List Value) (h1 : n ≤ c) (h2 : c ≤ maxLen) (hl : cs.length = n * k) (hz : (cs ++ z).length = c * k) : Holds ω (own (.slice (some ⟨w.heap.size, 0, none⟩) n c) e k n cs :: Γ) (w.drew.alloc (.cells (cs ++ z).toArray e)) := by
  have h := (hh.drew).alloc (.cells (cs ++ z).toArray e)
  exact h.ent fun h0 hb => ⟨hl, .inr ⟨_, c, z, rfl, h1, h2, hz, hb⟩⟩
theorem src_of_sl {tx e' : TypeId} (hk : P.underlying tx = some (.slice e')) {G : Nat → Prop} {v : Value} (hs : Sl w G k v n cs) (h1 : ∀ u ∈ cs, u.oneCell' = true) : Src P k tx v n cs w := by
  obtain ⟨A, c, rfl, q1, q2, q3, hA⟩ := hs
  by_cases hn : 0 < n
  · obtain ⟨g, o, rfl, _, _, hr⟩ := hA hn
    exact Src.ofSlice w hk _ n c cs q3 (fun j u hu => by rw [addr_add]; exact hr j u hu) h1
  · obtain rfl : n = 0 := by omega
    obtain rfl : cs = [] := List.eq_nil_of_length_eq_zero (by simpa using q3)
    cases A with
    | none => exact Src.ofNil w hk c
    | some a => exact Src.ofSlice w hk a 0 c [] (by simp) (fun j u hu => by simp at hu) (fun u hu => by cases hu)
theorem firstCells_sl {G : Nat → Prop} {v : Value} (hs : Sl w G k v n cs) : (Builtin.firstCells k n v).run P w.drew = .ok cs.toArray w.drew := by
  obtain ⟨A, c, rfl, q1, q2, q3, hA⟩ := hs
  by_cases hn : 0 < n
  · obtain ⟨g, o, rfl, _, _, hr⟩ := hA hn
    exact run_firstCells_some w.drew k n _ n c cs q3 (fun j u hu => by rw [addr_add]; exact hr j u hu)
  · obtain rfl : n = 0 := by omega
    obtain rfl : cs = [] := List.eq_nil_of_length_eq_zero (by simpa using q3)
    cases A with
    | none => exact run_firstCells_none w.drew k 0 0 c
    | some a => exact run_firstCells_some w.drew k 0 a 0 c [] (by simp) (fun j u hu => by simp at hu)
/-- append where there is no room: a slice that is only read. -/
theorem run_append_new {d : Nat} {z : Value} {by_ q : Nat} {tx : TypeId} {news : List Value} (hw : wants ops β gd = some true) (hd : d < m) (ht : P.underlying t = some (.slice e)) (hE : EI P e z k by_)
    (hx : ev β x = some (.slice A n c)) (hy : ev β y = some u) (hv : Vw X (.slice A n c) k n cs) (p : Sel X Γ Γ1) (hs : ∀ w, Holds ω Γ w → Src P k tx u q news w) (hg : c < n + q) (hby : (n + q) * by_ ≤ 140737488355328) (h63 : n + q ≤ maxLen)
    (kk : ∀ v', St ω m ds (own v' e k (n + q) (cs ++ news) :: Γ) ((d, v') :: β) (Run P r ops Q rest)) :
    St ω m ds Γ β (Run P r ops Q (⟨some d, .call { callee := .builtin .append, args := #[x, y], argTypes := #[t, tx] }, ty, pos, af, gd⟩ :: rest)) := by
  intro a w hh hb
  obtain ⟨i, hi, hz, hsz, hbb, hzs, hpos⟩ := hE
  have hsl := hv.sl p hh
  obtain ⟨_, _, he, hnc, _, hlen, _⟩ := id hsl
  cases he
  have hS := hs w hh
  have hcap := nextslicecap_le hg
  have hcap2 : Builtin.nextslicecap (n + q) c * i.bytes ≤ 281474976710656 := by
    have := Nat.mul_le_mul_right i.bytes hcap
    rw [hbb] at this ⊢
    have e1 : 2 * (n + q) * by_ = 2 * ((n + q) * by_) := Nat.mul_assoc ..
    omega
  have hrun := run_append_grow_src (P := P) (w := w) t tx ty e i z ht hi hz A n c cs (by rw [hsz]; exact firstCells_sl hsl) u q news (by rw [hsz]; exact hS) hg (by simp only [maxLen] at h63; omega) hcap2
  have hex := exec_append (P := P) (pos := pos) (af := af) (gd := gd) (d := some d) hb hx hy hrun
  have hge := grownCap_ge w (n + q) c e
  have hmax := grownCap_le_maxLen w (n + q) c e h63
  have hnl := hS.newsLen
  have hlz : (cs ++ news).length = (n + q) * k := by rw [List.length_append, hlen, hnl, Nat.add_mul]
  have hnew := hh.newRow (e := e) (k := k) (n := n + q) (cs := cs ++ news) (Builtin.zeroCells z.cells (grownCap w (n + q) c e - (n + q))).toList hge hmax hlz (by
    rw [List.length_append, hlz, Array.length_toList, zeroCells_size, hzs, ← Nat.add_mul]
    congr 1; omega)
  refine wpListIn_ran (fun f => wd_fn r f) (wanted_of hb hw) ⟨by simp, .inl ⟨_, hex, rfl⟩⟩ (kk _ _ _ ?_ (hb.put hd _))
  have : ((cs ++ news).toArray ++ Builtin.zeroCells z.cells (grownCap w (n + q) c e - (n + q))) = (cs ++ news ++ (Builtin.zeroCells z.cells (grownCap w (n + q) c e - (n + q))).toList).toArray := by
    apply Array.toList_inj.1; simp
  rw [this]
  exact hnew
/-- append to one's own, out of whatever source. -/
theorem run_append_src {d : Nat} {z : Value} {by_ q : Nat} {tx : TypeId} {news : List Value} (hw : wants ops β gd = some true) (hd : d < m) (ht : P.underlying t = some (.slice e)) (hE : EI P e z k by_)
    (hx : ev β x = some v) (hy : ev β y = some u) (p : Sel (own v e k n cs) Γ Γ') (hs : ∀ w, Holds ω Γ w → Src P k tx u q news w) (hby : (n + q) * by_ ≤ 140737488355328) (h63 : n + q ≤ maxLen)
    (kk : ∀ v', (v' = .slice none 0 0 ↔ v = .slice none 0 0 ∧ q = 0) → St ω m ds (own v' e k (n + q) (cs ++ news) :: Γ') ((d, v') :: β) (Run P r ops Q rest)) :
    St ω m ds Γ β (Run P r ops Q (⟨some d, .call { callee := .builtin .append, args := #[x, y], argTypes := #[t, tx] }, ty, pos, af, gd⟩ :: rest)) := by
  intro a w hh hb
  have hS := hs w hh
  have hnl := hS.newsLen
  obtain ⟨h0, l0, ho⟩ := hh.get p
  obtain ⟨hlen, hcase⟩ := id ho
  have hrow := own_row ho l0
  rcases hcase with ⟨rfl, rfl⟩ | ⟨g, c, tail, rfl, h1, h2, h3, h4⟩
  · obtain rfl : cs = [] := List.eq_nil_of_length_eq_zero (by simpa using hlen)
    by_cases hq : q = 0
    · subst hq
      obtain rfl : news = [] := List.eq_nil_of_length_eq_zero (by simpa using hnl)
      obtain ⟨i, hi, hz, hsz, hbb, hzs, hpos⟩ := hE
      have hrun := run_append_nothing (P := P) w t tx ty e i ht hi none 0 0 (Nat.le_refl _) u (by rw [hsz]; exact hS)
      have hex := exec_append (P := P) (pos := pos) (af := af) (gd := gd) (d := some d) hb hx hy hrun
      exact wpListIn_ran (fun f => wd_fn r f) (wanted_of hb hw) ⟨by simp, .inl ⟨_, hex, rfl⟩⟩ (kk (.slice none 0 0) (by simp) _ _ (by simpa using hh.sel p) (hb.put hd _))
    · have hh' := hh.sel p
      refine run_append_new (Γ := Γ) (X := own (.slice none 0 0) e k 0 []) (P := P) (k := k) (c := 0) (cs := []) hw hd ht hE hx hy vw_own p hs (by omega) hby h63 (fun v' => ?_) a w hh hb
      intro a' w' hw' hb'
      have hne : v' ≠ .slice none 0 0 := by
        obtain ⟨h', _, ho'⟩ := hw'.get .head
        rintro rfl
        rcases ho'.2 with ⟨_, hz0⟩ | ⟨_, _, _, he, _⟩
        · omega
        · cases he
      refine kk v' ⟨fun h => absurd h hne, fun h => absurd h.2 hq⟩ a' w' ?_ hb'
      have h5 := hw'.perm ((Sel.perm p).cons _)
      exact (h5.swap_).drop
  · by_cases hroom : n + q ≤ c
    · obtain ⟨i, hi, hz, hsz, hbb, hzs, hpos⟩ := hE
      have hblk : w.heap[g]? = some (.cells (cs ++ tail).toArray e (0, 0)) := l0 _ _ h4
      have hle : n * k + news.length ≤ (cs ++ tail).length := by
        rw [h3, hnl, ← Nat.add_mul]; exact Nat.mul_le_mul_right _ hroom
      have hrun := run_append_room_src (P := P) (w := w) t tx ty e i ht hi g 0 n c u q news (by rw [hsz]; exact hS) hroom
        (fun j hj => by
          rw [cell_of_row w g _ _ e (0, 0) hblk, hsz]
          simp only [Nat.zero_add, List.getElem?_toArray]
          rw [List.getElem?_eq_getElem (by omega)]; rfl)
        (fun j hj => by simp [World.frozen?, hblk])
      have hex := exec_append (P := P) (pos := pos) (af := af) (gd := gd) (d := some d) hb hx hy hrun
      refine wpListIn_ran (fun f => wd_fn r f) (wanted_of hb hw) ⟨by simp, .inl ⟨_, hex, rfl⟩⟩ (kk _ (by simp) _ _ ?_ (hb.put hd _))
      have hp : Holds ω (pts g e (cs ++ tail) :: Γ') w := by
        obtain ⟨ba, k1, k2, m1, m2, ap, hpp, hss⟩ := hh.sel p
        refine ⟨ba, k1, k2, m1, m2, ap, ?_, hss⟩
        obtain ⟨_, (⟨hv0, _⟩ | ⟨g', c', tail', hv', _, _, _, h4'⟩)⟩ := hpp
        · cases hv0
        · cases hv'
          have e1 := m1 _ _ h4'
          rw [show Part.of w g = w.heap[g]? from rfl, hblk] at e1
          exact h4'.trans e1.symm
      rw [hsz, Nat.zero_add]
      have hst := hp.setCells_ (vs := news) (off := n * k) hle
      refine hst.ent fun h0 hb0 => ⟨by rw [List.length_append, hlen, hnl, Nat.add_mul], .inr ⟨g, c, tail.drop news.length, rfl, hroom, h2, ?_, ?_⟩⟩
      · have h3' := h3
        rw [List.length_append] at h3'
        rw [List.length_append, List.length_append, List.length_drop]
        rw [List.length_append] at hle
        omega
      · have : setL (cs ++ tail) (n * k) news = cs ++ news ++ tail.drop news.length := by
          simp only [setL]
          rw [← hlen, List.take_left' rfl, List.drop_append]
          simp
        rw [← this]
        exact hb0
    · have hh' := hh.sel p
      refine run_append_new (Γ := Γ) (X := own (.slice (some ⟨g, 0, none⟩) n c) e k n cs) (P := P) (k := k) (c := c) (cs := cs) hw hd ht hE hx hy vw_own p hs (by omega) hby h63 (fun v' => ?_) a w hh hb
      intro a' w' hw' hb'
      have hne : v' ≠ .slice none 0 0 := by
        obtain ⟨h', _, ho'⟩ := hw'.get .head
        rintro rfl
        rcases ho'.2 with ⟨_, hz0⟩ | ⟨_, _, _, he, _⟩
        · omega
        · cases he
      refine kk v' ⟨fun h => absurd h hne, fun h => by cases h.1⟩ a' w' ?_ hb'
      have h5 := hw'.perm ((Sel.perm p).cons _)
      exact (h5.swap_).drop
theorem src_str {tx : TypeId} (ht : P.underlying tx = some .string) (b : List UInt8) (w : World) : Src P 1 tx (.string (strOf b)) b.length (b.map bcell) w := by
  have := Src.ofString (P := P) (w := w) ht (strOf b)
  rwa [strOf_size] at this
/-- A slice cut at its length. -/
theorem rd_slice3 {d : Option Tmp} {l : Nat} {z : Value} {by_ : Nat} {ho mo : Operand} (ht : P.underlying t = some (.slice e)) (hE : EI P e z k by_) (hx : ev β x = some (.slice A l c)) (hhi : ev β ho = some (.int .i64 l)) (hmx : ev β mo = some (.int .i64 l)) (hc : l ≤ c) :
    Reads P ω m ds Γ β ⟨d, .slice t x none (some ho) (some mo), ty, pos, af, gd⟩ (.slice A l l) := fun a w hh hb => by
  obtain ⟨ii, hi', hz, hs, hby, hzs, hpos⟩ := hE
  have hsz : (sizeOf e).run P w = .ok k w := by simp [sizeOf, typeInfo, hi', hs]
  have hb' : (Instr.sliceBounds true l c none (some (a.eval ho)) (some (a.eval mo))).run P w = .ok (0, l, l) w := by
    simp [Instr.sliceBounds, Instr.sliceBound, hb.eval hhi, hb.eval hmx, asIntOf, hc]
  have hA : A.map (fun x => x.add 0) = A := by cases A <;> simp [Addr.add]
  simp [execOp, hb.eval hx, Instr.sliceAt, Instr.slice, run_underlying ht, hb', hsz, hA]
end
end Go.Proofs.Ytgeldfgcicjidaa
