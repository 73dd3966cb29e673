/-
  Slices and strings, step by step; equality with nil.
-/
import Derived.Test.YtgeldfgcicjidaaS4
namespace Go.Proofs.Ytgeldfgcicjidaa
open Go.RowKit
set_option linter.unusedSimpArgs false
set_option linter.unusedVariables false

/-- A slice value that reads, in a part, as these cells: n elements of so many cells each. -/
def SlP (h : Part) (v : Value) (k n : Nat) (cs : List Value) : Prop :=
  ∃ A c, v = .slice A n c ∧ n ≤ c ∧ c ≤ maxLen ∧ cs.length = n * k ∧ (0 < n → ∃ g o row T fr, A = some ⟨g, o, none⟩ ∧ h g = some (.cells row T fr) ∧ ∀ j u, cs[j]? = some u → row[o + j]? = some u)
/-- What holds of the part lets the slice be read. -/
def Vw (F : HP) (v : Value) (k n : Nat) (cs : List Value) : Prop := ∀ h, F h → SlP h v k n cs
/-- A slice of one's own: nil, or the head of a block that nobody else has. -/
def own (v : Value) (T : TypeId) (k n : Nat) (cs : List Value) : HP := fun h =>
  cs.length = n * k ∧ ((v = .slice none 0 0 ∧ n = 0) ∨ ∃ g c tail, v = .slice (some ⟨g, 0, none⟩) n c ∧ n ≤ c ∧ c ≤ maxLen ∧ (cs ++ tail).length = c * k ∧ h g = some (.cells (cs ++ tail).toArray T (0, 0)))

section
variable {P : Program} {ω : Amb} {m : Nat} {ds : List Deferred} {Γ Γ' Γ1 Δ : List HP} {β β' : List (Nat × Value)} {r : Option Nat} {ops : Array Oper} {Q : Exit → Act → World → Prop} {rest : List Oper} {K : Act → World → Prop}
variable {d : Option Tmp} {ty : TypeId} {pos : String} {af : Array Edge} {gd : Option (Nat × Bool)} {x y : Operand} {v u : Value} {g off k n c : Nat} {T t e : TypeId} {cs vs : List Value} {A : Option Addr} {X F : HP} {w w' : World}

theorem SlP.mono {h h' : Part} (s : SlP h v k n cs) (l : h.le h') : SlP h' v k n cs := by
  obtain ⟨A, c, rfl, h1, h2, h3, hA⟩ := s
  refine ⟨A, c, rfl, h1, h2, h3, fun hn => ?_⟩
  obtain ⟨g, o, row, T, fr, rfl, hg, hr⟩ := hA hn
  exact ⟨g, o, row, T, fr, rfl, l _ _ hg, hr⟩
theorem SlP.sl {h : Part} (s : SlP h v k n cs) (l : h.le (Part.of w)) : Sl w (fun _ => True) k v n cs := by
  obtain ⟨A, c, rfl, h1, h2, h3, hA⟩ := s
  refine ⟨A, c, rfl, h1, h2, h3, fun hn => ?_⟩
  obtain ⟨g, o, row, T, fr, rfl, hg, hr⟩ := hA hn
  have hw := l _ _ hg
  refine ⟨g, o, rfl, heap_lt hw, trivial, fun j u hu => ?_⟩
  rw [cell_of_row w g (o + j) row T fr hw]
  exact hr j u hu
theorem Vw.len (s : Vw F v k n cs) {h : Part} (hF : F h) : cs.length = n * k := by
  obtain ⟨A, c, rfl, h1, h2, h3, hA⟩ := s h hF
  exact h3
theorem vw_own : Vw (own v T k n cs) v k n cs := fun h hh => by
  obtain ⟨hl, (⟨rfl, rfl⟩ | ⟨g, c, tail, rfl, h1, h2, h3, h4⟩)⟩ := hh
  · exact ⟨none, 0, rfl, Nat.le_refl _, by simp [maxLen], hl, fun h => absurd h (by omega)⟩
  · refine ⟨_, c, rfl, h1, h2, hl, fun _ => ⟨g, 0, _, T, _, rfl, h4, fun j u hu => ?_⟩⟩
    have hj := (List.getElem?_eq_some_iff.1 hu).1
    simp only [Nat.zero_add, List.getElem?_toArray]
    rw [List.getElem?_append_left hj]
    exact hu
theorem vw_kept {G : Nat → Prop} (hk : 0 < k) (s : Sl w G k v n cs) : Vw (kept w) v k n cs := fun h hh => by
  obtain ⟨A, c, rfl, h1, h2, h3, hA⟩ := s
  refine ⟨A, c, rfl, h1, h2, h3, fun hn => ?_⟩
  obtain ⟨g, o, rfl, hlt, hG, hr⟩ := hA hn
  have h0 : 0 < cs.length := by rw [h3]; exact Nat.mul_pos hn hk
  have hc := hr 0 _ (List.getElem?_eq_getElem h0)
  have hgg := Array.getElem?_eq_getElem hlt
  unfold World.cell? at hc
  split at hc
  · rename_i row T fr hb
    refine ⟨g, o, row, T, fr, rfl, hh _ _ hb, fun j u hu => ?_⟩
    have := hr j u hu
    rw [cell_of_row w g (o + j) row T fr hb] at this
    exact this
  · cases hc
theorem vw_nil (F : HP) (T : Nat) : Vw F (.slice none 0 0) T 0 [] := fun _ _ => ⟨none, 0, rfl, Nat.le_refl _, by simp [maxLen], by simp, fun h => absurd h (by omega)⟩
theorem vw_pts (h1 : n ≤ c) (h2 : c ≤ maxLen) (h3 : vs.length = n * k) (h4 : (cs.drop off).take vs.length = vs) : Vw (pts g T cs) (.slice (some ⟨g, off, none⟩) n c) k n vs := fun h hh =>
  ⟨_, c, rfl, h1, h2, h3, fun _ => ⟨g, off, _, T, _, rfl, hh, fun j u hu => by
    have hj := (List.getElem?_eq_some_iff.1 hu).1
    have e : ((cs.drop off).take vs.length)[j]? = some u := by rw [h4]; exact hu
    rw [List.getElem?_take_of_lt hj, List.getElem?_drop] at e
    simpa using e⟩⟩
theorem sep_sel (p : Sel X Γ Γ') {h : Part} (hs : Sep Γ h) : ∃ h1, Part.le h1 h ∧ X h1 := by
  obtain ⟨h1, h2, l1, l2, ap, hx, hr⟩ := Sep.perm p.perm hs
  exact ⟨h1, l1, hx⟩
theorem Vw.sep (s : Vw X v k n cs) (p : Sel X Γ Γ') : Vw (Sep Γ) v k n cs := fun h hh => by
  obtain ⟨h1, l1, hx⟩ := sep_sel p hh
  exact (s h1 hx).mono l1
theorem Vw.sl (s : Vw X v k n cs) (p : Sel X Γ Γ') (hh : Holds ω Γ w) : Sl w (fun _ => True) k v n cs := by
  obtain ⟨h, l, hx⟩ := hh.get p
  exact (s h hx).sl l
theorem Vw.cells (s : Vw X (.slice (some ⟨g, off, none⟩) n c) k n cs) (p : Sel X Γ Γ') {i : Nat} (hn : 0 < n) (h : (cs.drop i).take vs.length = vs) : CellsIn ω Γ g (off + i) vs := fun w hh j u hu => by
  obtain ⟨A, c', he, h1, h2, h3, hA⟩ := s.sl p hh
  obtain ⟨g', o', hA', hlt, _, hr⟩ := hA hn
  cases he
  cases hA'
  have hj := (List.getElem?_eq_some_iff.1 hu).1
  have e : ((cs.drop i).take vs.length)[j]? = some u := by rw [h]; exact hu
  rw [List.getElem?_take_of_lt hj, List.getElem?_drop] at e
  have := hr (i + j) u e
  rwa [← Nat.add_assoc] at this
theorem Vw.cells1 (s : Vw X (.slice (some ⟨g, off, none⟩) n c) k n cs) (p : Sel X Γ Γ') {i : Nat} (hn : 0 < n) (h : cs[i]? = some v) : CellsIn ω Γ g (off + i) [v] :=
  s.cells p hn (by
    have hi := (List.getElem?_eq_some_iff.1 h)
    obtain ⟨hlt, hv⟩ := hi
    rw [List.drop_eq_getElem_cons hlt, hv]
    rfl)
/-- A slice that reads, of one element at least, has an address. -/
theorem St.vw_some (s : Vw X (.slice A n c) k n cs) (p : Sel X Γ Γ') (hn : 0 < n) (h : ∀ g o, A = some ⟨g, o, none⟩ → n ≤ c → c ≤ maxLen → St ω m ds Γ β K) : St ω m ds Γ β K := fun a w hh hb => by
  obtain ⟨A', c', he, h1, h2, h3, hA⟩ := s.sl p hh
  cases he
  obtain ⟨g, o, hA', _⟩ := hA hn
  exact h g o hA' h1 h2 a w hh hb
theorem St.vw (s : Vw X v k n cs) (p : Sel X Γ Γ') (h : ∀ A c, v = .slice A n c → n ≤ c → c ≤ maxLen → cs.length = n * k → St ω m ds Γ β K) : St ω m ds Γ β K := fun a w hh hb => by
  obtain ⟨A', c', he, h1, h2, h3, hA⟩ := s.sl p hh
  exact h A' c' he h1 h2 h3 a w hh hb

-- equality with nil
theorem rd_ptr_eq_nil {t' : TypeId} {q : Option Addr} (ht : P.underlying t = some (.pointer e)) (hx : ev β x = some (.pointer q)) (hy : ev β y = some (.pointer none)) : Reads P ω m ds Γ β ⟨d, .binOp .eql t x y t', ty, pos, af, gd⟩ (.bool q.isNone) := fun a w hh hb => by
  have he : P.pointee t = e := by simp [Program.pointee, ht]
  simp [execOp, hb.eval hx, hb.eval hy, eqGuard, run_eql_pointer_nil w t q (by rw [he]; exact ht)]
theorem rd_ptr_ne_nil {t' : TypeId} {q : Option Addr} (ht : P.underlying t = some (.pointer e)) (hx : ev β x = some (.pointer q)) (hy : ev β y = some (.pointer none)) : Reads P ω m ds Γ β ⟨d, .binOp .neq t x y t', ty, pos, af, gd⟩ (.bool !q.isNone) := fun a w hh hb => by
  have he : P.pointee t = e := by simp [Program.pointee, ht]
  simp [execOp, hb.eval hx, hb.eval hy, eqGuard, run_neq_pointer_nil w t q (by rw [he]; exact ht)]
theorem rd_sl_eq_nil {t' : TypeId} {l c : Nat} (ht : P.underlying t = some (.slice e)) (hx : ev β x = some (.slice A l c)) (hy : ev β y = some (.slice none 0 0)) : Reads P ω m ds Γ β ⟨d, .binOp .eql t x y t', ty, pos, af, gd⟩ (.bool A.isNone) := fun a w hh hb => by
  simp [execOp, hb.eval hx, hb.eval hy, eqGuard, Lib.run_eql_slice_nil (P := P) w t e A l c 0 0 ht]
theorem rd_sl_ne_nil {t' : TypeId} {l c : Nat} (ht : P.underlying t = some (.slice e)) (hx : ev β x = some (.slice A l c)) (hy : ev β y = some (.slice none 0 0)) : Reads P ω m ds Γ β ⟨d, .binOp .neq t x y t', ty, pos, af, gd⟩ (.bool !A.isNone) := fun a w hh hb => by
  simp [execOp, hb.eval hx, hb.eval hy, eqGuard, run_neq_slice_nil (P := P) w t e A l c ht]
theorem run_fn_nil (dd : Nat) {f : Fn} {ca : Array Value} {ps rs : Array TypeId} {vv : Bool} (ht : P.underlying t = some (.func ps rs vv)) (w : World) : (Op.equalIn (dd + 1) t (.func f #[] ca) .nilFunc).run P w = .ok false w := by
  simp [Op.equalIn, run_underlying ht]
theorem rd_fn_ne_nil {t' : TypeId} {f : Fn} {ca : Array Value} {ps rs : Array TypeId} {vv : Bool} (ht : P.underlying t = some (.func ps rs vv)) (hx : ev β x = some (.func f #[] ca)) (hy : ev β y = some .nilFunc) : Reads P ω m ds Γ β ⟨d, .binOp .neq t x y t', ty, pos, af, gd⟩ (.bool true) := fun a w hh hb => by
  have h2 : (Op.equal t (.func f #[] ca) .nilFunc).run P w = .ok false w := run_fn_nil 9999 ht w
  simp [execOp, hb.eval hx, hb.eval hy, eqGuard, binOp, h2]
theorem rd_fn_eq_nil {t' : TypeId} {f : Fn} {ca : Array Value} {ps rs : Array TypeId} {vv : Bool} (ht : P.underlying t = some (.func ps rs vv)) (hx : ev β x = some (.func f #[] ca)) (hy : ev β y = some .nilFunc) : Reads P ω m ds Γ β ⟨d, .binOp .eql t x y t', ty, pos, af, gd⟩ (.bool false) := fun a w hh hb => by
  have h2 : (Op.equal t (.func f #[] ca) .nilFunc).run P w = .ok false w := run_fn_nil 9999 ht w
  simp [execOp, hb.eval hx, hb.eval hy, eqGuard, binOp, h2]
theorem rd_bool_eq {t' : TypeId} {p q : Bool} (ht : P.underlying t = some .bool) (hx : ev β x = some (.bool p)) (hy : ev β y = some (.bool q)) : Reads P ω m ds Γ β ⟨d, .binOp .eql t x y t', ty, pos, af, gd⟩ (.bool (p == q)) := fun a w hh hb => by
  simp [execOp, hb.eval hx, hb.eval hy, eqGuard, run_eql_bool (P := P) w t p q ht]
theorem rd_bool_ne {t' : TypeId} {p q : Bool} (ht : P.underlying t = some .bool) (hx : ev β x = some (.bool p)) (hy : ev β y = some (.bool q)) : Reads P ω m ds Γ β ⟨d, .binOp .neq t x y t', ty, pos, af, gd⟩ (.bool !(p == q)) := fun a w hh hb => by
  simp [execOp, hb.eval hx, hb.eval hy, eqGuard, run_neq_bool (P := P) w t p q ht]
-- len, cap
theorem rd_len {l c : Nat} (ht : P.underlying t = some (.slice e)) (hx : ev β x = some (.slice A l c)) : Reads P ω m ds Γ β ⟨d, .call { callee := .builtin .len, args := #[x], argTypes := #[t] }, ty, pos, af, gd⟩ (.int .i64 l) := fun a w hh hb => by
  simp [execOp, resolve, invoke, builtin, hb.eval hx, Builtin.len_, run_underlying ht, goInt]
theorem rd_cap {l c : Nat} (ht : P.underlying t = some (.slice e)) (hx : ev β x = some (.slice A l c)) : Reads P ω m ds Γ β ⟨d, .call { callee := .builtin .cap, args := #[x], argTypes := #[t] }, ty, pos, af, gd⟩ (.int .i64 c) := fun a w hh hb => by
  simp [execOp, resolve, invoke, builtin, hb.eval hx, Builtin.cap_, run_underlying ht, goInt]
theorem rd_lens {s : ByteArray} (ht : P.underlying t = some .string) (hx : ev β x = some (.string s)) : Reads P ω m ds Γ β ⟨d, .call { callee := .builtin .len, args := #[x], argTypes := #[t] }, ty, pos, af, gd⟩ (.int .i64 s.size) := fun a w hh hb => by
  simp [execOp, resolve, invoke, builtin, hb.eval hx, Builtin.len_, run_underlying ht, goInt]
-- elements
theorem rd_indexAddr {l c : Nat} {i : Int} {z : Value} {by_ : Nat} (ht : P.underlying t = some (.slice e)) (hE : EI P e z k by_) (hx : ev β x = some (.slice (some ⟨g, off, none⟩) l c)) (hy : ev β y = some (.int .i64 i)) (h0 : 0 ≤ i) (h1 : i < l) :
    Reads P ω m ds Γ β ⟨d, .indexAddr t x y, ty, pos, af, gd⟩ (.pointer (some ⟨g, off + i.toNat * k, none⟩)) := fun a w hh hb => by
  obtain ⟨ii, hi, hz, hs, hby, hzs, hpos⟩ := hE
  have hsz : (sizeOf e).run P w = .ok k w := by simp [sizeOf, typeInfo, hi, hs]
  simp [execOp, hb.eval hx, hb.eval hy, Instr.indexAt, asIntOf, run_underlying ht, h0, h1, hsz, addr_add]
/-- The address of part of a slice. -/
def subA (A : Option Addr) (c l k : Nat) : Option Addr := if c = l then A else A.map (·.add (l * k))
/-- Part of a slice. -/
theorem rd_slice {l c : Nat} {i j : Int} {z : Value} {by_ : Nat} (ht : P.underlying t = some (.slice e)) (hE : EI P e z k by_) (hx : ev β x = some (.slice A l c)) {lo hi : Option Operand}
    (hlo : (match lo with | some o => ev β o = some (.int .i64 i) | none => i = 0)) (hhi : (match hi with | some o => ev β o = some (.int .i64 j) | none => j = l)) (h0 : 0 ≤ i) (h1 : i ≤ j) (h2 : j ≤ c) :
    Reads P ω m ds Γ β ⟨d, .slice t x lo hi none, ty, pos, af, gd⟩ (.slice (subA A c i.toNat k) (j.toNat - i.toNat) (c - i.toNat)) := fun a w hh hb => by
  obtain ⟨ii, hi', hz, hs, hby, hzs, hpos⟩ := hE
  have hsz : (sizeOf e).run P w = .ok k w := by simp [sizeOf, typeInfo, hi', hs]
  obtain ⟨jn, rfl⟩ := Int.eq_ofNat_of_zero_le (show 0 ≤ j by omega)
  obtain ⟨iN, rfl⟩ := Int.eq_ofNat_of_zero_le h0
  have h1' : iN ≤ jn := by omega
  have h2' : jn ≤ c := by omega
  have hb' : (Instr.sliceBounds true l c (lo.map a.eval) (hi.map a.eval) none).run P w = .ok (iN, jn, c) w := by
    cases lo with
    | none =>
      cases hi with
      | none => simp at hlo hhi; obtain rfl : jn = l := by omega
                obtain rfl : iN = 0 := by omega
                simp [Instr.sliceBounds]
      | some o' => simp at hlo hhi; obtain rfl : iN = 0 := by omega
                   simp [Instr.sliceBounds, Instr.sliceBound, hb.eval hhi, asIntOf, h2']
    | some o =>
      cases hi with
      | none => simp at hlo hhi; obtain rfl : jn = l := by omega
                simp [Instr.sliceBounds, Instr.sliceBound, hb.eval hlo, asIntOf, h1']
      | some o' => simp at hlo hhi; simp [Instr.sliceBounds, Instr.sliceBound, hb.eval hlo, hb.eval hhi, asIntOf, h1', h2']
  simp only [execOp]
  simp [hb.eval hx, Instr.sliceAt, Instr.slice, run_underlying ht, hb', hsz, subA]
theorem SlP.sub {h : Part} (s : SlP h (.slice A n c) k n cs) {i j : Nat} (hk : 0 < k) (h1 : i ≤ j) (h2 : j ≤ n) : SlP h (.slice (subA A c i k) (j - i) (c - i)) k (j - i) ((cs.drop (i * k)).take ((j - i) * k)) := by
  obtain ⟨A', c', he, q1, q2, q3, hA⟩ := s
  cases he
  refine ⟨_, _, rfl, by omega, by omega, ?_, fun hn => ?_⟩
  · rw [List.length_take, List.length_drop, q3]
    have : (j - i) * k ≤ n * k - i * k := by
      rw [← Nat.sub_mul]; exact Nat.mul_le_mul_right _ (by omega)
    omega
  · obtain ⟨g, o, row, T, fr, rfl, hg, hr⟩ := hA (by omega)
    refine ⟨g, o + i * k, row, T, fr, ?_, hg, fun q u hu => ?_⟩
    · have : ¬ c = i := by omega
      simp [subA, this, addr_add]
    · have hq := (List.getElem?_eq_some_iff.1 hu).1
      rw [List.length_take] at hq
      rw [List.getElem?_take_of_lt (by omega), List.getElem?_drop] at hu
      rw [Nat.add_assoc]
      exact hr _ _ hu
theorem Vw.sub (s : Vw F (.slice A n c) k n cs) {i j : Nat} (hk : 0 < k) (h1 : i ≤ j) (h2 : j ≤ n) : Vw F (.slice (subA A c i k) (j - i) (c - i)) k (j - i) ((cs.drop (i * k)).take ((j - i) * k)) := fun h hh => (s h hh).sub hk h1 h2
end
end Go.Proofs.Ytgeldfgcicjidaa
