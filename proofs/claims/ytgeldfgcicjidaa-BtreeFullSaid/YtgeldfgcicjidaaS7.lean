/-
  Slices of one's own: built, appended to; bytes and strings.
-/
import Derived.Test.YtgeldfgcicjidaaS6
namespace Go.Proofs.Ytgeldfgcicjidaa
open Go.RowKit
set_option linter.unusedSimpArgs false
set_option linter.unusedVariables false

section
variable {P : Program} {ω : Amb} {m : Nat} {ds : List Deferred} {Γ Γ' Γ1 Δ : List HP} {β β' : List (Nat × Value)} {r : Option Nat} {ops : Array Oper} {Q : Exit → Act → World → Prop} {rest : List Oper} {K : Act → World → Prop}
variable {ty : TypeId} {pos : String} {af : Array Edge} {gd : Option (Nat × Bool)} {x y : Operand} {v u : Value} {g off k n c : Nat} {T t e : TypeId} {cs vs : List Value} {A : Option Addr} {X F : HP} {w w' : World} {h0 : Part}

theorem own_row (h : own v T k n cs h0) (l : Part.le h0 (Part.of w)) : w.ownsRow 0 T k v n cs := by
  obtain ⟨hl, (⟨rfl, rfl⟩ | ⟨g, c, tail, rfl, h1, h2, h3, h4⟩)⟩ := h
  · exact ⟨hl, .inl ⟨rfl, rfl⟩⟩
  · exact ⟨hl, .inr ⟨g, c, _, rfl, Nat.zero_le _, l _ _ h4, h1, h2, by simpa using h3, by simp [← hl]⟩⟩
theorem own_of_row (h : w.ownsRow 0 T k v n cs) (h0 : Part) (hg : ∀ g, v.ownBlock = some g → h0 g = w.heap[g]?) : own v T k n cs h0 := by
  obtain ⟨hl, (⟨rfl, rfl⟩ | ⟨g, c, cur, rfl, _, h1, h2, h3, h4, h5⟩)⟩ := h
  · exact ⟨hl, .inl ⟨rfl, rfl⟩⟩
  · have e : cur.toList = cs ++ cur.toList.drop (n * k) := by
      conv => lhs; rw [← List.take_append_drop (n * k) cur.toList]
      rw [h5]
    refine ⟨hl, .inr ⟨g, c, cur.toList.drop (n * k), rfl, h2, h3, ?_, ?_⟩⟩
    · rw [← e]; simpa using h4
    · rw [← e, hg g rfl, h1]
/-- One's own slice turned: its block, or a new one. -/
theorem Holds.row {v' : Value} {n' : Nat} {cs' : List Value} (b : Holds ω (own v T k n cs :: Γ) w) (hr : w'.ownsRow 0 T k v' n' cs') (hg : w.grownBy w' v.ownBlock) (hv : v'.ownBlock = v.ownBlock ∨ v'.ownBlock = some w.heap.size) : Holds ω (own v' T k n' cs' :: Γ) w' := by
  obtain ⟨ba, h1, h2, l1, l2, ap, hp, hs⟩ := b
  have hne : ∀ x o, h2 x = some o → v.ownBlock ≠ some x := fun x o e hx => by
    obtain ⟨_, (⟨rfl, _⟩ | ⟨g, c, tail, rfl, _, _, _, h4⟩)⟩ := hp
    · cases hx
    · cases hx
      rcases ap g with e' | e'
      · rw [h4] at e'; cases e'
      · rw [e] at e'; cases e'
  refine ⟨?_, fun x => if v'.ownBlock = some x then w'.heap[x]? else none, h2, fun x o e => ?_, fun x o e => ?_, fun x => ?_, own_of_row hr _ (fun g e => by simp [e]), hs⟩
  · rw [← ba]; simp [World.amb, hg.os, hg.tape, hg.output]
  · dsimp only at e
    split at e
    · exact e
    · cases e
  · have h3 := l2 x o e
    exact (hg.block x (heap_lt h3) (fun h => hne x o e h.symm)).trans h3
  · cases hx : h2 x with
    | none => exact .inr rfl
    | some o =>
      left
      dsimp only
      rw [if_neg]
      intro h
      rcases hv with hv | hv
      · exact hne x o hx (hv ▸ h)
      · rw [hv] at h
        have := heap_lt (l2 x o hx)
        cases h
        omega
theorem run_append {d : Nat} {z : Value} {by_ : Nat} {news : List Value} {q : Nat} (hw : wants ops β gd = some true) (hd : d < m) (ht : P.underlying t = some (.slice e)) (hE : EI P e z k by_)
    (hx : ev β x = some v) (hy : ev β y = some u) (p : Sel (own v e k n cs) Γ Γ') (hs : Vw X u k q news) (px : Sel X Γ Γ1) (h1 : ∀ c ∈ news, c.oneCell' = true) (h63 : n + q ≤ maxLen) (hby : (n + q) * by_ ≤ 140737488355328)
    (kk : ∀ v', (v' = .slice none 0 0 ↔ v = .slice none 0 0 ∧ q = 0) → St ω m ds (own v' e k (n + q) (cs ++ news) :: Γ') ((d, v') :: β) (Run P r ops Q rest)) :
    St ω m ds Γ β (Run P r ops Q (⟨some d, .call { callee := .builtin .append, args := #[x, y], argTypes := #[t, t] }, ty, pos, af, gd⟩ :: rest)) := by
  intro a w hh hb
  obtain ⟨h0, l0, ho⟩ := hh.get p
  obtain ⟨v', w', hran, hrow, hgr, hnil, hv⟩ := ran_append_sl (P := P) (o := ⟨some d, .call { callee := .builtin .append, args := #[x, y], argTypes := #[t, t] }, ty, pos, af, gd⟩) (a := a) (w := w) rfl 0 ht hE v n cs (hb.eval hx) (own_row ho l0) (fun _ => True) u q news (hb.eval hy) (hs.sl px hh) h1 h63 hby (Nat.zero_le _)
  refine wpListIn_ran (fun f => wd_fn r f) (wanted_of hb hw) hran (kk v' hnil _ _ ?_ (hb.put hd v'))
  exact (hh.sel p).row hrow hgr hv
/-- Is the slice still nil? -/
theorem own_nil : own (.slice none 0 0) T k 0 [] h0 := ⟨by simp, .inl ⟨rfl, rfl⟩⟩
theorem Holds.own_nil (c : Holds ω Γ w) : Holds ω (own (.slice none 0 0) T k 0 [] :: Γ) w := ⟨c.1, fun _ => none, Part.of w, fun _ _ e => (by cases e), Part.le_refl _, fun _ => .inl rfl, Go.Proofs.Ytgeldfgcicjidaa.own_nil, c.2⟩
theorem St.own_nil (h : St ω m ds (own (.slice none 0 0) T k 0 [] :: Γ) β K) : St ω m ds Γ β K := fun a w b c => by
  refine h a w ⟨b.1, fun _ => none, Part.of w, fun _ _ e => (by cases e), Part.le_refl _, fun _ => .inl rfl, Go.Proofs.Ytgeldfgcicjidaa.own_nil, b.2⟩ c
/-- A block known whole is a slice of one's own. -/
theorem pts_own (h1 : n ≤ c) (h2 : c ≤ maxLen) (h3 : cs.length = c * k) : pts g T cs h0 → own (.slice (some ⟨g, 0, none⟩) n c) T k n (cs.take (n * k)) h0 := fun hh => by
  have hle : n * k ≤ c * k := Nat.mul_le_mul_right _ h1
  exact ⟨by rw [List.length_take, h3]; exact Nat.min_eq_left hle, .inr ⟨g, c, cs.drop (n * k), rfl, h1, h2, by rw [List.take_append_drop]; exact h3, by rw [List.take_append_drop]; exact hh⟩⟩
theorem St.pts_own (h1 : n ≤ maxLen) (h3 : cs.length = n * k) (h : St ω m ds (own (.slice (some ⟨g, 0, none⟩) n n) T k n cs :: Γ) β K) : St ω m ds (pts g T cs :: Γ) β K :=
  St.ent (fun h0 hh => by have := Go.Proofs.Ytgeldfgcicjidaa.pts_own (Nat.le_refl n) h1 h3 hh; rwa [List.take_of_length_le (by omega)] at this) h
-- a slice that is built
def joinL : List Value → List Value
  | [] => []
  | v :: l => v.cells.toList ++ joinL l
theorem zeros_fill {z : Array Value} (hz : 0 < z.size) : ∀ (us : List Value) (i : Nat) (done : List Value) (restn : Nat), (∀ u ∈ us, u.cells.size = z.size) → done.length = i * z.size →
    Instr.fill (fun i => some (i * z.size, z.size)) (done ++ (List.range (us.length * z.size)).map (fun j => z[j % z.size]!)).toArray (us.zipIdx i |>.map fun p => (p.2, p.1)) = some (done ++ joinL us).toArray := by
  intro us
  induction us with
  | nil => intro i done _ _ _; simp [Instr.fill, joinL]
  | cons u us ih =>
    intro i done rn hu hd
    have hus : u.cells.size = z.size := hu u (List.mem_cons_self ..)
    simp only [List.zipIdx_cons, List.map_cons, Instr.fill]
    rw [if_neg]
    · have hlen : i * z.size + 0 + u.cells.toList.length ≤ (done ++ (List.range ((u :: us).length * z.size)).map (fun j => z[j % z.size]!)).length := by
        simp [hd, hus, Nat.add_mul]
      have hf := foldl_setL u.cells.toList (done ++ (List.range ((u :: us).length * z.size)).map (fun j => z[j % z.size]!)) (i * z.size) 0 hlen
      have hq : (u.cells.zipIdx.foldl (fun (cs : Array Value) (x : Value × Nat) => cs.setIfInBounds (i * z.size + x.2) x.1) (done ++ (List.range ((u :: us).length * z.size)).map (fun j => z[j % z.size]!)).toArray) = (done ++ u.cells.toList ++ (List.range (us.length * z.size)).map (fun j => z[j % z.size]!)).toArray := by
        rw [← Array.foldl_toList, Array.toList_zipIdx]
        rw [hf]
        congr 1
        simp only [setL, Nat.add_zero]
        rw [show i * z.size = done.length from hd.symm]
        rw [List.take_left' rfl]
        congr 1
        rw [List.drop_append]
        simp only [Nat.add_sub_cancel_left, Array.length_toList, hus]
        rw [List.drop_eq_nil_of_le (by omega), List.nil_append]
        rw [show (u :: us).length * z.size = z.size + us.length * z.size by simp [Nat.add_mul, Nat.add_comm]]
        rw [List.range_add, List.map_append, List.drop_left' (by simp), List.map_map]
        apply List.map_congr_left
        intro j _
        simp
      rw [show (fun cs (x : Value × Nat) => match x with | (c, j) => cs.setIfInBounds (i * z.size + j) c) = (fun (cs : Array Value) (x : Value × Nat) => cs.setIfInBounds (i * z.size + x.2) x.1) from rfl, hq]
      have := ih (i + 1) (done ++ u.cells.toList) rn (fun v hv => hu v (List.mem_cons_of_mem _ hv)) (by simp [hd, hus, Nat.add_mul])
      simpa [joinL] using this
    · simp [hd, hus, Nat.add_mul]
theorem run_buildSlice {d : Nat} {z : Value} {by_ : Nat} {l : List Operand} {us : List Value} (hw : wants ops β gd = some true) (hd : d < m) (ht : P.underlying t = some (.slice e)) (hE : EI P e z k by_) (he : evs β l = some us)
    (hk : (us.all fun u => Nat.beq u.cells.size k) = true) (hn : 0 < l.length) (hs : l.length * k ≤ 2 ^ 24)
    (kk : ∀ b, St ω m ds (pts b e (joinL us) :: Γ) ((d, .slice (some ⟨b, 0, none⟩) l.length l.length) :: β) (Run P r ops Q rest)) :
    St ω m ds Γ β (Run P r ops Q (⟨some d, .buildSlice t l.length (l.zipIdx.map fun p => (p.2, p.1)).toArray, ty, pos, af, gd⟩ :: rest)) := by
  intro a w hh hb
  obtain ⟨ii, hi, hz, hsz, hby, hzs, hpos⟩ := hE
  have hm := evs_map hb l us he
  have hlu : us.length = l.length := by rw [← hm]; simp
  have hsize : (sizeOf e).run P w = .ok k w := by simp [sizeOf, typeInfo, hi, hsz]
  have hzero : (zeroValue e).run P w = .ok z w := by simp [zeroValue, typeInfo, hi, hz]
  have hparts : (l.zipIdx.map fun p => (p.2, a.eval p.1)) = (us.zipIdx 0 |>.map fun p => (p.2, p.1)) := by
    rw [← hm, List.zipIdx_map, List.map_map]
    rfl
  have hfill := zeros_fill (z := z.cells) (by omega) us 0 [] 0 (fun u hu => by
    have := List.all_eq_true.1 hk u hu
    rw [hzs]; exact Nat.eq_of_beq_eq_true this) (by simp)
  simp only [List.nil_append, hzs, hlu] at hfill
  have hne : ¬ l.length * k = 0 := by
    have := Nat.mul_pos hn hpos; omega
  have hr : (Instr.buildSlice t l.length ((l.zipIdx.map fun p => (p.2, a.eval p.1)).toArray)).run P w = .ok (.slice (some ⟨w.heap.size, 0, none⟩) l.length l.length) (w.alloc (.cells (joinL us).toArray e)) := by
    unfold Instr.buildSlice
    simp only [Sem.run_bind, run_underlying ht, Result.andThen_ok]
    simp only [Sem.run_bind, hsize, Result.andThen_ok]
    rw [if_neg (by omega), if_neg hne]
    simp only [Sem.run_bind, Sem.run_pure, hzero, Result.andThen_ok, hparts]
    have : (Array.map (fun x => z.cells[x % z.cells.size]!) (Array.range (l.length * k))) = ((List.range (l.length * k)).map (fun j => z.cells[j % k]!)).toArray := by
      apply Array.toList_inj.1
      simp [hzs]
    rw [this, hfill]
    simp [newRow, newObj]
    rfl
  have hexec : (execOp a.eval ⟨some d, .buildSlice t l.length (l.zipIdx.map fun p => (p.2, p.1)).toArray, ty, pos, af, gd⟩).run P w = .ok (.value (.slice (some ⟨w.heap.size, 0, none⟩) l.length l.length)) (w.alloc (.cells (joinL us).toArray e)) := by
    simp only [execOp, Sem.run_bind, List.map_toArray, List.map_map]
    have : (List.map ((fun (x : Nat × Operand) => (x.1, a.eval x.2)) ∘ fun (p : Operand × Nat) => (p.2, p.1)) l.zipIdx) = (l.zipIdx.map fun p => (p.2, a.eval p.1)) := rfl
    have h2 := hr
    rw [← this] at h2
    simp only [h2, Result.andThen_ok, Sem.run_pure]
  refine wpListIn_ran (fun f => wd_fn r f) (wanted_of hb hw) ⟨by simp, .inl ⟨_, hexec, rfl⟩⟩ (kk w.heap.size _ _ ?_ (hb.put hd _))
  have := hh.alloc (.cells (joinL us).toArray e)
  simpa [pts] using this
-- bytes and strings
theorem rd_bytes_string {d : Option Tmp} {src dst : TypeId} {bs : List UInt8} (h1 : P.underlying src = some (.slice e)) (h2 : P.underlying e = some (.int .u8)) (h3 : P.underlying dst = some .string) (hx : ev β x = some v) (hs : Vw X v 1 bs.length (bs.map bcell)) (p : Sel X Γ Γ') :
    Reads P ω m ds Γ β ⟨d, .convert src dst x, ty, pos, af, gd⟩ (.string (strOf bs)) := fun a w hh hb => by
  have := run_convert_bs (P := P) (show Bs w (fun _ => True) v bs from hs.sl p hh) src dst e h1 h2 h3
  simp [execOp, hb.eval hx, this]
theorem str_eq (a b : List UInt8) : ((strOf a).toList == (strOf b).toList) = decide (a = b) := by
  rw [ByteArray.toList_mk, ByteArray.toList_mk, Bool.eq_iff_iff]; simp
theorem rd_str_eql {d : Option Tmp} {t t' : TypeId} {a b : List UInt8} (hx : ev β x = some (.string (strOf a))) (hy : ev β y = some (.string (strOf b))) : Reads P ω m ds Γ β ⟨d, .binOp .eql t x y t', ty, pos, af, gd⟩ (.bool (decide (a = b))) := fun _ w hh hb => by
  simp [execOp, hb.eval hx, hb.eval hy, eqGuard, binOp, Op.stringOp]
  have := str_eq a b
  simpa using this
theorem rd_str_neq {d : Option Tmp} {t t' : TypeId} {a b : List UInt8} (hx : ev β x = some (.string (strOf a))) (hy : ev β y = some (.string (strOf b))) : Reads P ω m ds Γ β ⟨d, .binOp .neq t x y t', ty, pos, af, gd⟩ (.bool (decide (a ≠ b))) := fun _ w hh hb => by
  simp [execOp, hb.eval hx, hb.eval hy, eqGuard, binOp, Op.stringOp]
  have := str_eq a b
  simp at this
  rw [this]
end
end Go.Proofs.Ytgeldfgcicjidaa
