/-
  Memory, step by step: blocks known whole; what lies elsewhere and is only read.
-/
import Derived.Test.YtgeldfgcicjidaaS3
namespace Go.Proofs.Ytgeldfgcicjidaa
open Go.RowKit
set_option linter.unusedSimpArgs false
set_option linter.unusedVariables false

/-- Of a type: how many cells; is it a row of cells (a struct, an array)? -/
def rowOf (P : Program) (t : TypeId) : Option (Nat × Bool) := match P.info? t, P.underlying t with
  | some i, some d => some (i.size, d.isRow)
  | _, _ => none
def zeroOf (P : Program) (t : TypeId) : Option (List Value) := match P.info? t with
  | some i => match i.zero with
    | some z => some z.cells.toList
    | none => none
  | none => none
/-- Of a struct's field: where it lies, and how it is. -/
def fldOf (P : Program) (t : TypeId) (k : Nat) : Option (Nat × Nat × Bool) := match P.underlying t with
  | some (.struct fs) => match fs[k]? with
    | some f => match P.info? f.type, P.underlying f.type with
      | some i, some d => some (f.offset, i.size, d.isRow)
      | _, _ => none
    | none => none
  | _ => none
/-- Some cells of a list, and another list with other ones there. -/
def setL (cs : List Value) (off : Nat) (vs : List Value) : List Value := cs.take off ++ vs ++ cs.drop (off + vs.length)

section
variable {P : Program} {ω : Amb} {n : Nat} {ds : List Deferred} {Γ Γ' Γ1 Δ : List HP} {β β' : List (Nat × Value)} {r : Option Nat} {ops : Array Oper} {Q : Exit → Act → World → Prop} {rest : List Oper} {K : Act → World → Prop}
variable {d : Option Tmp} {ty : TypeId} {pos : String} {af : Array Edge} {gd : Option (Nat × Bool)} {x y : Operand} {v u : Value} {g off k : Nat} {T t : TypeId} {cs vs : List Value}

theorem rowOf_info {b : Bool} (h : rowOf P t = some (k, b)) : (P.info? t).map (·.size) = some k ∧ ∃ D, P.underlying t = some D ∧ D.isRow = b := by
  unfold rowOf at h
  split at h
  · rename_i i D h1 h2
    cases h
    exact ⟨by simp [h1], D, h2, rfl⟩
  · cases h
theorem run_isAgg_no {D : TypeDesc} (h : P.underlying t = some D) (hd : D.isRow = false) (w : World) : (isAgg t).run P w = .ok false w := by
  unfold isAgg
  rw [Sem.run_bind, run_underlying h w]
  cases D <;> simp_all
theorem run_load1 {w : World} (h : w.cell? ⟨g, off, none⟩ = some v) : (Sem.load .plain ⟨g, off, none⟩ .pure).run P w = .ok v w := by
  unfold Sem.run
  simp only [h]
  rfl
theorem run_loadVar1 {w : World} {D : TypeDesc} (hu : P.underlying t = some D) (hd : D.isRow = false) (h : w.cell? ⟨g, off, none⟩ = some v) : (loadVar t ⟨g, off, none⟩).run P w = .ok v w := by
  unfold loadVar
  rw [Sem.run_bind, run_isAgg_no hu hd w]
  exact run_load1 h
/-- Where the parts of a struct lie. -/
def placesOf (P : Program) (t : TypeId) : Option (List (Nat × Nat)) := match P.underlying t with
  | some (.struct fs) => fs.toList.mapM fun f => (P.info? f.type).map fun i => (f.offset, i.size)
  | _ => none
/-- A struct's cells, out of some of its parts. -/
def fillL (pl : List (Nat × Nat)) : List Value → List (Nat × Value) → Option (List Value)
  | zs, [] => some zs
  | zs, (i, v) :: l => match pl[i]? with
    | some (o, k) => match Nat.beq v.cells.toList.length k, Nat.ble (o + k) zs.length with
      | true, true => fillL pl (setL zs o v.cells.toList) l
      | _, _ => none
    | none => none
theorem foldl_setL : ∀ (vs : List Value) (zs : List Value) (o j : Nat), o + j + vs.length ≤ zs.length →
    (vs.zipIdx j).foldl (fun (cs : Array Value) (x : Value × Nat) => cs.setIfInBounds (o + x.2) x.1) zs.toArray = (setL zs (o + j) vs).toArray := by
  intro vs
  induction vs with
  | nil => intro zs o j h; simp [setL]
  | cons u vs ih =>
    intro zs o j h
    simp only [List.length_cons] at h
    simp only [List.zipIdx_cons, List.foldl_cons, List.setIfInBounds_toArray]
    rw [ih _ o (j + 1) (by simp; omega)]
    congr 1
    simp only [setL, List.length_cons]
    have hoff : o + j < zs.length := by omega
    rw [List.drop_set_of_lt (by omega)]
    rw [show o + (j + 1) + vs.length = o + j + (vs.length + 1) by omega, ← Nat.add_assoc o j 1]
    rw [List.take_succ_eq_append_getElem (by simpa using hoff)]
    rw [List.take_set_of_le (Nat.le_refl _)]
    simp
theorem fill_of {places : Array (Nat × Nat)} : ∀ (l : List (Nat × Value)) (zs vs : List Value), fillL places.toList zs l = some vs → Instr.fill (places[·]?) zs.toArray l = some vs.toArray := by
  intro l
  induction l with
  | nil => intro zs vs h; cases h; rfl
  | cons p l ih =>
    obtain ⟨i, v⟩ := p
    intro zs vs h
    unfold fillL at h
    split at h
    · rename_i o k hp
      split at h
      · rename_i hb1 hb2
        have h1 := Nat.eq_of_beq_eq_true hb1
        have h2 := Nat.le_of_ble_eq_true hb2
        have hp' : places[i]? = some (o, k) := by simpa using hp
        unfold Instr.fill
        simp only [hp']
        have hs : v.cells.size = k := by simpa using h1
        rw [if_neg (by simp [hs]; omega)]
        rw [← ih _ _ h]
        have := foldl_setL v.cells.toList zs o 0 (by simp [hs]; omega)
        simp only [Nat.add_zero] at this
        rw [← this]
        congr 1
        rw [← Array.foldl_toList, Array.toList_zipIdx]
      · cases h
    · cases h
/-- A struct's cells, out of parts that come in the fields' order. -/
def fillM : List (Nat × Nat) → Nat → Nat → List Value → List (Nat × Value) → Option (List Value)
  | _, _, _, zs, [] => some zs
  | [], _, _, _, _ :: _ => none
  | (o, k) :: pl, j, off, zs, (i, v) :: l => match Nat.beq o off, Nat.beq i j with
    | true, true => match Nat.beq v.cells.toList.length k, Nat.ble k zs.length with
      | true, true => (fillM pl (j + 1) (off + k) (zs.drop k) l).map (v.cells.toList ++ ·)
      | _, _ => none
    | true, false => match Nat.ble k zs.length with
      | true => (fillM pl (j + 1) (off + k) (zs.drop k) ((i, v) :: l)).map (zs.take k ++ ·)
      | false => none
    | false, _ => none
theorem fillM_L (full : List (Nat × Nat)) : ∀ (pl : List (Nat × Nat)) (j off : Nat) (zs : List Value) (l : List (Nat × Value)) (vs done : List Value), full.drop j = pl → done.length = off → fillM pl j off zs l = some vs → fillL full (done ++ zs) l = some (done ++ vs) := by
  intro pl
  induction pl with
  | nil =>
    intro j off zs l vs done hp hd h
    cases l with
    | nil => simp only [fillM, Option.some.injEq] at h; subst h; rfl
    | cons p l => simp [fillM] at h
  | cons p pl ih =>
    obtain ⟨o, k⟩ := p
    intro j off zs l vs done hp hd h
    cases l with
    | nil => simp only [fillM, Option.some.injEq] at h; subst h; rfl
    | cons q l =>
      obtain ⟨i, v⟩ := q
      have hp1 : full.drop (j + 1) = pl := by rw [← List.drop_drop, hp]; rfl
      have hpj : full[j]? = some (o, k) := by
        have := congrArg (·[0]?) hp
        simpa using this
      unfold fillM at h
      split at h
      · rename_i h1 h2
        have e1 := Nat.eq_of_beq_eq_true h1
        have e2 := Nat.eq_of_beq_eq_true h2
        subst e1 e2
        split at h
        · rename_i h3 h4
          have e3 := Nat.eq_of_beq_eq_true h3
          have e4 := Nat.le_of_ble_eq_true h4
          rw [Option.map_eq_some_iff] at h
          obtain ⟨us, hus, rfl⟩ := h
          have := ih (i + 1) (o + k) (zs.drop k) l us (done ++ v.cells.toList) hp1 (by rw [List.length_append, hd, e3]) hus
          unfold fillL
          rw [hpj]
          dsimp only
          rw [h3, Nat.ble_eq_true_of_le (by rw [List.length_append]; omega : o + k ≤ (done ++ zs).length)]
          dsimp only
          have hs : setL (done ++ zs) o v.cells.toList = done ++ v.cells.toList ++ zs.drop k := by
            unfold setL
            rw [← hd, List.take_left' rfl, e3, List.drop_append]
            simp
          rw [hs, this, List.append_assoc]
        · cases h
      · rename_i h1 h2
        have e1 := Nat.eq_of_beq_eq_true h1
        subst e1
        split at h
        · rename_i h4
          have e4 := Nat.le_of_ble_eq_true h4
          rw [Option.map_eq_some_iff] at h
          obtain ⟨us, hus, rfl⟩ := h
          have := ih (j + 1) (o + k) (zs.drop k) ((i, v) :: l) us (done ++ zs.take k) hp1 (by rw [List.length_append, List.length_take, hd]; omega) hus
          rw [List.append_assoc, List.take_append_drop] at this
          rw [this, List.append_assoc]
        · cases h
      · cases h
/-- These cells lie there. -/
def CellsIn (ω : Amb) (Γ : List HP) (g off : Nat) (vs : List Value) : Prop := ∀ w, Holds ω Γ w → w.rangeAt g off vs
theorem Holds.ptsAt (p : Sel (pts g T cs) Γ Γ') {w : World} (h : Holds ω Γ w) : w.heap[g]? = some (.cells cs.toArray T (0, 0)) := h.block p
theorem cells_pts (p : Sel (pts g T cs) Γ Γ') (h : (cs.drop off).take vs.length = vs) : CellsIn ω Γ g off vs := fun w hw j u hu => by
  rw [cell_of_row w g (off + j) cs.toArray T (0, 0) (hw.ptsAt p)]
  have hj := (List.getElem?_eq_some_iff.1 hu).1
  have e : ((cs.drop off).take vs.length)[j]? = some u := by rw [h]; exact hu
  rw [List.getElem?_take_of_lt hj, List.getElem?_drop] at e
  simpa using e
theorem cells_pts1 (p : Sel (pts g T cs) Γ Γ') (h : cs[off]? = some v) : CellsIn ω Γ g off [v] := fun w hw j u hu => by
  rw [cell_of_row w g (off + j) cs.toArray T (0, 0) (hw.ptsAt p)]
  cases j with
  | zero => simp at hu; subst hu; simpa using h
  | succ j => simp at hu
theorem cells_kept {w0 : World} (p : Sel (kept w0) Γ Γ') (h : w0.rangeAt g off vs) : CellsIn ω Γ g off vs := fun w hw j u hu => by
  have h1 := h j u hu
  have hlt : g < w0.heap.size := World.block_lt_of_cell? w0 _ h1
  have hb : w.heap[g]? = w0.heap[g]? := by
    rw [Array.getElem?_eq_getElem hlt]
    exact hw.kept_block p (Array.getElem?_eq_getElem hlt)
  exact (World.cell?_of_block (w := w0) (w' := w) hb).trans h1
theorem cells_kept1 {w0 : World} (p : Sel (kept w0) Γ Γ') (h : w0.cell? ⟨g, off, none⟩ = some v) : CellsIn ω Γ g off [v] := cells_kept p fun j u hu => by
  cases j with
  | zero => simp at hu; subst hu; exact h
  | succ j => simp at hu
theorem rd_load_row (hx : ev β x = some (.pointer (some ⟨g, off, none⟩))) (hT : rowOf P t = some (k, true)) (hl : vs.length = k) (hc : CellsIn ω Γ g off vs) : Reads P ω n ds Γ β ⟨d, .load t x, ty, pos, af, gd⟩ (.agg vs.toArray) := fun a w hh hb => by
  obtain ⟨hi, D, hu, hd⟩ := rowOf_info hT
  have := run_loadAt_mid (P := P) w g off t vs D (hc w hh) hu hd (by rw [hi, hl])
  simp [execOp, hb.eval hx, this]
theorem rd_load (hx : ev β x = some (.pointer (some ⟨g, off, none⟩))) (hT : rowOf P t = some (k, false)) (hc : CellsIn ω Γ g off [v]) : Reads P ω n ds Γ β ⟨d, .load t x, ty, pos, af, gd⟩ v := fun a w hh hb => by
  obtain ⟨hi, D, hu, hd⟩ := rowOf_info hT
  have h1 : w.cell? ⟨g, off, none⟩ = some v := by simpa using hc w hh 0 v rfl
  simp [execOp, hb.eval hx, Instr.loadAt, Instr.sureAddr, run_loadVar1 hu hd h1]
theorem rd_fieldAddr {i o s : Nat} {b : Bool} (hx : ev β x = some (.pointer (some ⟨g, off, none⟩))) (hf : fldOf P t i = some (o, s + 1, b)) : Reads P ω n ds Γ β ⟨d, .fieldAddr t x i, ty, pos, af, gd⟩ (.pointer (some ⟨g, off + o, none⟩)) := fun a w hh hb => by
  unfold fldOf at hf
  split at hf
  · rename_i fs hu
    split at hf
    · rename_i f hfs
      split at hf
      · rename_i ii D h1 h2
        simp only [Option.some.injEq, Prod.mk.injEq] at hf
        obtain ⟨rfl, hs1, _⟩ := hf
        have hs : (sizeOf f.type).run P w = .ok ii.size w := by simp [sizeOf, typeInfo, h1]
        have hne : ¬ ii.size = 0 := by omega
        simp [execOp, hb.eval hx, Instr.fieldAt, run_underlying hu, hfs, Instr.sureAddr, fieldPlace, hs, hne, addr_add]
      · cases hf
    · cases hf
  · cases hf
theorem rd_fieldAddr0 {i o s : Nat} {b : Bool} (hx : ev β x = some (.pointer (some ⟨g, 0, none⟩))) (hf : fldOf P t i = some (o, s + 1, b)) : Reads P ω n ds Γ β ⟨d, .fieldAddr t x i, ty, pos, af, gd⟩ (.pointer (some ⟨g, o, none⟩)) := by
  have := rd_fieldAddr (ω := ω) (n := n) (ds := ds) (Γ := Γ) (d := d) (ty := ty) (pos := pos) (af := af) (gd := gd) hx hf
  rwa [Nat.zero_add] at this
theorem rd_field_row {i o s : Nat} (hx : ev β x = some (.agg cs.toArray)) (hf : fldOf P t i = some (o, s, true)) (h : (cs.drop o).take s = vs) : Reads P ω n ds Γ β ⟨d, .field t x i, ty, pos, af, gd⟩ (.agg vs.toArray) := fun a w hh hb => by
  unfold fldOf at hf
  split at hf
  · rename_i fs hu
    split at hf
    · rename_i f hfs
      split at hf
      · rename_i ii D h1 h2
        simp only [Option.some.injEq, Prod.mk.injEq] at hf
        obtain ⟨rfl, rfl, hD⟩ := hf
        have hs : (sizeOf f.type).run P w = .ok ii.size w := by simp [sizeOf, typeInfo, h1]
        have hagg : (isAgg f.type).run P w = .ok true w := by
          unfold isAgg
          rw [Sem.run_bind, run_underlying h2 w]
          cases D <;> simp_all
        subst h
        simp [execOp, hb.eval hx, Instr.field, run_underlying hu, hfs, asAgg, part, hs, hagg]
      · cases hf
    · cases hf
  · cases hf
theorem rd_field {i o s : Nat} (hx : ev β x = some (.agg cs.toArray)) (hf : fldOf P t i = some (o, s, false)) (h : cs[o]? = some v) : Reads P ω n ds Γ β ⟨d, .field t x i, ty, pos, af, gd⟩ v := fun a w hh hb => by
  unfold fldOf at hf
  split at hf
  · rename_i fs hu
    split at hf
    · rename_i f hfs
      split at hf
      · rename_i ii D h1 h2
        simp only [Option.some.injEq, Prod.mk.injEq] at hf
        obtain ⟨rfl, rfl, hD⟩ := hf
        have hagg : (isAgg f.type).run P w = .ok false w := run_isAgg_no h2 hD w
        simp [execOp, hb.eval hx, Instr.field, run_underlying hu, hfs, asAgg, part, hagg, h]
      · cases hf
    · cases hf
  · cases hf
theorem rd_build {zs : List Value} {pl : List (Nat × Nat)} {l : List (Nat × Operand)} {us : List Value} (hz : zeroOf P t = some zs) (hp : placesOf P t = some pl) (he : evs β (l.map (·.2)) = some us)
    (hv : fillL pl zs ((l.map (·.1)).zip us) = some vs) : Reads P ω n ds Γ β ⟨d, .build t l.toArray, ty, pos, af, gd⟩ (.agg vs.toArray) := fun a w hh hb => by
  have hm := evs_map hb _ _ he
  have hl : l.map (fun p => (p.1, a.eval p.2)) = (l.map (·.1)).zip us := by
    rw [← hm]
    clear hv hm he
    induction l with
    | nil => rfl
    | cons p l ih => simpa using ih
  unfold placesOf at hp
  split at hp
  · rename_i fs hu
    unfold zeroOf at hz
    split at hz
    · rename_i i hi
      split at hz
      · rename_i z hzz
        cases hz
        have hf := fill_of (places := pl.toArray) _ _ _ (by simpa using hv)
        have hb : P.built t (l.map fun p => (p.1, a.eval p.2)) = some vs.toArray := by
          unfold Program.built
          simp only [hi, hu, hzz, hp, hl]
          simpa using hf
        have hr := run_build (P := P) w t ((l.map fun p => (p.1, a.eval p.2)).toArray) vs.toArray hb
        simp only [execOp, Sem.run_bind, List.map_toArray, hr, Result.andThen_ok, Sem.run_pure]
      · cases hz
    · cases hz
  · cases hp
theorem rd_buildM {zs : List Value} {pl : List (Nat × Nat)} {l : List (Nat × Operand)} {us : List Value} (hz : zeroOf P t = some zs) (hp : placesOf P t = some pl) (he : evs β (l.map (·.2)) = some us)
    (hv : fillM pl 0 0 zs ((l.map (·.1)).zip us) = some vs) : Reads P ω n ds Γ β ⟨d, .build t l.toArray, ty, pos, af, gd⟩ (.agg vs.toArray) :=
  rd_build hz hp he (fillM_L pl pl 0 0 zs _ vs [] rfl rfl hv)
theorem run_alloc {d : Nat} {zs : List Value} (hw : wants ops β gd = some true) (hd : d < n) (hz : zeroOf P t = some zs) (k : ∀ g, St ω n ds (pts g t zs :: Γ) ((d, .pointer (some ⟨g, 0, none⟩)) :: β) (Run P r ops Q rest)) :
    St ω n ds Γ β (Run P r ops Q (⟨some d, .alloc t, ty, pos, af, gd⟩ :: rest)) := by
  intro a w hh hb
  unfold zeroOf at hz
  split at hz
  · rename_i i hi
    split at hz
    · rename_i z hzz
      cases hz
      have hr : (execOp a.eval ⟨some d, .alloc t, ty, pos, af, gd⟩).run P w = .ok (.value (.pointer (some ⟨w.heap.size, 0, none⟩))) (w.alloc (.cells z.cells t)) := by
        simp [execOp, Instr.alloc, zeroValue, typeInfo, hi, hzz, newVar, newRow, newObj]; rfl
      refine wpListIn_ran (fun f => wd_fn r f) (wanted_of hb hw) ⟨by simp, .inl ⟨_, hr, rfl⟩⟩ (k w.heap.size _ _ ?_ (hb.put hd _))
      have := hh.alloc (.cells z.cells t)
      simpa [pts] using this
    · cases hz
  · cases hz
theorem run_box {d : Nat} (hw : wants ops β gd = some true) (hd : d < n) (hx : ev β x = some v) (k : ∀ g, St ω n ds (pts g t v.cells.toList :: Γ) ((d, .pointer (some ⟨g, 0, none⟩)) :: β) (Run P r ops Q rest)) :
    St ω n ds Γ β (Run P r ops Q (⟨some d, .box t x, ty, pos, af, gd⟩ :: rest)) := by
  intro a w hh hb
  have hr : (execOp a.eval ⟨some d, .box t x, ty, pos, af, gd⟩).run P w = .ok (.value (.pointer (some ⟨w.heap.size, 0, none⟩))) (w.alloc (.cells v.cells t)) := by
    simp [execOp, hb.eval hx, Instr.box, newVar, newRow, newObj]; rfl
  refine wpListIn_ran (fun f => wd_fn r f) (wanted_of hb hw) ⟨by simp, .inl ⟨_, hr, rfl⟩⟩ (k w.heap.size _ _ ?_ (hb.put hd _))
  have := hh.alloc (.cells v.cells t)
  simpa [pts] using this
theorem run_box_row {d : Nat} (hw : wants ops β gd = some true) (hd : d < n) (hx : ev β x = some (.agg vs.toArray)) (k : ∀ g, St ω n ds (pts g t vs :: Γ) ((d, .pointer (some ⟨g, 0, none⟩)) :: β) (Run P r ops Q rest)) :
    St ω n ds Γ β (Run P r ops Q (⟨some d, .box t x, ty, pos, af, gd⟩ :: rest)) := run_box hw hd hx (by simpa [Value.cells] using k)
theorem run_box_one {d : Nat} (hw : wants ops β gd = some true) (hd : d < n) (hx : ev β x = some v) (h1 : v.oneCell' = true) (k : ∀ g, St ω n ds (pts g t [v] :: Γ) ((d, .pointer (some ⟨g, 0, none⟩)) :: β) (Run P r ops Q rest)) :
    St ω n ds Γ β (Run P r ops Q (⟨some d, .box t x, ty, pos, af, gd⟩ :: rest)) := by
  have hc : v.cells.toList = [v] := by cases v <;> simp_all [Value.cells, Value.oneCell']
  exact run_box hw hd hx (by rw [hc]; exact k)
theorem setCells_heap_same : ∀ (vs : List Value) (off : Nat) (w : World) (cs : List Value) (T : TypeId), w.heap[g]? = some (.cells cs.toArray T (0, 0)) → off + vs.length ≤ cs.length →
    (w.setCells g off vs).heap[g]? = some (.cells (setL cs off vs).toArray T (0, 0)) := by
  intro vs
  induction vs with
  | nil => intro off w cs T h hle; simp [World.setCells, setL, h]
  | cons u vs ih =>
    intro off w cs T h hle
    simp only [List.length_cons] at hle
    rw [World.setCells]
    have h1 : (w.setCell ⟨g, off, none⟩ u).heap[g]? = some (.cells (cs.set off u).toArray T (0, 0)) := by
      have := Blk.set_ (w := w) (g := g) (t := T) (cs := cs.toArray) h off u
      simpa [Blk] using this
    rw [ih (off + 1) _ _ _ h1 (by simp; omega)]
    congr 3
    simp only [setL, List.length_cons]
    have hoff : off < cs.length := by omega
    rw [List.drop_set_of_lt (by omega)]
    rw [show off + 1 + vs.length = off + (vs.length + 1) by omega]
    rw [List.take_succ_eq_append_getElem (by simpa using hoff)]
    rw [List.take_set_of_le (Nat.le_refl _)]
    simp
theorem setCells_heap_other : ∀ (vs : List Value) (off : Nat) (w : World) (b : Nat), b ≠ g → (w.setCells g off vs).heap[b]? = w.heap[b]? := by
  intro vs
  induction vs with
  | nil => intro off w b h; rfl
  | cons u vs ih =>
    intro off w b h
    rw [World.setCells, ih _ _ _ h]
    exact hp_set w g off none u b h
theorem setCells_amb : ∀ (vs : List Value) (off : Nat) (w : World), World.amb (w.setCells g off vs) = World.amb w := by
  intro vs
  induction vs with
  | nil => intro off w; rfl
  | cons u vs ih => intro off w; rw [World.setCells, ih]; rfl
theorem Holds.setCells_ {w : World} (h : Holds ω (pts g T cs :: Γ) w) (hle : off + vs.length ≤ cs.length) : Holds ω (pts g T (setL cs off vs) :: Γ) (w.setCells g off vs) :=
  h.turn (setCells_amb vs off w) (setCells_heap_same vs off w cs T (h.ptsAt .head) hle) (fun x hx _ => setCells_heap_other vs off w x hx)
theorem run_store_any {b : Bool} (hw : wants ops β gd = some true) (hx : ev β x = some (.pointer (some ⟨g, off, none⟩))) (hy : ev β y = some u) (p : Sel (pts g T cs) Γ Γ') (hT : rowOf P t = some (k, b)) (hk : u.cells.toList.length = k)
    (h1 : u.cells.toList.all (·.oneCell') = true) (hle : off + k ≤ cs.length) (kk : St ω n ds (pts g T (setL cs off u.cells.toList) :: Γ') β (Run P r ops Q rest)) :
    St ω n ds Γ β (Run P r ops Q (⟨none, .store t x y, ty, pos, af, gd⟩ :: rest)) := by
  intro a w hh hb
  have hsz := (rowOf_info hT).1
  have hq := hh.ptsAt p
  have hthere : w.there g off u.cells.size := fun j hj => by
    refine ⟨?_, ?_⟩
    · rw [cell_of_row w g (off + j) cs.toArray T (0, 0) hq]
      have : off + j < cs.length := by simp at hk; omega
      simp [List.getElem?_eq_getElem this]
    · simp [World.frozen?, hq]
  have hst : (storeVar t ⟨g, off, none⟩ u).run P w = .ok () (w.setCells g off u.cells.toList) := by
    have hq1 := run_storeVar_mid (P := P) w g off t u.cells hthere (by rw [hsz]; simp at hk; rw [hk]) (by simpa using h1)
    have : (storeVar t ⟨g, off, none⟩ u) = (storeVar t ⟨g, off, none⟩ (.agg u.cells)) := rfl
    rw [this]
    exact hq1
  have hr : (execOp a.eval ⟨none, .store t x y, ty, pos, af, gd⟩).run P w = .ok .skip (w.setCells g off u.cells.toList) := by
    simp [execOp, hb.eval hx, hb.eval hy, Instr.storeAt, Instr.sureAddr, hst]
  refine wpListIn_ran (fun f => wd_fn r f) (wanted_of hb hw) ⟨by simp, .inr ⟨hr, rfl⟩⟩ (kk _ _ ?_ hb)
  exact (hh.sel p).setCells_ (by rw [hk]; exact hle)
theorem setL_one (cs : List Value) (off : Nat) (h : off < cs.length) : setL cs off [u] = cs.set off u := by
  simp [setL, List.set_eq_take_append_cons_drop, h]
theorem setL_all (cs vs : List Value) (h : vs.length = cs.length) : setL cs 0 vs = vs := by simp [setL, h]
/-- A store of one cell. -/
theorem run_store {b : Bool} (hw : wants ops β gd = some true) (hx : ev β x = some (.pointer (some ⟨g, off, none⟩))) (hy : ev β y = some u) (p : Sel (pts g T cs) Γ Γ') (hT : rowOf P t = some (1, b)) (h1 : u.oneCell' = true) (hle : Nat.ble (off + 1) cs.length = true)
    {cs' : List Value} (hs : cs.set off u = cs') (kk : St ω n ds (pts g T cs' :: Γ') β (Run P r ops Q rest)) :
    St ω n ds Γ β (Run P r ops Q (⟨none, .store t x y, ty, pos, af, gd⟩ :: rest)) := by
  have hc : u.cells.toList = [u] := by cases u <;> simp_all [Value.cells, Value.oneCell']
  have hle' := Nat.le_of_ble_eq_true hle
  refine run_store_any hw hx hy p hT (by rw [hc]; rfl) (by rw [hc]; simpa using h1) hle' ?_
  rw [hc, setL_one _ _ hle', hs]
  exact kk
/-- A store into a whole block. -/
theorem run_store_all {b : Bool} (hw : wants ops β gd = some true) (hx : ev β x = some (.pointer (some ⟨g, 0, none⟩))) (hy : ev β y = some (.agg vs.toArray)) (p : Sel (pts g T cs) Γ Γ') (hT : rowOf P t = some (k, b)) (hk : vs.length = k)
    (h1 : vs.all (·.oneCell') = true) (hle : cs.length = k) (kk : St ω n ds (pts g T vs :: Γ') β (Run P r ops Q rest)) :
    St ω n ds Γ β (Run P r ops Q (⟨none, .store t x y, ty, pos, af, gd⟩ :: rest)) := by
  refine run_store_any hw hx hy p hT (by simpa [Value.cells] using hk) (by simpa [Value.cells] using h1) (by omega) ?_
  have : (Value.agg vs.toArray).cells.toList = vs := by simp [Value.cells]
  rw [this, setL_all _ _ (by omega)]
  exact kk
/-- A store of several cells within a block. -/
theorem run_store_mid {b : Bool} (hw : wants ops β gd = some true) (hx : ev β x = some (.pointer (some ⟨g, off, none⟩))) (hy : ev β y = some (.agg vs.toArray)) (p : Sel (pts g T cs) Γ Γ') (hT : rowOf P t = some (k, b)) (hk : vs.length = k)
    (h1 : vs.all (·.oneCell') = true) (hle : Nat.ble (off + k) cs.length = true) {cs' : List Value} (hs : setL cs off vs = cs') (kk : St ω n ds (pts g T cs' :: Γ') β (Run P r ops Q rest)) :
    St ω n ds Γ β (Run P r ops Q (⟨none, .store t x y, ty, pos, af, gd⟩ :: rest)) := by
  refine run_store_any hw hx hy p hT (by simpa [Value.cells] using hk) (by simpa [Value.cells] using h1) (Nat.le_of_ble_eq_true hle) ?_
  have : (Value.agg vs.toArray).cells.toList = vs := by simp [Value.cells]
  rw [this, hs]
  exact kk
theorem res_cell_row {p : Tmp} (h : look β p = some (.pointer (some ⟨g, off, none⟩))) (hT : rowOf P t = some (k, true)) (hl : vs.length = k) (hc : CellsIn ω Γ g off vs) : ResAt P ω n ds Γ β (.cell p t) (.agg vs.toArray) := fun a w hh hb => by
  have := hb.get _ _ h
  obtain ⟨hi, D, hu, hd⟩ := rowOf_info hT
  exact ⟨⟨g, off, none⟩, by simp [this], run_loadVar_mid (P := P) w g off t vs D (hc w hh) hu hd (by rw [hi, hl])⟩
theorem res_cell {p : Tmp} (h : look β p = some (.pointer (some ⟨g, off, none⟩))) (hT : rowOf P t = some (k, false)) (hc : CellsIn ω Γ g off [v]) : ResAt P ω n ds Γ β (.cell p t) v := fun a w hh hb => by
  have := hb.get _ _ h
  obtain ⟨hi, D, hu, hd⟩ := rowOf_info hT
  have h1 : w.cell? ⟨g, off, none⟩ = some v := by simpa using hc w hh 0 v rfl
  exact ⟨⟨g, off, none⟩, by simp [this], run_loadVar1 hu hd h1⟩
end
end Go.Proofs.Ytgeldfgcicjidaa
