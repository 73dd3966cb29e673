/-
  How arguments read, with the bulk of what they hold: structs, rows, bytes, strings, numbers.
-/
import Derived.Test.YtglcmlicfmmlpaaRows
import Derived.Test.YtglcmlicfmmlpaaArgs
namespace Go.Proofs.Ytglcmlicfmmlpaa
open Go.ChangeShapes Go.WideShapes Go.ChangeAt Go.RowKit Go.Deep

theorem bulk_one {H : Type} (d : DataW H) : 1 ≤ Rows.uptoBulk d := by
  cases d with
  | lit l => cases l <;> simp [Rows.uptoBulk]
  | nil => simp [Rows.uptoBulk]
  | ptr d => simp [Rows.uptoBulk]
  | slice elems spare => simp [Rows.uptoBulk]
  | agg parts => simp [Rows.uptoBulk]
  | iface t d => simp [Rows.uptoBulk]
  | map entries => simp [Rows.uptoBulk]
  | held h => simp [Rows.uptoBulk]
theorem bulk_part {H : Type} {d : DataW H} {l : List (DataW H)} (h : d ∈ l) : Rows.uptoBulk d ≤ Rows.uptoBulkAll l := by
  induction l with
  | nil => cases h
  | cons x r ih =>
    simp only [Rows.uptoBulkAll]
    cases List.mem_cons.1 h with
    | inl e => subst e; omega
    | inr e => have := ih e; omega
theorem bulk_len {H : Type} (l : List (DataW H)) : l.length ≤ Rows.uptoBulkAll l := by
  induction l with
  | nil => simp [Rows.uptoBulkAll]
  | cons x r ih => have := bulk_one x; simp only [Rows.uptoBulkAll, List.length_cons]; omega
section
variable {H : Type} {enc : TypeId × Value → H} {P : Program} {N : Nat}
/-- What a datum holds is within the reach, and of bulk at most N. -/
structure Fit (P : Program) (N : Nat) (t : TypeId) (d : DataW H) : Prop where
  sz : Sized P t d
  bk : Rows.uptoBulk d ≤ N
theorem Fit.elem {t e : TypeId} (ht : P.underlying t = some (.slice e)) {elems spare : List (DataW H)} (h : Fit P N t (.slice elems spare)) {d : DataW H} (hd : d ∈ elems) : Fit P N e d :=
  ⟨h.sz.elem ht hd, by have := h.bk; have := bulk_part hd; simp only [Rows.uptoBulk] at *; omega⟩
theorem Fit.field {t : TypeId} {fs : Array Field} (ht : P.underlying t = some (.struct fs)) {parts : List (DataW H)} (h : Fit P N t (.agg parts)) {j : Nat} {f : Field} {d : DataW H} (hf : fs[j]? = some f) (hd : parts[j]? = some d) : Fit P N f.type d :=
  ⟨h.sz.field ht hf hd, by have := h.bk; have := bulk_part (List.mem_of_getElem? hd); simp only [Rows.uptoBulk] at *; omega⟩
theorem rd2_field {t : TypeId} {fs : Array Field} (ht : P.underlying t = some (.struct fs)) {W : World} {fuel : Nat} {cs : List Value} {x : DataW H × List MemPlace}
    (h : DataW.trod enc P W 0 (fun _ => true) true fuel t cs = some x) (hz : Fit P N t x.1) :
    cs.length = P.cellsOf t ∧ ∀ (i : Nat) (f : Field), fs[i]? = some f → ∃ (y : DataW H × List MemPlace) (n : Nat), DataW.trod enc P W 0 (fun _ => true) true n f.type ((cs.drop f.offset).take (P.cellsOf f.type)) = some y ∧ Fit P N f.type y.1 := by
  obtain ⟨xs, n, _, rfl, hl, hlen, hf⟩ := DataW.trod_struct ht h
  refine ⟨hl, fun i f hi => ?_⟩
  have hlt : i < fs.size := (Array.getElem?_eq_some_iff.1 hi).1
  have g := hf i f hi
  rw [List.getElem?_eq_getElem (by omega)] at g
  exact ⟨_, n, g, hz.field ht hi (by simp [List.getElem?_eq_getElem (show i < xs.length by omega)])⟩
theorem rd2_one {W : World} {cs : List Value} {f : Field} (h : ∃ (y : DataW H × List MemPlace) (n : Nat), DataW.trod enc P W 0 (fun _ => true) true n f.type ((cs.drop f.offset).take (P.cellsOf f.type)) = some y ∧ Fit P N f.type y.1)
    (h1 : P.cellsOf f.type = 1) (hlt : f.offset < cs.length) : ∃ (c : Value) (y : DataW H × List MemPlace) (n : Nat), cs[f.offset]? = some c ∧ DataW.trod enc P W 0 (fun _ => true) true n f.type [c] = some y ∧ Fit P N f.type y.1 := by
  obtain ⟨y, n, g, hz⟩ := h
  rw [h1, take1_drop cs f.offset undef hlt] at g
  exact ⟨_, y, n, by simp [List.getD, List.getElem?_eq_getElem hlt], g, hz⟩
theorem rd2_sub {W : World} {cs : List Value} {f : Field} (h : ∃ (y : DataW H × List MemPlace) (n : Nat), DataW.trod enc P W 0 (fun _ => true) true n f.type ((cs.drop f.offset).take (P.cellsOf f.type)) = some y ∧ Fit P N f.type y.1)
    {T : TypeId} {m : Nat} {sub : List Value} (hT : f.type = T) (h1 : P.cellsOf T = m) (hs : (cs.drop f.offset).take m = sub) : ∃ (y : DataW H × List MemPlace) (n : Nat), DataW.trod enc P W 0 (fun _ => true) true n T sub = some y ∧ Fit P N T y.1 := by
  obtain ⟨y, n, g, hz⟩ := h
  rw [hT, h1, hs] at g
  rw [hT] at hz
  exact ⟨y, n, g, hz⟩
/-- A slice, element by element. -/
theorem rd2_rows {α : Type} {R : α → List Value → Prop} {t e : TypeId} {k : Nat} (ht : P.underlying t = some (.slice e)) (hk : P.cellsOf e = k) (hk0 : 0 < k) {W : World} {fuel : Nat} {cs : List Value} {x : DataW H × List MemPlace}
    (hR : ∀ (n : Nat) (cs' : List Value) (y : DataW H × List MemPlace), DataW.trod enc P W 0 (fun _ => true) true n e cs' = some y → Fit P N e y.1 → ∃ a : α, R a cs')
    (h : DataW.trod enc P W 0 (fun _ => true) true fuel t cs = some x) (hz : Fit P N t x.1) :
    ∃ (v : Value) (l : List α) (ys : List Value), cs = [v] ∧ Sl W (fun b => b < W.heap.size) k v l.length ys ∧ RowsL R l ys ∧ l.length * P.bytesOf e ≤ reachBytes ∧ l.length + 1 ≤ N := by
  rcases open_slice ht h with ⟨rfl, rfl⟩ | ⟨a, len, cap, m, n, D, Pl, rfl, _, hl, hm, hmm, hx, hi⟩
  · exact ⟨_, [], [], rfl, Sl.nil _ _ _, rfl, by simp, by have := hz.bk; simpa [Rows.uptoBulk] using this⟩
  · simp only [if_true] at hmm
    subst hmm
    subst hx
    have hsz := hz.sz.len ht
    simp only [List.length_map, List.length_range] at hsz
    have hbk := hz.bk
    have hbl := bulk_len ((List.range len).map D)
    simp only [Rows.uptoBulk, List.length_map, List.length_range] at hbk hbl
    have hel : ∀ i, i < len → ∃ (a' : α) (c : List Value), R a' c ∧ c.length = k ∧ ∀ j u, c[j]? = some u → W.cell? ((a.add (i * k)).add j) = some u := fun i hil => by
      obtain ⟨cs', hc, htr⟩ := hi i (by omega)
      rw [hk] at hc
      obtain ⟨_, hcl, hat⟩ := World.cells?_some hc
      obtain ⟨a', ha'⟩ := hR _ _ _ htr (hz.elem ht (List.mem_map.2 ⟨i, List.mem_range.2 hil, rfl⟩))
      refine ⟨a', cs', ha', hcl, fun j u hu => ?_⟩
      have hj := (List.getElem?_eq_some_iff.1 hu).1
      rw [hat j (by omega), hu]
    have hall : ∀ q, q ≤ len → ∃ (l : List α) (ys : List Value), l.length = q ∧ ys.length = q * k ∧ RowsL R l ys ∧ ∀ j u, ys[j]? = some u → W.cell? (a.add j) = some u := by
      intro q
      induction q with
      | zero => intro _; exact ⟨[], [], rfl, by simp, rfl, by simp⟩
      | succ q ih =>
        intro hq
        obtain ⟨l, ys, hll, hyl, hrows, hcells⟩ := ih (by omega)
        obtain ⟨a', c, ha', hcl, hcc⟩ := hel q (by omega)
        refine ⟨l ++ [a'], ys ++ c, by simp [hll], by simp [hyl, hcl, Nat.add_mul], hrows.app (RowsL.one ha'), fun j u hu => ?_⟩
        rw [List.getElem?_append] at hu
        split at hu
        · exact hcells j u hu
        · have := hcc (j - ys.length) u hu
          rw [add_of_add] at this
          rw [show q * k + (j - ys.length) = j from by omega] at this
          exact this
    obtain ⟨l, ys, hll, hyl, hrows, hcells⟩ := hall len (Nat.le_refl _)
    subst hll
    refine ⟨_, l, ys, rfl, Sl.mk_of hl hm hyl hk0 (fun hn => ⟨a, rfl, ?_, hcells⟩), hrows, hsz, by omega⟩
    obtain ⟨a', c, _, hcl, hcc⟩ := hel 0 hn
    have := hcc 0 (c[0]'(by omega)) (List.getElem?_eq_getElem (by omega))
    have := World.block_lt_of_cell? W _ this
    simpa [block_of_add] using this
theorem rd2_bytes {t e : TypeId} (ht : P.underlying t = some (.slice e)) (he : P.underlying e = some (.int .u8)) (hk : P.cellsOf e = 1) (hbe : P.bytesOf e = 1) {W : World} {fuel : Nat} {cs : List Value} {x : DataW H × List MemPlace}
    (h : DataW.trod enc P W 0 (fun _ => true) true fuel t cs = some x) (hz : Fit P N t x.1) :
    ∃ (A : Option Addr) (c : Nat) (bs : List UInt8), cs = [.slice A bs.length c] ∧ Bs W (fun b => b < W.heap.size) (.slice A bs.length c) bs ∧ bs.length ≤ 140737488351232 ∧ bs.length + 1 ≤ N := by
  obtain ⟨v, l, ys, rfl, hsl, hrows, hb, hn⟩ := rd2_rows (α := UInt8) (R := fun b c => c = [bcell b]) ht hk (by omega) (fun n cs' y hy _ => by
    obtain ⟨i, rfl, _, hw⟩ := DataW.trod_int he hy
    refine ⟨UInt8.ofNat i.toNat, ?_⟩
    have h01 : 0 ≤ i ∧ i ≤ 255 := by simpa [Lit.wf, IntKind.min, IntKind.max, IntKind.signed, IntKind.bits] using hw
    simp only [bcell]
    congr 2
    simp
    omega) h hz
  have hys : ys = l.map bcell := by
    clear hsl hb hn
    induction l generalizing ys with
    | nil => exact hrows
    | cons b l ih =>
      obtain ⟨c, cs2, rfl, rfl, hr⟩ := hrows
      rw [ih cs2 hr]; rfl
  subst hys
  rw [hbe] at hb
  obtain ⟨A, c, rfl, _⟩ := id hsl
  exact ⟨A, c, l, rfl, hsl, by have : reachBytes = 140737488351232 := rfl; omega, hn⟩
theorem rd2_str {t : TypeId} (ht : P.underlying t = some .string) {W : World} {fuel : Nat} {c : Value} {x : DataW H × List MemPlace} (h : DataW.trod enc P W 0 (fun _ => true) true fuel t [c] = some x) (hz : Fit P N t x.1) :
    ∃ s : List UInt8, c = .string (strOf s) ∧ s.length ≤ 140737488351232 ∧ s.length + 1 ≤ N := by
  obtain ⟨s, e, rfl, _⟩ := DataW.trod_string ht h
  have h1 := hz.sz.str
  have h2 := hz.bk
  simp only [Rows.uptoBulk] at h2
  exact ⟨s.data.toList, by rw [(List.cons.inj e).1], h1, h2⟩
theorem rd2_i64 {t : TypeId} (ht : P.underlying t = some (.int .i64)) {W : World} {fuel : Nat} {c : Value} {x : DataW H × List MemPlace} (h : DataW.trod enc P W 0 (fun _ => true) true fuel t [c] = some x) :
    ∃ n : Int, c = .int .i64 n ∧ (-9223372036854775808 ≤ n ∧ n ≤ 9223372036854775807) := by
  obtain ⟨n, e, _, hw⟩ := DataW.trod_int ht h
  exact ⟨n, (List.cons.inj e).1, by simpa [Lit.wf, IntKind.min, IntKind.max, IntKind.signed, IntKind.bits] using hw⟩
theorem rd2_bool {t : TypeId} (ht : P.underlying t = some .bool) {W : World} {fuel : Nat} {c : Value} {x : DataW H × List MemPlace} (h : DataW.trod enc P W 0 (fun _ => true) true fuel t [c] = some x) :
    ∃ b : Bool, c = .bool b := by
  obtain ⟨n, e, _⟩ := DataW.trod_bool ht h
  exact ⟨n, (List.cons.inj e).1⟩
end
end Go.Proofs.Ytglcmlicfmmlpaa
