/-
  How a law's arguments read, and how its row closes: the law returns true and turns nothing that was there.
-/
import Derived.Test.YtgeldfgcicjidaaBase
import Derived.ProofKit
import Derived.OpenShut
import Derived.SizedLaws
import Derived.Carry
import Derived.Deep.Slices
import Derived.Deep.Fields
import Derived.ChangeSame
import Derived.JoinedOf
namespace Go.Proofs.Ytgeldfgcicjidaa
open Go.ChangeShapes Go.WideShapes Go.ChangeAt Go.RowKit Go.Deep

section
variable {H : Type} {enc : TypeId × Value → H} {P : Program}

theorem trodAll_below (hl : laidOutB P = true) {W W' : World} (hb : Below W.heap.size W W') : ∀ {ts : List TypeId} {vs : List Value} {ds : List (DataW H)} {ps : List MemPlace},
    (∀ t ∈ ts, P.readableRec t = true ∧ t < P.types.size) → DataW.TrodAll enc P W 0 (fun _ => true) true ts vs ds ps → (∀ x ∈ ps, x.block < W.heap.size) →
    DataW.TrodAll enc P W' 0 (fun b => decide (b < W.heap.size)) true ts vs ds ps
  | [], vs, ds, ps, _, h, _ => by
    obtain ⟨rfl, rfl, rfl⟩ := trodAll_nil h
    exact trodAll_mk0
  | t :: ts, vs, ds, ps, hr, h, hlt => by
    obtain ⟨v, vs', d, ds', p, q, rfl, rfl, rfl, h0, r0⟩ := trodAll_cons h
    exact trodAll_cons_mk (Below.trod hl (hr t (by simp)).1 (hr t (by simp)).2 h0 hb (fun x hx => hlt x (by simp [hx])))
      (trodAll_below hl hb (fun t' ht' => hr t' (by simp [ht'])) r0 (fun x hx => hlt x (by simp [hx])))

/-- A law that has returned true, and has turned nothing that was there, meets its row. -/
theorem law_post {f : Func} {s : ChangeSpec} {W W' : World} {args : Array Value} {ds gs : List (DataW H)} {before : List MemPlace} {tb : TypeId}
    (hW : DataW.Whole enc P f.params.toList s.vars false W args.toList ds gs before) (hvars : s.vars = []) (hfn : s.fn H (ds ++ gs) = { results := [.lit (.bool true)], args := ds })
    (hrt : f.resultTypes = #[tb]) (htb : P.underlying tb = some .bool) (hl : laidOutB P = true) (hr : ∀ t ∈ f.params.toList, P.readableRec t = true ∧ t < P.types.size) (hf : Fr nowhere W W') :
    s.post enc P f false true false false W args (.bool true) W' := by
  have hb : Below W.heap.size W W' := hf.below (fun _ _ e => e)
  have hlt : ∀ p ∈ before, p.block < W.heap.size := fun p hp => hW.lt p hp
  obtain ⟨pa, pv, hA, hV, hpp, hfz, hnd⟩ := id hW
  have hV' := hV
  rw [hvars] at hV'
  obtain ⟨rfl, rfl⟩ := trodVars_none hV'
  refine ⟨ds, [], before, [], pa, [], hW, ?_, ?_, ?_, ?_, fun h => by cases h⟩
  · rw [hfn, hrt]
    exact trodAll_cons_mk (shut_bool htb true) trodAll_mk0
  · rw [hfn]
    exact trodAll_below hl hb hr hA (fun x hx => hlt x (by rw [hpp]; simp [hx]))
  · rw [hvars, hfn]
    rfl
  · refine World.keptBut_mono (fun p hp => ⟨hp, ?_⟩) (hb.frame (· ∈ before))
    rw [hpp] at hp
    simp at hp
    exact .inr (.inl hp)

/-- The sizes of a datum's own parts are within the reach. -/
def Sized (P : Program) (t : TypeId) (d : DataW H) : Prop := ∀ n ∈ d.weights P t, n ≤ reachBytes
theorem weights_all {e : TypeId} : ∀ {l : List (DataW H)} {d : DataW H}, d ∈ l → ∀ n ∈ d.weights P e, n ∈ DataW.weightsAll P e l
  | [], _, h => by cases h
  | x :: l, d, h => fun n hn => by
    simp only [DataW.weightsAll, List.mem_append]
    rcases List.mem_cons.1 h with rfl | h
    · exact .inl hn
    · exact .inr (weights_all h n hn)
theorem Sized.elem {t e : TypeId} (ht : P.underlying t = some (.slice e)) {elems spare : List (DataW H)} (h : Sized P t (.slice elems spare)) {d : DataW H} (hd : d ∈ elems) : Sized P e d := fun n hn => by
  refine h n ?_
  simp only [DataW.weights, ht, List.mem_cons, List.mem_append]
  exact .inr (.inl (weights_all hd n hn))
theorem Sized.len {t e : TypeId} (ht : P.underlying t = some (.slice e)) {elems spare : List (DataW H)} (h : Sized P t (.slice elems spare)) : elems.length * P.bytesOf e ≤ reachBytes := by
  have := h ((elems.length + spare.length) * P.bytesOf e) (by simp [DataW.weights, ht])
  rw [Nat.add_mul] at this
  omega
theorem Sized.field {t : TypeId} {fs : Array Field} (ht : P.underlying t = some (.struct fs)) {parts : List (DataW H)} (h : Sized P t (.agg parts)) {j : Nat} {f : Field} {d : DataW H} (hf : fs[j]? = some f) (hd : parts[j]? = some d) : Sized P f.type d := fun n hn => by
  refine h n ?_
  simp only [DataW.weights, ht]
  exact DataW.weights_mem_each (j := j) (t := f.type) (d := d) (by simp [hf]) hd n hn
theorem Sized.str {t : TypeId} {bs : List UInt8} (h : Sized P t (.lit (.string bs) : DataW H)) : bs.length ≤ reachBytes := h _ (by simp [DataW.weights])
theorem Sized.of_each {ts : List TypeId} {ds : List (DataW H)} (h : (DataW.weightsEach P ts ds).all (· ≤ reachBytes) = true) {j : Nat} {t : TypeId} {d : DataW H} (ht : ts[j]? = some t) (hd : ds[j]? = some d) : Sized P t d := fun n hn => by
  have := List.all_eq_true.1 h n (DataW.weights_mem_each ht hd n hn)
  simpa using this

/-- A slice, element by element. -/
theorem rd_rows {α : Type} {R : α → List Value → Prop} {t e : TypeId} {k : Nat} (ht : P.underlying t = some (.slice e)) (hk : P.cellsOf e = k) (hk0 : 0 < k) {W : World} {fuel : Nat} {cs : List Value} {x : DataW H × List MemPlace}
    (hR : ∀ (n : Nat) (cs' : List Value) (y : DataW H × List MemPlace), DataW.trod enc P W 0 (fun _ => true) true n e cs' = some y → Sized P e y.1 → ∃ a : α, R a cs')
    (h : DataW.trod enc P W 0 (fun _ => true) true fuel t cs = some x) (hz : Sized P t x.1) :
    ∃ (v : Value) (l : List α) (ys : List Value), cs = [v] ∧ Sl W (fun b => b < W.heap.size) k v l.length ys ∧ RowsL R l ys ∧ l.length * P.bytesOf e ≤ reachBytes := by
  rcases open_slice ht h with ⟨rfl, rfl⟩ | ⟨a, len, cap, m, n, D, Pl, rfl, _, hl, hm, hmm, hx, hi⟩
  · exact ⟨_, [], [], rfl, Sl.nil _ _ _, rfl, by simp⟩
  · simp only [if_true] at hmm
    subst hmm
    subst hx
    have hsz := hz.len ht
    simp only [List.length_map, List.length_range] at hsz
    have hel : ∀ i, i < len → ∃ (a' : α) (c : List Value), R a' c ∧ c.length = k ∧ ∀ j u, c[j]? = some u → W.cell? ((a.add (i * k)).add j) = some u := fun i hil => by
      obtain ⟨cs', hc, htr⟩ := hi i (by omega)
      rw [hk] at hc
      obtain ⟨_, hcl, hat⟩ := World.cells?_some hc
      obtain ⟨a', ha'⟩ := hR _ _ _ htr (hz.elem ht (List.mem_map.2 ⟨i, List.mem_range.2 hil, rfl⟩))
      refine ⟨a', cs', ha', hcl, fun j u hu => ?_⟩
      have hj := (List.getElem?_eq_some_iff.1 hu).1
      rw [hat j (by omega), hu]
    have hall : ∀ q, q ≤ len → ∃ (l : List α) (ys : List Value), l.length = q ∧ ys.length = q * k ∧ RowsL R l ys ∧ ∀ j u, ys[j]? = some u → W.cell? (a.add j) = some u := by
      intro q
      induction q with
      | zero => intro _; exact ⟨[], [], rfl, by simp, rfl, by simp⟩
      | succ q ih =>
        intro hq
        obtain ⟨l, ys, hll, hyl, hrows, hcells⟩ := ih (by omega)
        obtain ⟨a', c, ha', hcl, hcc⟩ := hel q (by omega)
        refine ⟨l ++ [a'], ys ++ c, by simp [hll], by simp [hyl, hcl, Nat.add_mul], hrows.app (RowsL.one ha'), fun j u hu => ?_⟩
        rw [List.getElem?_append] at hu
        split at hu
        · exact hcells j u hu
        · have := hcc (j - ys.length) u hu
          rw [add_of_add] at this
          rw [show q * k + (j - ys.length) = j from by omega] at this
          exact this
    obtain ⟨l, ys, hll, hyl, hrows, hcells⟩ := hall len (Nat.le_refl _)
    subst hll
    refine ⟨_, l, ys, rfl, Sl.mk_of hl hm hyl hk0 (fun hn => ⟨a, rfl, ?_, hcells⟩), hrows, hsz⟩
    obtain ⟨a', c, _, hcl, hcc⟩ := hel 0 hn
    have := hcc 0 (c[0]'(by omega)) (List.getElem?_eq_getElem (by omega))
    have := World.block_lt_of_cell? W _ this
    simpa [block_of_add] using this

/-- Bytes. -/
theorem rd_bytes {t e : TypeId} (ht : P.underlying t = some (.slice e)) (he : P.underlying e = some (.int .u8)) (hk : P.cellsOf e = 1) (hbe : P.bytesOf e = 1) {W : World} {fuel : Nat} {cs : List Value} {x : DataW H × List MemPlace}
    (h : DataW.trod enc P W 0 (fun _ => true) true fuel t cs = some x) (hz : Sized P t x.1) :
    ∃ (v : Value) (bs : List UInt8), cs = [v] ∧ Bs W (fun b => b < W.heap.size) v bs ∧ bs.length ≤ 140737488351232 := by
  obtain ⟨v, l, ys, rfl, hsl, hrows, hb⟩ := rd_rows (α := UInt8) (R := fun b c => c = [bcell b]) ht hk (by omega) (fun n cs' y hy _ => by
    obtain ⟨i, rfl, _, hw⟩ := DataW.trod_int he hy
    refine ⟨UInt8.ofNat i.toNat, ?_⟩
    have h01 : 0 ≤ i ∧ i ≤ 255 := by simpa [Lit.wf, IntKind.min, IntKind.max, IntKind.signed, IntKind.bits] using hw
    simp only [bcell]
    congr 2
    simp
    omega) h hz
  have hys : ys = l.map bcell := by
    clear hsl hb
    induction l generalizing ys with
    | nil => exact hrows
    | cons b l ih =>
      obtain ⟨c, cs2, rfl, rfl, hr⟩ := hrows
      rw [ih cs2 hr]; rfl
  subst hys
  rw [hbe] at hb
  exact ⟨v, l, rfl, hsl, by have : reachBytes = 140737488351232 := rfl; omega⟩
end
section
variable {H : Type} {enc : TypeId × Value → H} {P : Program}
/-- A struct whose fields are of one cell each, field by field. -/
theorem rd_struct {t : TypeId} {fs : Array Field} (ht : P.underlying t = some (.struct fs)) (hone : oneCellFields P fs = true) (hc : P.cellsOf t = fs.size) {W : World} {fuel : Nat} {cs : List Value} {x : DataW H × List MemPlace}
    (h : DataW.trod enc P W 0 (fun _ => true) true fuel t cs = some x) (hz : Sized P t x.1) :
    cs.length = fs.size ∧ ∀ (i : Nat) (f : Field), fs[i]? = some f → ∃ (c : Value) (y : DataW H × List MemPlace) (n : Nat), cs[i]? = some c ∧ DataW.trod enc P W 0 (fun _ => true) true n f.type [c] = some y ∧ Sized P f.type y.1 := by
  obtain ⟨xs, n, _, rfl, hl, hlen, hf⟩ := DataW.trod_struct ht h
  refine ⟨hl.trans hc, fun i f hi => ?_⟩
  obtain ⟨ho, h1⟩ := hone_of hone i f hi
  have hlt : i < fs.size := (Array.getElem?_eq_some_iff.1 hi).1
  have g := hf i f hi
  rw [ho, h1, take1_drop cs i undef (by omega), List.getElem?_eq_getElem (by omega)] at g
  refine ⟨_, _, n, ?_, g, hz.field ht hi ?_⟩
  · simp [List.getD, List.getElem?_eq_getElem (show i < cs.length by omega)]
  · simp [List.getElem?_eq_getElem (show i < xs.length by omega)]
end
/-- An argument that is an integer. -/
theorem okWide_int' {P : Program} {w : World} {base : Nat} {t : TypeId} {v : Value} {k : IntKind} (ht : P.underlying t = some (.int k)) (h : Value.okWide P w .any base t v) : ∃ n, v = .int k n := by
  simp only [Value.okWide, ht, Cell.okWide] at h
  cases v <;> simp_all [Cell.ok]
end Go.Proofs.Ytgeldfgcicjidaa
