/-
  Maps as lists of pairs in the order in which their keys came: look up, store, delete, range.
-/
import Derived.Test.YtnfmmfodnhmfaaaBase
namespace Go.Proofs.Ytnfmmfodnhmfaaa
open Go.RowKit

/-- How the keys of a map are kept: an injection into values that the model compares at once. -/
structure Key (κ : Type) [DecidableEq κ] where
  enc : κ → Value
  desc : TypeDesc
  same : ∀ a b, Instr.sameNow desc (enc a) (enc b) = some (decide (a = b))
  bits : ∀ a n, Instr.sameBits n (enc a) (enc a) = true
  check : ∀ (P : Program) (t : TypeId) (e : Bool) (n : Nat) (a : κ) (w : World), P.underlying t = some desc → (Instr.checkKey e (n + 1) t (enc a)).run P w = .ok () w

/-- Block m is a map that holds just these pairs, in the order in which their keys came. -/
def MapL {κ : Type} [DecidableEq κ] (K : Key κ) (w : World) (m : Nat) (l : List (κ × Value)) : Prop :=
  ∃ (es : Array MapEntry) (clock : Nat), w.heap[m]? = some (.map es clock) ∧ es.toList.map (fun e => (e.key, e.val)) = l.map (fun x => (K.enc x.1, x.2)) ∧
    (es.toList.map (·.born)).Pairwise (· < ·) ∧ (∀ e ∈ es.toList, e.born < clock) ∧ (l.map (·.1)).Nodup

section
variable {κ : Type} [DecidableEq κ] {K : Key κ} {w w' : World} {m : Nat} {l : List (κ × Value)}
theorem MapL.lt (h : MapL K w m l) : m < w.heap.size := by
  obtain ⟨es, c, h, _⟩ := h
  exact (Array.getElem?_eq_some_iff.1 h).1
theorem MapL.same (h : MapL K w m l) (hb : w'.heap[m]? = w.heap[m]?) : MapL K w' m l := by
  obtain ⟨es, c, h, hr⟩ := h
  exact ⟨es, c, hb.trans h, hr⟩
theorem MapL.fr {F : Nat → Prop} (h : MapL K w m l) (hf : Fr F w w') (hn : ¬ F m) : MapL K w' m l := h.same (hf.block m h.lt hn)
theorem MapL.new (K : Key κ) (w : World) : MapL K (w.alloc (.map #[] 0)) w.heap.size [] := ⟨#[], 0, heap_alloc_new w _, by simp, by simp, by simp, by simp⟩
theorem MapL.ne_blk {g : Nat} {t : TypeId} {cs : Array Value} (h : MapL K w m l) (h' : Blk w g t cs) : m ≠ g := by
  rintro rfl
  obtain ⟨es, c, h, _⟩ := h
  unfold Blk at h'
  rw [h] at h'
  cases h'

/-- What a key finds. -/
def findL (k : κ) : List (κ × Value) → Option Value
  | [] => none
  | x :: l => if k = x.1 then some x.2 else findL k l
/-- A pair put. -/
def putL (k : κ) (v : Value) : List (κ × Value) → List (κ × Value)
  | [] => [(k, v)]
  | x :: l => if k = x.1 then (k, v) :: l else x :: putL k v l

theorem findNow_spec (K : Key κ) (k : κ) : ∀ (es : List MapEntry) (l : List (κ × Value)) (i : Nat), es.map (fun e => (e.key, e.val)) = l.map (fun x => (K.enc x.1, x.2)) →
    ∃ r, Instr.findNow K.desc (K.enc k) es i = some r ∧ r.map (·.2) = findL k l ∧ (r = none → ∀ v', putL k v' l = l ++ [(k, v')]) ∧
      ∀ j x, r = some (j, x) → ∃ n, j = i + n ∧ n < es.length ∧ (es[n]?).map (·.key) = some (K.enc k) ∧ ∀ v', putL k v' l = l.set n (k, v')
  | [], l, i, h => by
    have : l = [] := by cases l <;> simp_all
    subst this
    exact ⟨none, rfl, rfl, fun _ _ => rfl, by simp⟩
  | e :: es, [], i, h => by simp at h
  | e :: es, x :: l, i, h => by
    simp only [List.map_cons, List.cons.injEq, Prod.mk.injEq] at h
    obtain ⟨⟨hk, hv⟩, ht⟩ := h
    by_cases hx : k = x.1
    · refine ⟨some (i, e.val), ?_, ?_, by simp, ?_⟩
      · simp [Instr.findNow, hk, K.same, hx]
      · simp [findL, hx, hv]
      · intro j y hj
        simp only [Option.some.injEq, Prod.mk.injEq] at hj
        exact ⟨0, by omega, by simp, by simp [hk, hx], fun v' => by simp [putL, hx]⟩
    · obtain ⟨r, hr, h1, h2, h3⟩ := findNow_spec K k es l (i + 1) ht
      refine ⟨r, ?_, ?_, ?_, ?_⟩
      · simp [Instr.findNow, hk, K.same, hx, hr]
      · simp [findL, hx, h1]
      · intro hn v'; simp [putL, hx, h2 hn]
      · intro j y hj
        obtain ⟨n, hn, hlt, hkk, hput⟩ := h3 j y hj
        exact ⟨n + 1, by omega, by simpa using hlt, by simpa using hkk, fun v' => by simp [putL, hx, hput v']⟩

variable {P : Program}
theorem run_findKey {kt : TypeId} (ht : P.underlying kt = some K.desc) (k : κ) (es : List MapEntry) (r : Option (Nat × Value)) (h : Instr.findNow K.desc (K.enc k) es 0 = some r) (w : World) :
    (Instr.findKey kt (K.enc k) es).run P w = .ok r w := by
  simp [Instr.findKey, run_underlying ht, h]

theorem run_lookup (h : MapL K w m l) {t kt e : TypeId} (ht : P.underlying t = some (.map kt e)) (hk : P.underlying kt = some K.desc) {z : Value} (hz : ∀ W : World, (zeroValue e).run P W = .ok z W) (k : κ) (ok : Bool) :
    (Instr.lookup t (.map (some m)) (K.enc k) ok).run P w = .ok (if ok then .tuple #[(findL k l).getD z, .bool (findL k l).isSome] else (findL k l).getD z) w := by
  obtain ⟨es, c, hm, he, _, _, _⟩ := h
  obtain ⟨r, hr, h1, _, _⟩ := findNow_spec K k es.toList l 0 he
  have hg : (getObj m).run P w = .ok (.map es c) w := by simp [getObj, Sem.run, hm]
  have hc := fun b => K.check P kt b 9999 k w hk
  have hf := run_findKey (K := K) hk k es.toList r hr w
  simp only [Instr.lookup, Sem.run_bind, run_underlying ht, Result.andThen_ok, hg, Sem.run_pure, hc, hf]
  rw [← h1]
  cases r with
  | none => cases ok <;> simp [hz]
  | some x => cases ok <;> simp

theorem putL_keys (k : κ) (v : Value) : ∀ l : List (κ × Value), (putL k v l).map (·.1) = if k ∈ l.map (·.1) then l.map (·.1) else l.map (·.1) ++ [k]
  | [] => by simp [putL]
  | x :: l => by
    by_cases h : k = x.1
    · simp [putL, h]
    · have := putL_keys k v l
      simp only [putL, h, if_false, List.map_cons, List.mem_cons, false_or, this]
      split <;> simp
theorem putL_nodup (k : κ) (v : Value) {l : List (κ × Value)} (h : (l.map (·.1)).Nodup) : ((putL k v l).map (·.1)).Nodup := by
  rw [putL_keys]
  split
  · exact h
  · rename_i hk
    rw [List.nodup_append]
    exact ⟨h, by simp, fun a ha b hb => by simp at hb; rintro rfl; subst hb; exact hk ha⟩
theorem findL_putL (k : κ) (v : Value) (k' : κ) : ∀ l : List (κ × Value), findL k' (putL k v l) = if k' = k then some v else findL k' l
  | [] => by simp [putL, findL]
  | x :: l => by
    by_cases h : k = x.1
    · by_cases h' : k' = x.1 <;> simp [putL, findL, h, h']
    · by_cases h' : k' = x.1
      · simp [putL, findL, h, h']
        intro e
        exact absurd e.symm h
      · simp [putL, findL, h, h', findL_putL k v k' l]
theorem findL_none (k : κ) : ∀ l : List (κ × Value), findL k l = none ↔ k ∉ l.map (·.1)
  | [] => by simp [findL]
  | x :: l => by
    by_cases h : k = x.1
    · simp [findL, h]
    · simp only [findL, h, if_false, findL_none k l, List.map_cons, List.mem_cons, false_or]

/-- 'm[k] = v'. -/
theorem run_update (h : MapL K w m l) {t kt e : TypeId} (ht : P.underlying t = some (.map kt e)) (hk : P.underlying kt = some K.desc) (k : κ) (v : Value) :
    ∃ w', (Instr.mapUpdate t (.map (some m)) (K.enc k) v).run P w = .ok () w' ∧ MapL K w' m (putL k v l) ∧ w.grownBy w' (some m) ∧ w'.heap.size = w.heap.size := by
  obtain ⟨es, c, hm, he, hb, hc, hn⟩ := h
  obtain ⟨r, hr, h1, h2, h3⟩ := findNow_spec K k es.toList l 0 he
  have hlt := (Array.getElem?_eq_some_iff.1 hm).1
  have hg : (getObj m).run P w = .ok (.map es c) w := by simp [getObj, Sem.run, hm]
  have hs : ∀ o : Obj, (setObj m o).run P w = .ok () { w with heap := w.heap.setIfInBounds m o } := fun o => by simp [setObj, Sem.run, hm]
  have hck := K.check P kt false 9999 k w hk
  have hf := run_findKey (K := K) hk k es.toList r hr w
  have hgrow : ∀ o : Obj, w.grownBy { w with heap := w.heap.setIfInBounds m o } (some m) := fun o =>
    ⟨rfl, rfl, rfl, by simp, fun j hj hne => by
      have : m ≠ j := fun e => hne (by rw [e])
      simp [this]⟩
  cases r with
  | none =>
    refine ⟨{ w with heap := w.heap.setIfInBounds m (.map (es.push { key := K.enc k, val := v, born := c }) (c + 1)) }, ?_, ?_, hgrow _, by simp⟩
    · simp only [Instr.mapUpdate, Sem.run_bind, run_underlying ht, Result.andThen_ok, hg, hck, hf, hs]
    · refine ⟨_, _, by simp [hlt]; exact ⟨rfl, rfl⟩, ?_, ?_, ?_, putL_nodup k v hn⟩
      · rw [h2 rfl]; simp [he]
      · simp only [Array.toList_push, List.map_append, List.map_cons, List.map_nil, List.pairwise_append]
        refine ⟨hb, by simp, fun a ha b hb' => ?_⟩
        simp at hb'
        obtain ⟨e, hem, rfl⟩ := List.mem_map.1 ha
        subst hb'
        exact hc e hem
      · intro e hem
        simp at hem
        rcases hem with hem | rfl
        · have := hc e (by simpa using hem); omega
        · simp
  | some x =>
    obtain ⟨j, y⟩ := x
    obtain ⟨n, hj, hlt', hkey, hput⟩ := h3 j y rfl
    have hj : j = n := by omega
    subst hj
    have hkey' : ((es[j]?).map (·.key)).getD (K.enc k) = K.enc k := by rw [← Array.getElem?_toList, hkey]; rfl
    have hkt : (Instr.keyThatStays (K.enc k) (K.enc k)).run P w = .ok (K.enc k) w := by simp [Instr.keyThatStays, K.bits]
    refine ⟨{ w with heap := w.heap.setIfInBounds m (.map (es.modify j fun e => { e with key := K.enc k, val := v }) c) }, ?_, ?_, hgrow _, by simp⟩
    · simp only [Instr.mapUpdate, Sem.run_bind, run_underlying ht, Result.andThen_ok, hg, hck, hf, hkey', hkt, hs]
    · have hborn : (es.modify j fun e => { e with key := K.enc k, val := v }).toList.map (·.born) = es.toList.map (·.born) := by
        apply List.ext_getElem?
        intro i
        simp [Array.toList_modify, List.getElem?_map, List.getElem?_modify]
        split <;> cases es[i]? <;> simp
      refine ⟨_, _, by simp [hlt]; exact ⟨rfl, rfl⟩, ?_, by rw [hborn]; exact hb, ?_, putL_nodup k v hn⟩
      · rw [hput]
        apply List.ext_getElem?
        intro i
        have hi := congrArg (fun q => q[i]?) he
        simp only [List.getElem?_map, Array.getElem?_toList] at hi
        simp only [Array.toList_modify, List.getElem?_map, List.getElem?_modify, List.getElem?_set, Array.getElem?_toList]
        have hll : es.size = l.length := by have := congrArg List.length he; simpa using this
        by_cases hij : j = i
        · subst hij
          simp at hlt'
          simp [hlt', ← hll]
        · cases hei : es[i]? <;> simp [hij, hei] at hi ⊢ <;> exact hi
      · intro e hem
        have : e.born ∈ (es.modify j fun e => { e with key := K.enc k, val := v }).toList.map (·.born) := List.mem_map.2 ⟨e, hem, rfl⟩
        rw [hborn] at this
        obtain ⟨e', he', hbb⟩ := List.mem_map.1 this
        rw [← hbb]; exact hc e' he'

end

def intKey : Key Int where
  enc := fun n => .int .i64 n
  desc := .int .i64
  same := fun a b => by simp [Instr.sameNow]; exact Bool.eq_iff_iff.2 (by simp)
  bits := fun a n => by cases n <;> simp [Instr.sameBits]
  check := fun P t e n a w h => by simp [Instr.checkKey, run_underlying h]

section
variable {κ : Type} [DecidableEq κ] {K : Key κ} {w w' : World} {m r : Nat} {l : List (κ × Value)} {done : List κ}

/-- The pairs of a map are being ranged over by the iterator at r; those keys have come. -/
def IterL (K : Key κ) (w : World) (r m : Nat) (l : List (κ × Value)) (done : List κ) : Prop :=
  ∃ (es : Array MapEntry) (clock : Nat) (seen : Array Nat), w.heap[m]? = some (.map es clock) ∧ es.toList.map (fun e => (e.key, e.val)) = l.map (fun x => (K.enc x.1, x.2)) ∧
    (es.toList.map (·.born)).Pairwise (· < ·) ∧ (∀ e ∈ es.toList, e.born < clock) ∧ (l.map (·.1)).Nodup ∧ w.heap[r]? = some (.mapIter (some m) clock seen clock) ∧
    seen.size = done.length ∧ done.Nodup ∧ (∀ (i : Nat) (e : MapEntry) (x : κ × Value), es[i]? = some e → l[i]? = some x → (e.born ∈ seen ↔ x.1 ∈ done)) ∧ (∀ k ∈ done, k ∈ l.map (·.1)) ∧
    (∀ k, done.getLast? = some k → ∃ (i : Nat) (e : MapEntry) (x : κ × Value), es[i]? = some e ∧ l[i]? = some x ∧ x.1 = k ∧ seen.back? = some e.born)

/-- How many are still to come: read off the world. -/
def iterLeft (m r : Nat) (w : World) : Nat :=
  match w.heap[m]?, w.heap[r]? with
  | some (.map es _), some (.mapIter _ _ seen _) => es.size - seen.size
  | _, _ => 0

theorem IterL.left (h : IterL K w r m l done) : iterLeft m r w = l.length - done.length := by
  obtain ⟨es, c, seen, hm, he, _, _, _, hr, hs, _⟩ := h
  have : es.size = l.length := by have := congrArg List.length he; simpa using this
  simp [iterLeft, hm, hr, hs, this]

theorem IterL.lt (h : IterL K w r m l done) : r < w.heap.size ∧ m < w.heap.size := by
  obtain ⟨es, c, seen, hm, _, _, _, _, hr, _⟩ := h
  exact ⟨(Array.getElem?_eq_some_iff.1 hr).1, (Array.getElem?_eq_some_iff.1 hm).1⟩

theorem IterL.map (h : IterL K w r m l done) : MapL K w m l := by
  obtain ⟨es, c, seen, hm, he, hb, hc, hn, _⟩ := h
  exact ⟨es, c, hm, he, hb, hc, hn⟩

theorem nodup_sub_le {α : Type} [DecidableEq α] : ∀ (a b : List α), a.Nodup → (∀ x ∈ a, x ∈ b) → a.length ≤ b.length
  | [], _, _, _ => by simp
  | x :: a, b, hn, hs => by
    rw [List.nodup_cons] at hn
    have hx : x ∈ b := hs x (by simp)
    have := nodup_sub_le a (b.erase x) hn.2 (fun y hy => by
      have hne : y ≠ x := fun e => hn.1 (e ▸ hy)
      exact (List.mem_erase_of_ne hne).2 (hs y (by simp [hy])))
    rw [List.length_erase_of_mem hx] at this
    have := List.length_pos_of_mem hx
    simp; omega
theorem IterL.sub (h : IterL K w r m l done) : done.length ≤ l.length := by
  obtain ⟨es, c, seen, hm, he, hb, hc, hn, hr, hs, hdn, hse, hdl, hlast⟩ := h
  have := nodup_sub_le done (l.map (·.1)) hdn hdl
  simpa using this

theorem run_rangeL {P : Program} (h : MapL K w m l) {t kt e : TypeId} (ht : P.underlying t = some (.map kt e)) :
    ∃ w', (Instr.range t (.map (some m))).run P w = .ok (.pointer (some ⟨w.heap.size, 0, none⟩)) w' ∧ IterL K w' w.heap.size m l [] ∧ w.grownBy w' none ∧ w'.heap.size = w.heap.size + 1 := by
  obtain ⟨es, c, hm, he, hb, hc, hn⟩ := h
  have hg : (getObj m).run P w = .ok (.map es c) w := by simp [getObj, Sem.run, hm]
  have hlt := (Array.getElem?_eq_some_iff.1 hm).1
  refine ⟨w.alloc (.mapIter (some m) c #[] c), ?_, ⟨es, c, #[], (hp_new _ _ _ hlt).trans hm, he, hb, hc, hn, heap_alloc_new w _, rfl, List.nodup_nil, ?_, by simp, by simp⟩, World.grownBy_alloc w _ none, by simp⟩
  · simp [Instr.range, run_underlying ht, hg, newObj, Sem.run]
  · simp

theorem born_inj {es : Array MapEntry} (hb : (es.toList.map (·.born)).Pairwise (· < ·)) {i j : Nat} {e f : MapEntry} (hi : es[i]? = some e) (hj : es[j]? = some f) (h : e.born = f.born) : i = j := by
  rw [List.pairwise_iff_getElem] at hb
  have h1 := (Array.getElem?_eq_some_iff.1 hi)
  have h2 := (Array.getElem?_eq_some_iff.1 hj)
  obtain ⟨l1, e1⟩ := h1
  obtain ⟨l2, e2⟩ := h2
  rcases Nat.lt_trichotomy i j with hlt | heq | hgt
  · have := hb i j (by simpa using l1) (by simpa using l2) hlt
    simp [e1, e2] at this; omega
  · exact heq
  · have := hb j i (by simpa using l2) (by simpa using l1) hgt
    simp [e1, e2] at this; omega

theorem run_entryL {P : Program} {k : κ} (h : IterL K w r m l (done ++ [k])) : ∃ v, (k, v) ∈ l ∧ (Instr.entry (.pointer (some ⟨r, 0, none⟩))).run P w = .ok (.tuple #[K.enc k, v]) w := by
  obtain ⟨es, c, seen, hm, he, hb, hc, hn, hr, hs, hdn, hse, hdl, hlast⟩ := h
  obtain ⟨i, e, x, hi, hx, rfl, hbk⟩ := hlast k (by simp)
  have hg : (getObj m).run P w = .ok (.map es c) w := by simp [getObj, Sem.run, hm]
  have hg2 : (getObj r).run P w = .ok (.mapIter (some m) c seen c) w := by simp [getObj, Sem.run, hr]
  have hfind : es.find? (·.born == e.born) = some e := by
    rw [← Array.find?_toList]
    have hex : (es.toList.find? (·.born == e.born)).isSome := by
      rw [List.find?_isSome]
      exact ⟨e, List.mem_of_getElem? (i := i) (by simpa using hi), by simp⟩
    obtain ⟨f, hf⟩ := Option.isSome_iff_exists.1 hex
    have hfb := List.find?_some hf
    have hfm := List.mem_of_find?_eq_some hf
    obtain ⟨j, hj⟩ := List.getElem?_of_mem hfm
    have : i = j := born_inj hb hi (by simpa using hj) (by simpa using (beq_iff_eq.1 hfb).symm)
    subst this
    rw [hf]
    have : es[i]? = some f := by simpa using hj
    rw [hi] at this
    exact this.symm
  have hpair : (e.key, e.val) = (K.enc x.1, x.2) := by
    have := congrArg (fun q => q[i]?) he
    simp only [List.getElem?_map, Array.getElem?_toList, hi, hx, Option.map_some, Option.some.injEq] at this
    exact this
  injection hpair with hk hv
  refine ⟨x.2, List.mem_of_getElem? hx, ?_⟩
  simp [Instr.entry, hg, hg2, hbk, hfind, hk, hv]

theorem run_nextL {P : Program} (t : TypeId) (h : IterL K w r m l done) (hne : r ≠ m) :
    ((∀ x ∈ l, x.1 ∈ done) ∧ (Instr.next (.pointer (some ⟨r, 0, none⟩)) false t).run P w = .ok (.tuple #[.bool false]) w) ∨
    ∃ x w', x ∈ l ∧ x.1 ∉ done ∧ (Instr.next (.pointer (some ⟨r, 0, none⟩)) false t).run P w = .ok (.tuple #[.bool true, K.enc x.1, x.2]) w' ∧ IterL K w' r m l (done ++ [x.1]) ∧ w.grownBy w' (some r) ∧ w'.heap.size = w.heap.size := by
  obtain ⟨es, c, seen, hm, he, hb, hc, hn, hr, hs, hdn, hse, hdl, hlast⟩ := h
  have hg : (getObj m).run P w = .ok (.map es c) w := by simp [getObj, Sem.run, hm]
  have hg2 : (getObj r).run P w = .ok (.mapIter (some m) c seen c) w := by simp [getObj, Sem.run, hr]
  have hlen : es.size = l.length := by have := congrArg List.length he; simpa using this
  have hrl := (Array.getElem?_eq_some_iff.1 hr).1
  have hguard : (!seen.isEmpty && !es.isEmpty && es.all (·.born ≥ c)) = false := by
    by_cases h0 : es.isEmpty
    · simp [h0]
    · have hz : 0 < es.size := by
        rcases Nat.eq_zero_or_pos es.size with h1 | h1
        · exact absurd (by rw [Array.isEmpty_iff_size_eq_zero]; exact h1) h0
        · exact h1
      have : es.all (·.born ≥ c) = false := by
        rw [Array.all_eq_false]
        refine ⟨0, hz, ?_⟩
        have := hc es[0] (by simp)
        simp; omega
      rw [this]; simp
  have hold : (es.filter fun e => !seen.contains e.born).filter (·.born < c) = es.filter fun e => !seen.contains e.born := by
    rw [Array.filter_eq_self]
    intro e hm'
    have := hc e (by have := Array.mem_filter.1 hm'; simpa using this.1)
    simpa using this
  have hnew : (es.filter fun e => !seen.contains e.born).filter (·.born ≥ c) = #[] := by
    rw [Array.filter_eq_empty_iff]
    intro e hm'
    have := hc e (by have := Array.mem_filter.1 hm'; simpa using this.1)
    simp; omega
  obtain ⟨left, hleft⟩ : ∃ left, left = es.filter fun e => !seen.contains e.born := ⟨_, rfl⟩
  have hpair : ∀ (i : Nat) (e : MapEntry), es[i]? = some e → ∃ x, l[i]? = some x ∧ e.key = K.enc x.1 ∧ e.val = x.2 := fun i e hi => by
    have := congrArg (fun q => q[i]?) he
    simp only [List.getElem?_map, Array.getElem?_toList, hi, Option.map_some] at this
    cases hx : l[i]? with
    | none => rw [hx] at this; cases this
    | some x =>
      rw [hx] at this
      simp at this
      exact ⟨x, rfl, this.1, this.2⟩
  have hst : ∀ (W : World) (o : Obj), W.heap = w.heap → (setObj r o).run P W = .ok () { W with heap := W.heap.setIfInBounds r o } := fun W o hW => by simp [setObj, Sem.run, hW, hr]
  by_cases hz : left.size = 0
  · left
    have hl0 : left = #[] := by simpa using hz
    refine ⟨fun x hx => ?_, ?_⟩
    · obtain ⟨i, hi⟩ := List.getElem?_of_mem hx
      have hil : i < es.size := by rw [hlen]; exact (List.getElem?_eq_some_iff.1 hi).1
      have hei : es[i]? = some es[i] := Array.getElem?_eq_getElem hil
      rw [← hse i _ x hei hi]
      rw [hleft, Array.filter_eq_empty_iff] at hl0
      have := hl0 es[i] (Array.getElem_mem hil)
      simpa using this
    · simp only [Instr.next, Sem.run_bind, hg2, hg, Result.andThen_ok, hguard, ← hleft, hl0]
      simp [choose, Sem.run, Question.forced]
  · right
    have hne0 : left.isEmpty = false := by simpa using hz
    obtain ⟨idx, w1, hch, hidx, hw1⟩ : ∃ idx w1, (choose (.mapNext left.size)).run P w = .ok idx w1 ∧ idx < left.size ∧ (w1 = w ∨ w1 = w.drew) := by
      by_cases h1 : left.size ≤ 1
      · exact ⟨0, w, by simp [choose, Sem.run, Question.forced, h1], by omega, .inl rfl⟩
      · exact ⟨_, w.drew, by simp only [choose, Sem.run, Question.forced, h1, decide_false, Bool.false_eq_true, if_false]; rfl, Nat.mod_lt _ (by omega), .inr rfl⟩
    have hheap : w1.heap = w.heap := by rcases hw1 with rfl | rfl <;> rfl
    obtain ⟨e, hee⟩ : ∃ e, left[idx]? = some e := ⟨_, Array.getElem?_eq_getElem hidx⟩
    have hmem : e ∈ es ∧ e.born ∉ seen := by
      have := Array.mem_of_getElem? hee
      rw [hleft, Array.mem_filter] at this
      simpa using this
    obtain ⟨i, hil, hi⟩ := Array.getElem_of_mem hmem.1
    have hei : es[i]? = some e := by rw [Array.getElem?_eq_getElem hil, hi]
    obtain ⟨x, hx, hkey, hval⟩ := hpair i e hei
    have hxm : x ∈ l := List.mem_of_getElem? hx
    have hxd : x.1 ∉ done := fun hd => hmem.2 ((hse i e x hei hx).2 hd)
    refine ⟨x, { w1 with heap := w1.heap.setIfInBounds r (.mapIter (some m) c (seen.push e.born) c) }, hxm, hxd, ?_, ?_, ?_, by simp [hheap]⟩
    · simp only [Instr.next, Sem.run_bind, hg2, hg, Result.andThen_ok, hguard, Bool.false_eq_true, if_false]
      rw [hold, hnew, ← hleft]
      simp only [hne0, Bool.false_eq_true, if_false, Array.empty_append, Array.append_empty, Array.size_map, hch, Result.andThen_ok, Array.getElem?_map, hee, Option.map_some, Sem.run_bind, hst w1 _ hheap]
      simp [hkey, hval]
    · refine ⟨es, c, seen.push e.born, ?_, he, hb, hc, hn, ?_, by simp [hs], ?_, ?_, ?_, ?_⟩
      · simp [hheap, hne, hm]
      · simp [hheap, hrl]
      · rw [List.nodup_append]; exact ⟨hdn, by simp, fun a ha b hb' => by simp at hb'; subst hb'; rintro rfl; exact hxd ha⟩
      · intro j f y hj hy
        rw [Array.mem_push, List.mem_append, hse j f y hj hy, List.mem_singleton]
        refine or_congr Iff.rfl ⟨fun h => ?_, fun h => ?_⟩
        · have : j = i := born_inj hb hj hei h
          subst this
          rw [hx] at hy; cases hy; rfl
        · have hji : j = i := by
            have h1 : (l.map (·.1))[j]? = some y.1 := by simp [hy]
            have h2 : (l.map (·.1))[i]? = some y.1 := by simp [hx, h]
            exact ((List.getElem?_inj (by simpa using (List.getElem?_eq_some_iff.1 hy).1) hn).1 (h1.trans h2.symm))
          subst hji
          rw [hei] at hj; cases hj; rfl
      · intro k hk
        rcases List.mem_append.1 hk with hk | hk
        · exact hdl k hk
        · simp at hk; subst hk; exact List.mem_map.2 ⟨x, hxm, rfl⟩
      · intro k hk
        simp at hk
        subst hk
        exact ⟨i, e, x, hei, hx, rfl, by simp⟩
    · refine ⟨by rcases hw1 with rfl | rfl <;> rfl, by rcases hw1 with rfl | rfl <;> rfl, by rcases hw1 with rfl | rfl <;> rfl, by simp [hheap], fun j hj hne' => ?_⟩
      have : r ≠ j := fun e => hne' (by rw [e])
      simp [hheap, this]

theorem wpList_rangeL {P : Program} {ops : Array Oper} {rest : List Oper} {o : Oper} {a : Act} {Q : Exit → Act → World → Prop} (hgd : o.guard = none) (x : Operand) (t : TypeId) (hop : o.op = .range t x)
    (h : MapL K w m l) {kt e : TypeId} (ht : P.underlying t = some (.map kt e)) (hx : a.eval x = .map (some m))
    (hk : ∀ w', IterL K w' w.heap.size m l [] → w.grownBy w' none → w'.heap.size = w.heap.size + 1 → wpList P ops Q rest (a.put o.dst (.pointer (some ⟨w.heap.size, 0, none⟩))) w') : wpList P ops Q (o :: rest) a w := by
  refine wpList_plain hgd fun K' hK => ?_
  obtain ⟨w', hr, h1, h2, h3⟩ := run_rangeL (P := P) h ht
  unfold Oper.wp execOp
  simp only [hop, hx]
  rw [show (do pure (Next.value (← Instr.range t (.map (some m)))) : Sem Next).run P w = .ok (.value (.pointer (some ⟨w.heap.size, 0, none⟩))) w' by simp [hr]]
  exact hK _ _ (hk w' h1 h2 h3)

theorem wpList_nextL {P : Program} {ops : Array Oper} {rest : List Oper} {o : Oper} {a : Act} {Q : Exit → Act → World → Prop} (hgd : o.guard = none) (x : Operand) (hop : o.op = .next x false)
    (h : IterL K w r m l done) (hne : r ≠ m) (hx : a.eval x = .pointer (some ⟨r, 0, none⟩))
    (hend : (∀ k v, (k, v) ∈ l → k ∈ done) → wpList P ops Q rest (a.put o.dst (.tuple #[.bool false])) w)
    (hnext : ∀ k v w', (k, v) ∈ l → k ∉ done → IterL K w' r m l (done ++ [k]) → w.grownBy w' (some r) → w'.heap.size = w.heap.size → (Instr.entry (.pointer (some ⟨r, 0, none⟩))).run P w' = .ok (.tuple #[K.enc k, v]) w' →
      wpList P ops Q rest (a.put o.dst (.tuple #[.bool true, K.enc k, v])) w') : wpList P ops Q (o :: rest) a w := by
  refine wpList_plain hgd fun K' hK => ?_
  unfold Oper.wp execOp
  simp only [hop, hx]
  rcases run_nextL (P := P) o.type h hne with ⟨h1, h2⟩ | ⟨y, w', h1, h2, h3, h4, h5, h6⟩
  · rw [show (do pure (Next.value (← Instr.next (.pointer (some ⟨r, 0, none⟩)) false o.type)) : Sem Next).run P w = .ok (.value (.tuple #[.bool false])) w by simp [h2]]
    exact hK _ _ (hend fun k v hkv => h1 _ hkv)
  · rw [show (do pure (Next.value (← Instr.next (.pointer (some ⟨r, 0, none⟩)) false o.type)) : Sem Next).run P w = .ok (.value (.tuple #[.bool true, K.enc y.1, y.2])) w' by simp [h3]]
    obtain ⟨v, hv, he⟩ := run_entryL (P := P) h4
    have hmap := h4.map
    obtain ⟨_, _, _, _, _, _, hnd⟩ := hmap
    have : v = y.2 := by
      obtain ⟨i, hi⟩ := List.getElem?_of_mem hv
      obtain ⟨j, hj⟩ := List.getElem?_of_mem h1
      have h7 : (l.map (·.1))[i]? = some y.1 := by simp [hi]
      have h8 : (l.map (·.1))[j]? = some y.1 := by simp [hj]
      have := (List.getElem?_inj (by simpa using (List.getElem?_eq_some_iff.1 hi).1) hnd).1 (h7.trans h8.symm)
      subst this
      rw [hi] at hj
      injection hj with hj; rw [← hj]
    subst this
    exact hK _ _ (hnext y.1 y.2 w' h1 h2 h4 h5 h6 he)
theorem findL_mem {y : κ × Value} (hn : (l.map (·.1)).Nodup) (hy : y ∈ l) : findL y.1 l = some y.2 := by
  induction l with
  | nil => cases hy
  | cons x l ih =>
    rw [List.map_cons, List.nodup_cons] at hn
    rcases List.mem_cons.1 hy with rfl | hy
    · simp [findL]
    · have : y.1 ≠ x.1 := fun e => hn.1 (e ▸ List.mem_map.2 ⟨y, hy, rfl⟩)
      simp [findL, this, ih hn.2 hy]
end
end Go.Proofs.Ytnfmmfodnhmfaaa
