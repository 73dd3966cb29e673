/-
  Writing pages, one behind the other: what comes of it, in plain words.
-/
import Derived.Test.YtgeldfgcicjidaaT5
namespace Go.Proofs.Ytgeldfgcicjidaa
open Go.RowKit

theorem ok_wr {S : PS} {k q : Nat} {b : List UInt8} (h : S.ok k) (hq : q < S.n) (hb : b.length ≤ 252) : (S.wr q b).ok k := by
  obtain ⟨h1, h2, h3, h4, h5, h6, h7, h8⟩ := h
  refine ⟨h1, ?_, h3, h4, by show (S.is.set q 2).length = 4096; rw [List.length_set, h5], h6, h7, h8⟩
  show (setB S.dk.now (S.fr + 2 + q) (sealB b)).length = k * 256
  rw [setB_len (by rw [seal_len hb, h2]; exact i256 (by omega)), h2]
theorem free_wr {S : PS} {q j : Nat} {b : List UInt8} (hq : q < S.is.length) : (S.wr q b).free j = if j = q then false else S.free j := by
  unfold PS.free PS.wr
  dsimp only
  rw [List.getElem?_set]
  by_cases h : q = j
  · subst h; simp [hq]
  · rw [if_neg h, if_neg (fun e => h e.symm)]
theorem fre_wr {S : PS} {q : Nat} {tl : List Nat} {b : List UInt8} (hq : q < S.is.length) (h : S.fre = q :: tl) : (S.wr q b).fre = tl := by
  have e1 : (S.wr q b).fre = S.fre.filter (fun j => decide (j ≠ q)) := by
    unfold PS.fre
    show (List.range S.n).filter (S.wr q b).free = _
    rw [List.filter_filter]
    congr 1
    funext j
    rw [free_wr hq]
    by_cases hj : j = q <;> simp [hj]
  have nd : S.fre.Nodup := List.Pairwise.filter _ List.nodup_range
  rw [e1, h, List.filter_cons_of_neg (by simp)]
  rw [h] at nd
  exact List.filter_eq_self.2 fun x hx => by
    have : x ≠ q := fun e => (List.nodup_cons.1 nd).1 (e ▸ hx)
    simpa using this
theorem sct_same {S : PS} {k q : Nat} {b : List UInt8} (h : S.ok k) (hq : q < S.n) (hb : b.length ≤ 252) : (S.wr q b).sct q = sealB b := by
  have h4 := h.nk
  exact sec_setB_same (seal_len hb) (by rw [h.now]; exact Nat.le_trans (Nat.le_add_right _ _) (i256 (k := k) (by omega)))
theorem sct_other {S : PS} {k q j : Nat} {b : List UInt8} (h : S.ok k) (hq : q < S.n) (hb : b.length ≤ 252) (hj : j ≠ q) : (S.wr q b).sct j = S.sct j := by
  have h4 := h.nk
  exact sec_setB_other (seal_len hb) (by rw [h.now]; exact i256 (k := k) (by omega)) (fun e => hj (Nat.add_left_cancel e))
/-- Its disk has room for what is to be written. -/
def PS.good (S : PS) (k : Nat) : Prop := S.ok k ∧ S.dk.l.length + S.fre.length ≤ 1073741824
/-- S' is S behind writing some free pages. -/
structure Ext (S S' : PS) (k : Nat) : Prop where
  good : S.good k → S'.good k
  n : S'.n = S.n
  fr : S'.fr = S.fr
  rt : S'.gen = S.gen ∧ S'.page = S.page ∧ S'.next = S.next ∧ S'.mb = S.mb
  used : ∀ j, S.free j = false → S'.free j = false ∧ S'.sct j = S.sct j
  safe : S'.dk.safe = S.dk.safe
  log : ∃ l', S'.dk.l = S.dk.l ++ l' ∧ ∀ x ∈ l', ∃ q, q < S.n ∧ S.free q = true ∧ x.1 = S.fr + 2 + q
theorem Ext.refl (S : PS) (k : Nat) : Ext S S k := ⟨id, rfl, rfl, ⟨rfl, rfl, rfl, rfl⟩, fun _ h => ⟨h, rfl⟩, rfl, [], by simp, (fun _ h => nomatch h)⟩
theorem Ext.trans {S S1 S2 : PS} {k : Nat} (a : Ext S S1 k) (b : Ext S1 S2 k) : Ext S S2 k := by
  obtain ⟨l1, e1, m1⟩ := a.log
  obtain ⟨l2, e2, m2⟩ := b.log
  refine ⟨fun h => b.good (a.good h), b.n.trans a.n, b.fr.trans a.fr, ⟨b.rt.1.trans a.rt.1, b.rt.2.1.trans a.rt.2.1, b.rt.2.2.1.trans a.rt.2.2.1, b.rt.2.2.2.trans a.rt.2.2.2⟩, fun j h => ?_, b.safe.trans a.safe, l1 ++ l2, by rw [e2, e1, List.append_assoc], fun x hx => ?_⟩
  · obtain ⟨h1, h2⟩ := a.used j h
    obtain ⟨h3, h4⟩ := b.used j h1
    exact ⟨h3, h4.trans h2⟩
  · rcases List.mem_append.1 hx with hx | hx
    · exact m1 x hx
    · obtain ⟨q, q1, q2, q3⟩ := m2 x hx
      refine ⟨q, a.n ▸ q1, ?_, a.fr ▸ q3⟩
      cases h : S.free q with
      | true => rfl
      | false => rw [(a.used q h).1] at q2; cases q2
theorem Ext.wr {S : PS} {k q : Nat} {tl : List Nat} {b : List UInt8} (h : S.ok k) (hf : S.fre = q :: tl) (hb : b.length ≤ 252) : Ext S (S.wr q b) k := by
  have hq : q ∈ S.fre := by rw [hf]; exact List.mem_cons_self
  have hqn := fre_lt hq
  have hqf : S.free q = true := (List.mem_filter.1 hq).2
  have h4 := h.nk
  have h5 := h.is4
  have h6 := h.k4
  refine ⟨fun hg => ⟨ok_wr h hqn hb, ?_⟩, rfl, rfl, ⟨rfl, rfl, rfl, rfl⟩, fun j hj => ?_, rfl, [(S.fr + 2 + q, sealB b)], rfl, fun x hx => ⟨q, hqn, hqf, by rw [List.mem_singleton.1 hx]⟩⟩
  · rw [fre_wr (by omega) hf]
    show (S.dk.l ++ [_]).length + tl.length ≤ _
    have := hg.2
    rw [hf, List.length_cons] at this
    rw [List.length_append, List.length_singleton]; omega
  · have hjq : j ≠ q := fun e => by rw [e, hqf] at hj; cases hj
    exact ⟨by rw [free_wr (by omega), if_neg hjq, hj], sct_other h hqn hb hjq⟩
theorem Ext.isN {S S' : PS} {k i : Nat} {leaf : Bool} {l : List It} (h : Ext S S' k) (hN : IsN S i leaf l) : IsN S' i leaf l := by
  obtain ⟨h1, h2, h3, h4⟩ := hN
  obtain ⟨u1, u2⟩ := h.used i h2
  exact ⟨h.n ▸ h1, u1, u2.trans h3, h4⟩
def pgW (S : PS) (b : List UInt8) : PS × Nat × Nat := match S.fre with
  | [] => (S, 0, 4)
  | q :: _ => (S.wr q b, q, 0)
theorem pgW_spec (F : HP) (d p k : Nat) (S : PS) (hS : S.good k) (v : Value) (b : List UInt8) (hF : VwB F v b) (hb : b.length ≤ 252) :
    Spec Try.prog 14 [.pointer (some ⟨p, 0, none⟩), v] [pagerO d p S] F (fun _ : Unit => True) (fun _ => .tuple #[.int .i64 (pgW S b).2.1, .int .i64 (pgW S b).2.2]) (fun _ => [pagerO d p (pgW S b).1]) := by
  unfold pgW
  cases hf : S.fre with
  | nil => exact pgFull_spec F d p k S hS.1 hf v b hF hb
  | cons q tl => exact pgWrite_spec F d p k S hS.1 q tl hf (by have := hS.2; omega) v b hF hb
def wrStep (r : PS × List Nat × Bool) (b : List UInt8) : PS × List Nat × Bool := match r.2.2, r.1.fre with
  | false, _ => r
  | true, [] => (r.1, r.2.1, false)
  | true, q :: _ => (r.1.wr q b, r.2.1 ++ [q], true)
/-- Pages that are written, one behind the other, as long as there is room. -/
def wrAll (S : PS) (bs : List (List UInt8)) : PS × List Nat × Bool := bs.foldl wrStep (S, [], true)
theorem wrAll_snoc (S : PS) (bs : List (List UInt8)) (b : List UInt8) : wrAll S (bs ++ [b]) = wrStep (wrAll S bs) b := by simp [wrAll]
theorem wrAll_stop {S S' : PS} {P : List Nat} : ∀ {bs1 bs2 : List (List UInt8)}, wrAll S bs1 = (S', P, false) → wrAll S (bs1 ++ bs2) = (S', P, false)
  | bs1, [], h => by rw [List.append_nil]; exact h
  | bs1, b :: bs2, h => by
    rw [List.append_cons]
    refine wrAll_stop ?_
    rw [wrAll_snoc, h]; rfl
structure WrOk (S : PS) (bs : List (List UInt8)) (r : PS × List Nat × Bool) (k : Nat) : Prop where
  ext : Ext S r.1 k
  cnt : r.2.1.length + r.1.fre.length = S.fre.length
  yes : r.2.2 = true → r.2.1.length = bs.length
  no : r.2.2 = false → r.1.fre = [] ∧ r.2.1.length < bs.length
  pg : ∀ (j q : Nat) (b : List UInt8), r.2.1[j]? = some q → bs[j]? = some b → q < S.n ∧ r.1.free q = false ∧ r.1.sct q = sealB b
theorem wrAll_ok {S : PS} {k : Nat} (h : S.good k) (bs : List (List UInt8)) : (∀ b ∈ bs, b.length ≤ 252) → WrOk S bs (wrAll S bs) k := by
  refine snoc_ind (p := fun bs => (∀ b ∈ bs, b.length ≤ 252) → WrOk S bs (wrAll S bs) k) (fun _ => ⟨Ext.refl S k, by simp [wrAll], fun _ => rfl, (fun h => nomatch h), (fun _ _ _ h => nomatch h)⟩) (fun bs b ih hbs => ?_) bs
  obtain ⟨x1, x2, x3, x4, x5⟩ := ih (fun c hc => hbs c (List.mem_append_left _ hc))
  have hb := hbs b (by simp)
  rw [wrAll_snoc]
  obtain ⟨⟨S1, P, ok⟩, hr⟩ : ∃ r, wrAll S bs = r := ⟨_, rfl⟩
  rw [hr] at x1 x2 x3 x4 x5 ⊢
  dsimp only at x1 x2 x3 x4 x5
  unfold wrStep
  cases ok with
  | false =>
    obtain ⟨y1, y2⟩ := x4 rfl
    refine ⟨x1, x2, (fun h => nomatch h), fun _ => ⟨y1, by dsimp only; rw [List.length_append]; omega⟩, fun j q c hq hc => x5 j q c hq ?_⟩
    have hj := (List.getElem?_eq_some_iff.1 hq).1
    dsimp only at hj
    rwa [List.getElem?_append_left (by omega)] at hc
  | true =>
    have y := x3 rfl
    cases hf : S1.fre with
    | nil =>
      refine ⟨x1, x2, (fun h => nomatch h), fun _ => ⟨hf, by dsimp only; rw [List.length_append, List.length_singleton]; omega⟩, fun j q c hq hc => x5 j q c hq ?_⟩
      have hj := (List.getElem?_eq_some_iff.1 hq).1
      dsimp only at hj
      rwa [List.getElem?_append_left (by omega)] at hc
    | cons q tl =>
      have g1 := x1.good h
      have hqm : q ∈ S1.fre := by rw [hf]; exact List.mem_cons_self
      have hqn := fre_lt hqm
      have e1 := Ext.wr (b := b) g1.1 hf hb
      have h5 := g1.1.is4
      have h6 := g1.1.k4
      have h4 := g1.1.nk
      refine ⟨x1.trans e1, ?_, fun _ => by dsimp only; rw [List.length_append, List.length_append, y]; rfl, (fun h => nomatch h), fun j q' c hq hc => ?_⟩
      · dsimp only
        rw [fre_wr (by omega) hf, ← x2, hf, List.length_append, List.length_singleton, List.length_cons]; omega
      · dsimp only at hq
        rcases Nat.lt_or_ge j P.length with hj | hj
        · rw [List.getElem?_append_left hj] at hq
          rw [List.getElem?_append_left (by omega)] at hc
          obtain ⟨z1, z2, z3⟩ := x5 j q' c hq hc
          obtain ⟨z4, z5⟩ := e1.used q' z2
          exact ⟨z1, z4, z5.trans z3⟩
        · have hj2 := (List.getElem?_eq_some_iff.1 hq).1
          rw [List.length_append, List.length_singleton] at hj2
          obtain rfl : j = P.length := by omega
          rw [List.getElem?_append_right (Nat.le_refl _), Nat.sub_self] at hq
          rw [y, List.getElem?_append_right (Nat.le_refl _), Nat.sub_self] at hc
          obtain rfl : q = q' := Option.some.inj hq
          obtain rfl : b = c := Option.some.inj hc
          exact ⟨x1.n ▸ hqn, by dsimp only; rw [free_wr (by omega), if_pos rfl], sct_same g1.1 hqn hb⟩
def headK (l : List It) : List UInt8 := match l with
  | x :: _ => x.k
  | [] => []
/-- Nodes on pages, as items of the one above. -/
def upP (P : List (List It)) (pages : List Nat) : List It := List.zipWith (fun l q => ⟨headK l, [], q⟩) P pages
def upM (N : List Nm) (pages : List Nat) : List Im := List.zipWith (fun y q => ⟨headK (ps y.l), none, 0, [], q⟩) N pages
theorem upM_ps : ∀ (N : List Nm) (pages : List Nat), ps (upM N pages) = upP (N.map fun y => ps y.l) pages
  | [], _ => by simp [upM, upP]
  | _ :: _, [] => by simp [upM, upP]
  | y :: N, q :: P => by
    have := upM_ps N P
    unfold upM upP at *
    rw [List.map_cons, List.zipWith_cons_cons, List.zipWith_cons_cons, ← this]
    rfl
theorem upM_snoc : ∀ {N : List Nm} {P : List Nat} {i : Nat} {y : Nm} (q : Nat), P.length = i → N[i]? = some y → upM N (P ++ [q]) = upM N P ++ [⟨headK (ps y.l), none, 0, [], q⟩]
  | y :: N, [], i, z, q, h1, h2 => by
    subst h1
    obtain rfl : y = z := Option.some.inj h2
    simp [upM]
  | y :: N, p :: P, i, z, q, h1, h2 => by
    subst h1
    have := upM_snoc (N := N) (P := P) q rfl (y := z) (by simpa using h2)
    unfold upM at *
    rw [List.cons_append, List.zipWith_cons_cons, List.zipWith_cons_cons, this]
    rfl
  | [], _, _, _, _, _, h => nomatch h
theorem upM_len {N : List Nm} {P : List Nat} (h : P.length ≤ N.length) : (upM N P).length = P.length := by
  unfold upM; rw [List.length_zipWith]; omega
/-- Items without values. -/
def nilV (l : List Im) : Prop := ∀ x ∈ l, x.A = none ∧ x.cp = 0 ∧ x.b = []
theorem upM_nil (N : List Nm) (P : List Nat) : nilV (upM N P) := fun x hx => by
  unfold upM at hx
  rw [List.mem_iff_getElem?] at hx
  obtain ⟨i, hi⟩ := hx
  rw [List.getElem?_zipWith] at hi
  split at hi
  · cases hi; exact ⟨rfl, rfl, rfl⟩
  · cases hi
theorem nilV.ok {l : List Im} (h : nilV l) (X : HP) : okV X l := fun x hx => by
  obtain ⟨h1, h2, h3⟩ := h x hx
  unfold Im.v
  rw [h1, h2, h3]
  exact vwb_nil X
end Go.Proofs.Ytgeldfgcicjidaa
