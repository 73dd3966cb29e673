/-
  Slices that may be appended to; bytes of one's own, bytes that are read; slices of one's own, opened.
-/
import Derived.Test.YtgeldfgcicjidaaS11
import Derived.Test.YtgeldfgcicjidaaTy
namespace Go.Proofs.Ytgeldfgcicjidaa
open Go.RowKit

/-- A slice that may be appended to: one's own, or one that is full, of something that is only read. -/
def apd (X : HP) (v : Value) (T k n : Nat) (cs : List Value) : HP := fun h => own v T k n cs h ∨ ∃ A, v = .slice A n n ∧ Vw X v k n cs
section
variable {P : Program} {ω : Amb} {m : Nat} {ds : List Deferred} {Γ Γ' Γ1 Γ2 Δ : List HP} {β β' : List (Nat × Value)} {r : Option Nat} {ops : Array Oper} {Q : Exit → Act → World → Prop} {rest : List Oper} {K : Act → World → Prop}
variable {ty : TypeId} {pos : String} {af : Array Edge} {gd : Option (Nat × Bool)} {x y : Operand} {v u : Value} {g off k n c : Nat} {T t e : TypeId} {cs vs : List Value} {A : Option Addr} {X F : HP} {w w' : World} {h0 : Part}
theorem run_append_apd {d : Nat} {z : Value} {by_ q : Nat} {tx : TypeId} {news : List Value} (hw : wants ops β gd = some true) (hd : d < m) (ht : P.underlying t = some (.slice e)) (hE : EI P e z k by_)
    (hx : ev β x = some v) (hy : ev β y = some u) (p : Sel (apd X v e k n cs) Γ Γ') (px : Sel X Γ' Γ2) (hs : ∀ w, Holds ω Γ' w → Src P k tx u q news w) (hq : 0 < q) (hby : (n + q) * by_ ≤ 140737488355328) (h63 : n + q ≤ maxLen)
    (kk : ∀ v', St ω m ds (own v' e k (n + q) (cs ++ news) :: Γ') ((d, v') :: β) (Run P r ops Q rest)) :
    St ω m ds Γ β (Run P r ops Q (⟨some d, .call { callee := .builtin .append, args := #[x, y], argTypes := #[t, tx] }, ty, pos, af, gd⟩ :: rest)) := by
  refine St.sel p fun a w hh hb => ?_
  obtain ⟨ba, h1, h2, l1, l2, ap, hp, hr⟩ := id hh
  rcases hp with ho | ⟨A, rfl, hv⟩
  · have hh' : Holds ω (own v e k n cs :: Γ') w := ⟨ba, h1, h2, l1, l2, ap, ho, hr⟩
    exact run_append_src hw hd ht hE hx hy .head (fun w hw => hs w hw.drop) hby h63 (fun v' _ => kk v') a w hh' hb
  · exact run_append_new hw hd ht hE hx hy hv px hs (by omega) hby h63 kk a w hh.drop hb
theorem St.apd_own (h : St ω m ds (apd X v T k n cs :: Γ) β K) : St ω m ds (own v T k n cs :: Γ) β K := St.ent (fun _ => .inl) h
theorem St.apd_full (hv : Vw X (.slice A n n) k n cs) (h : St ω m ds (apd X (.slice A n n) T k n cs :: Γ) β K) : St ω m ds Γ β K := fun a w b c =>
  h a w ⟨b.1, fun _ => none, Part.of w, fun _ _ e => (by cases e), Part.le_refl _, fun _ => .inl rfl, .inr ⟨A, rfl, hv⟩, b.2⟩ c
end
/-- Bytes of one's own. -/
def bytesO (v : Value) (bs : List UInt8) : HP := own v 5 1 bs.length (bs.map bcell)
/-- Bytes that can be read. -/
def VwB (F : HP) (v : Value) (bs : List UInt8) : Prop := Vw F v 1 bs.length (bs.map bcell)

theorem Vw.clip {F : HP} {A : Option Addr} {n c k : Nat} {cs : List Value} (h : Vw F (.slice A n c) k n cs) : Vw F (.slice A n n) k n cs := fun p hp => by
  obtain ⟨A', c', he, h1, h2, h3, hA⟩ := h p hp
  cases he
  exact ⟨A, n, rfl, Nat.le_refl _, by omega, h3, hA⟩
theorem src_pts {ω : Amb} {Γ Γ1 : List HP} {g T n k : Nat} {cs : List Value} {tx e' : TypeId} (hk : Try.prog.underlying tx = some (.slice e')) (p : Sel (pts g T cs) Γ Γ1) (hl : cs.length = n * k) (hm : n ≤ maxLen) (h1 : cs.all (·.oneCell') = true) :
    ∀ w, Holds ω Γ w → Src Try.prog k tx (.slice (some ⟨g, 0, none⟩) n n) n cs w := fun w hw =>
  src_of_sl hk ((vw_pts (off := 0) (Nat.le_refl _) hm hl (by simp)).sl p hw) (fun u hu => List.all_eq_true.1 h1 u hu)
theorem own_eq {v : Value} {T : TypeId} {k n n' : Nat} {cs cs' : List Value} (hn : n = n') (hc : cs = cs') : own v T k n cs = own v T k n' cs' := by subst hn hc; rfl
theorem own_bytes {v : Value} {n : Nat} {cs : List Value} {bs : List UInt8} (hn : n = bs.length) (hc : cs = bs.map bcell) : own v 5 1 n cs = bytesO v bs := by subst hn hc; rfl

theorem vw_bytes {v : Value} {bs : List UInt8} : VwB (bytesO v bs) v bs := vw_own
theorem vwb_nil (F : HP) : VwB F (.slice none 0 0) [] := vw_nil F 1

theorem subA_zero (g c k : Nat) : subA (some ⟨g, 0, none⟩) c 0 k = some ⟨g, 0, none⟩ := by
  unfold subA
  split
  · rfl
  · simp [Addr.add]
section
variable {P : Program} {ω : Amb} {m : Nat} {ds : List Deferred} {Γ Γ' Γ1 Γ2 Δ : List HP} {β β' : List (Nat × Value)} {v u : Value} {n k : Nat} {T : TypeId} {cs : List Value} {K : Act → World → Prop}
theorem St.sub (p : Pick Δ Γ Γ') (h : St ω m ds Δ β K) : St ω m ds Γ β K := fun a w b c => h a w (b.sub p) c
/-- Several parts as one. -/
theorem St.pack {Ps : List HP} (p : Pick Ps Γ Γ') (h : St ω m ds (Sep Ps :: Γ') β K) : St ω m ds Γ β K := fun a w b c => h a w (Holds.flat.2 (Holds.unpick (b.pick p))) c
/-- A slice of one's own is nil, or the head of a block. -/
theorem St.own_open (h0 : v = .slice none 0 0 → n = 0 → cs = [] → St ω m ds Γ β K) (h1 : ∀ g c tail, v = .slice (some ⟨g, 0, none⟩) n c → n ≤ c → c ≤ maxLen → (cs ++ tail).length = c * k → cs.length = n * k → St ω m ds (pts g T (cs ++ tail) :: Γ) β K) : St ω m ds (own v T k n cs :: Γ) β K := fun a w b c => by
  obtain ⟨ba, p1, p2, l1, l2, ap, ⟨hl, hp⟩, hr⟩ := id b
  rcases hp with ⟨e1, e2⟩ | ⟨g, c', tail, e1, e2, e3, e4, e5⟩
  · exact h0 e1 e2 (by subst e2; simpa using hl) a w b.drop c
  · exact h1 g c' tail e1 e2 e3 e4 hl a w ⟨ba, p1, p2, l1, l2, ap, e5, hr⟩ c
theorem pts_own' {g n c : Nat} (h1 : n ≤ c) (h2 : c ≤ maxLen) {tail : List Value} (h3 : (cs ++ tail).length = c * k) (h4 : cs.length = n * k) : ∀ h, pts g T (cs ++ tail) h → own (.slice (some ⟨g, 0, none⟩) n c) T k n cs h := fun _ hp =>
  ⟨h4, .inr ⟨g, c, tail, rfl, h1, h2, h3, hp⟩⟩
theorem St.own_some (hn : 0 < n) (h1 : ∀ g c, v = .slice (some ⟨g, 0, none⟩) n c → n ≤ c → c ≤ maxLen → cs.length = n * k → St ω m ds (own v T k n cs :: Γ) β K) : St ω m ds (own v T k n cs :: Γ) β K := fun a w b c => by
  obtain ⟨ba, p1, p2, l1, l2, ap, ⟨hl, hp⟩, hr⟩ := id b
  rcases hp with ⟨e1, e2⟩ | ⟨g, c', tail, e1, e2, e3, e4, e5⟩
  · omega
  · exact h1 g c' e1 e2 e3 hl a w b c
/-- A store into one's own slice. -/
theorem run_store_own {g off c : Nat} {x y : Operand} {r : Option Nat} {ops : Array Oper} {Q : Exit → Act → World → Prop} {rest : List Oper} {t ty : TypeId} {pos : String} {af : Array Edge} {gd : Option (Nat × Bool)} {b : Bool}
    (hw : wants ops β gd = some true) (hx : ev β x = some (.pointer (some ⟨g, off, none⟩))) (hy : ev β y = some u) (p : Sel (own (.slice (some ⟨g, 0, none⟩) n c) T k n cs) Γ Γ') (hT : rowOf P t = some (1, b)) (h1 : u.oneCell' = true) (hle : off < cs.length)
    (kk : St ω m ds (own (.slice (some ⟨g, 0, none⟩) n c) T k n (cs.set off u) :: Γ') β (Run P r ops Q rest)) :
    St ω m ds Γ β (Run P r ops Q (⟨none, .store t x y, ty, pos, af, gd⟩ :: rest)) := by
  refine St.sel p (St.own_open (fun h _ _ => by cases h) (fun g' c' tail hg h2 h3 h4 h5 => ?_))
  cases hg
  refine run_store hw hx hy .head hT h1 (Nat.ble_eq_true_of_le (by rw [List.length_append]; omega)) rfl ?_
  rw [List.set_append_left _ _ hle]
  exact St.ent (pts_own' h2 h3 (by simpa using h4) (by simpa using h5)) kk
end
theorem flat_drop {α : Type} {f : α → List Value} {k : Nat} (hk : ∀ x, (f x).length = k) : ∀ (l : List α) (i : Nat), (l.flatMap f).drop (i * k) = (l.drop i).flatMap f
  | l, 0 => by simp
  | [], i + 1 => by simp
  | x :: l, i + 1 => by
    rw [List.flatMap_cons, List.drop_succ_cons, ← flat_drop hk l i, show (i + 1) * k = (f x).length + i * k by rw [hk, Nat.succ_mul]; omega, ← List.drop_drop, List.drop_left]
theorem flat_at {α : Type} {f : α → List Value} {k : Nat} (hk : ∀ x, (f x).length = k) {l : List α} {i : Nat} {x : α} (h : l[i]? = some x) : ((l.flatMap f).drop (i * k)).take k = f x := by
  rw [flat_drop hk]
  obtain ⟨hi, rfl⟩ := List.getElem?_eq_some_iff.1 h
  rw [List.drop_eq_getElem_cons hi, List.flatMap_cons, List.take_left' (hk _)]
theorem flat_cell {α : Type} {f : α → List Value} {k : Nat} (hk : ∀ x, (f x).length = k) {l : List α} {i j : Nat} {x : α} {u : Value} (h : l[i]? = some x) (hj : j < k) (hu : (f x)[j]? = some u) : (l.flatMap f)[i * k + j]? = some u := by
  have e : (((l.flatMap f).drop (i * k)).take k)[j]? = some u := by rw [flat_at hk h]; exact hu
  rwa [List.getElem?_take, if_pos hj, List.getElem?_drop] at e
theorem flat_take_le {α β : Type} (f : α → List β) (l : List α) (i : Nat) : ((l.take i).flatMap f).length ≤ (l.flatMap f).length := by
  conv => rhs; rw [← List.take_append_drop i l]
  rw [List.flatMap_append, List.length_append]; omega
theorem flat_take_succ {α β : Type} (f : α → List β) {l : List α} {i : Nat} {x : α} (h : l[i]? = some x) : (l.take (i + 1)).flatMap f = (l.take i).flatMap f ++ f x := by
  rw [List.take_add_one, h, List.flatMap_append]
  simp
theorem flat_len {α : Type} {f : α → List Value} {k : Nat} (hk : ∀ x, (f x).length = k) : ∀ l : List α, (l.flatMap f).length = l.length * k
  | [] => by simp
  | x :: l => by rw [List.flatMap_cons, List.length_append, hk, flat_len hk l, List.length_cons, Nat.succ_mul]; omega
theorem sl_part {w : World} {F : Nat → Prop} {π : Part} {k n : Nat} {v : Value} {cs : List Value} (hk : 0 < k) (s : Sl w F k v n cs) (hF : ∀ b, F b → ∃ o, π b = some o) (l : π.le (Part.of w)) : SlP π v k n cs := by
  obtain ⟨A, c, rfl, h1, h2, h3, hA⟩ := s
  refine ⟨A, c, rfl, h1, h2, h3, fun hn => ?_⟩
  obtain ⟨g, o, rfl, hlt, hG, hr⟩ := hA hn
  have h0 : 0 < cs.length := by rw [h3]; exact Nat.mul_pos hn hk
  have hc := hr 0 _ (List.getElem?_eq_getElem h0)
  obtain ⟨ob, hob⟩ := hF g hG
  have hw := l _ _ hob
  unfold World.cell? at hc
  split at hc
  · rename_i row T fr hb
    have hbb : w.heap[g]? = some (.cells row T fr) := hb
    have e : ob = .cells row T fr := Option.some.inj ((show w.heap[g]? = some ob from hw).symm.trans hbb)
    refine ⟨g, o, row, T, fr, rfl, by rw [hob, e], fun j u hu => ?_⟩
    have := hr j u hu
    rw [cell_of_row w g (o + j) row T fr hbb] at this
    exact this
  · cases hc
theorem own_new {w w' : World} {ω : Amb} {Γ : List HP} {T k n : Nat} {v : Value} {cs : List Value} (hh : Holds ω Γ w) (hf : Fr nowhere w w') (hr : w'.ownsRow w.heap.size T k v n cs) : Holds ω (own v T k n cs :: Γ) w' :=
  hh.more hf (fun x => if v.ownBlock = some x then w'.heap[x]? else none) (fun x o e => by
    split at e
    · rename_i h; exact ⟨(own_blk hr h).choose_spec.2, e⟩
    · cases e) (own_of_row (own_base hr (fun _ _ _ => Nat.zero_le _)) _ (fun g e => by simp [e]))
section
variable {ω : Amb} {n : Nat} {ds : List Deferred} {Γ : List HP} {β : List (Nat × Value)} {Q : Exit → Act → World → Prop}
theorem St.sc_n (h : St ω n ds Γ β (Q .normal)) : St ω n ds Γ β (Exit.noGoto Q .normal) := h
theorem St.sc_r (h : St ω n ds Γ β (Q .ret)) : St ω n ds Γ β (Exit.noGoto Q .ret) := h
theorem St.sc_x {i : Nat} (h : St ω n ds Γ β (Q (.exit i))) : St ω n ds Γ β (Exit.noGoto Q (.exit i)) := h
end
end Go.Proofs.Ytgeldfgcicjidaa
