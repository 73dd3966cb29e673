/-
  Slices that may be appended to; bytes of one's own, bytes that are read; slices of one's own, opened.
-/
import Derived.Test.YtnfmmfodnhmfaaaS11
import Derived.Test.YtnfmmfodnhmfaaaTy
namespace Go.Proofs.Ytnfmmfodnhmfaaa
open Go.RowKit

/-- A slice that may be appended to: one's own, or one that is full, of something that is only read. -/
def apd (X : HP) (v : Value) (T k n : Nat) (cs : List Value) : HP := fun h => own v T k n cs h ∨ ∃ A, v = .slice A n n ∧ Vw X v k n cs
section
variable {P : Program} {ω : Amb} {m : Nat} {ds : List Deferred} {Γ Γ' Γ1 Γ2 Δ : List HP} {β β' : List (Nat × Value)} {r : Option Nat} {ops : Array Oper} {Q : Exit → Act → World → Prop} {rest : List Oper} {K : Act → World → Prop}
variable {ty : TypeId} {pos : String} {af : Array Edge} {gd : Option (Nat × Bool)} {x y : Operand} {v u : Value} {g off k n c : Nat} {T t e : TypeId} {cs vs : List Value} {A : Option Addr} {X F : HP} {w w' : World} {h0 : Part}
theorem run_append_apd {d : Nat} {z : Value} {by_ q : Nat} {tx : TypeId} {news : List Value} (hw : wants ops β gd = some true) (hd : d < m) (ht : P.underlying t = some (.slice e)) (hE : EI P e z k by_)
    (hx : ev β x = some v) (hy : ev β y = some u) (p : Sel (apd X v e k n cs) Γ Γ') (px : Sel X Γ' Γ2) (hs : ∀ w, Holds ω Γ' w → Src P k tx u q news w) (hq : 0 < q) (hby : (n + q) * by_ ≤ 140737488355328) (h63 : n + q ≤ maxLen)
    (kk : ∀ v', St ω m ds (own v' e k (n + q) (cs ++ news) :: Γ') ((d, v') :: β) (Run P r ops Q rest)) :
    St ω m ds Γ β (Run P r ops Q (⟨some d, .call { callee := .builtin .append, args := #[x, y], argTypes := #[t, tx] }, ty, pos, af, gd⟩ :: rest)) := by
  refine St.sel p fun a w hh hb => ?_
  obtain ⟨ba, h1, h2, l1, l2, ap, hp, hr⟩ := id hh
  rcases hp with ho | ⟨A, rfl, hv⟩
  · have hh' : Holds ω (own v e k n cs :: Γ') w := ⟨ba, h1, h2, l1, l2, ap, ho, hr⟩
    exact run_append_src hw hd ht hE hx hy .head (fun w hw => hs w hw.drop) hby h63 (fun v' _ => kk v') a w hh' hb
  · exact run_append_new hw hd ht hE hx hy hv px hs (by omega) hby h63 kk a w hh.drop hb
theorem St.apd_own (h : St ω m ds (apd X v T k n cs :: Γ) β K) : St ω m ds (own v T k n cs :: Γ) β K := St.ent (fun _ => .inl) h
theorem St.apd_full (hv : Vw X (.slice A n n) k n cs) (h : St ω m ds (apd X (.slice A n n) T k n cs :: Γ) β K) : St ω m ds Γ β K := fun a w b c =>
  h a w ⟨b.1, fun _ => none, Part.of w, fun _ _ e => (by cases e), Part.le_refl _, fun _ => .inl rfl, .inr ⟨A, rfl, hv⟩, b.2⟩ c
end
/-- Bytes of one's own. -/
def bytesO (v : Value) (bs : List UInt8) : HP := own v 5 1 bs.length (bs.map bcell)
/-- Bytes that can be read. -/
def VwB (F : HP) (v : Value) (bs : List UInt8) : Prop := Vw F v 1 bs.length (bs.map bcell)

theorem Vw.clip {F : HP} {A : Option Addr} {n c k : Nat} {cs : List Value} (h : Vw F (.slice A n c) k n cs) : Vw F (.slice A n n) k n cs := fun p hp => by
  obtain ⟨A', c', he, h1, h2, h3, hA⟩ := h p hp
  cases he
  exact ⟨A, n, rfl, Nat.le_refl _, by omega, h3, hA⟩
theorem src_pts {ω : Amb} {Γ Γ1 : List HP} {g T n k : Nat} {cs : List Value} {tx e' : TypeId} (hk : Try.prog.underlying tx = some (.slice e')) (p : Sel (pts g T cs) Γ Γ1) (hl : cs.length = n * k) (hm : n ≤ maxLen) (h1 : cs.all (·.oneCell') = true) :
    ∀ w, Holds ω Γ w → Src Try.prog k tx (.slice (some ⟨g, 0, none⟩) n n) n cs w := fun w hw =>
  src_of_sl hk ((vw_pts (off := 0) (Nat.le_refl _) hm hl (by simp)).sl p hw) (fun u hu => List.all_eq_true.1 h1 u hu)
theorem own_eq {v : Value} {T : TypeId} {k n n' : Nat} {cs cs' : List Value} (hn : n = n') (hc : cs = cs') : own v T k n cs = own v T k n' cs' := by subst hn hc; rfl
theorem own_bytes {v : Value} {n : Nat} {cs : List Value} {bs : List UInt8} (hn : n = bs.length) (hc : cs = bs.map bcell) : own v 5 1 n cs = bytesO v bs := by subst hn hc; rfl

theorem vw_bytes {v : Value} {bs : List UInt8} : VwB (bytesO v bs) v bs := vw_own
theorem vwb_nil (F : HP) : VwB F (.slice none 0 0) [] := vw_nil F 1

theorem subA_zero (g c k : Nat) : subA (some ⟨g, 0, none⟩) c 0 k = some ⟨g, 0, none⟩ := by
  unfold subA
  split
  · rfl
  · simp [Addr.add]
section
variable {P : Program} {ω : Amb} {m : Nat} {ds : List Deferred} {Γ Γ' Γ1 Γ2 Δ : List HP} {β β' : List (Nat × Value)} {v u : Value} {n k : Nat} {T : TypeId} {cs : List Value} {K : Act → World → Prop}
/-- Several parts as one. -/
theorem St.pack {Ps : List HP} (p : Pick Ps Γ Γ') (h : St ω m ds (Sep Ps :: Γ') β K) : St ω m ds Γ β K := fun a w b c => h a w (Holds.flat.2 (Holds.unpick (b.pick p))) c
/-- A slice of one's own is nil, or the head of a block. -/
theorem St.own_open (h0 : v = .slice none 0 0 → n = 0 → cs = [] → St ω m ds Γ β K) (h1 : ∀ g c tail, v = .slice (some ⟨g, 0, none⟩) n c → n ≤ c → c ≤ maxLen → (cs ++ tail).length = c * k → cs.length = n * k → St ω m ds (pts g T (cs ++ tail) :: Γ) β K) : St ω m ds (own v T k n cs :: Γ) β K := fun a w b c => by
  obtain ⟨ba, p1, p2, l1, l2, ap, ⟨hl, hp⟩, hr⟩ := id b
  rcases hp with ⟨e1, e2⟩ | ⟨g, c', tail, e1, e2, e3, e4, e5⟩
  · exact h0 e1 e2 (by subst e2; simpa using hl) a w b.drop c
  · exact h1 g c' tail e1 e2 e3 e4 hl a w ⟨ba, p1, p2, l1, l2, ap, e5, hr⟩ c
theorem pts_own' {g n c : Nat} (h1 : n ≤ c) (h2 : c ≤ maxLen) {tail : List Value} (h3 : (cs ++ tail).length = c * k) (h4 : cs.length = n * k) : ∀ h, pts g T (cs ++ tail) h → own (.slice (some ⟨g, 0, none⟩) n c) T k n cs h := fun _ hp =>
  ⟨h4, .inr ⟨g, c, tail, rfl, h1, h2, h3, hp⟩⟩
theorem St.own_some (hn : 0 < n) (h1 : ∀ g c, v = .slice (some ⟨g, 0, none⟩) n c → n ≤ c → c ≤ maxLen → cs.length = n * k → St ω m ds (own v T k n cs :: Γ) β K) : St ω m ds (own v T k n cs :: Γ) β K := fun a w b c => by
  obtain ⟨ba, p1, p2, l1, l2, ap, ⟨hl, hp⟩, hr⟩ := id b
  rcases hp with ⟨e1, e2⟩ | ⟨g, c', tail, e1, e2, e3, e4, e5⟩
  · omega
  · exact h1 g c' e1 e2 e3 hl a w b c
/-- A store into one's own slice. -/
theorem run_store_own {g off c : Nat} {x y : Operand} {r : Option Nat} {ops : Array Oper} {Q : Exit → Act → World → Prop} {rest : List Oper} {t ty : TypeId} {pos : String} {af : Array Edge} {gd : Option (Nat × Bool)} {b : Bool}
    (hw : wants ops β gd = some true) (hx : ev β x = some (.pointer (some ⟨g, off, none⟩))) (hy : ev β y = some u) (p : Sel (own (.slice (some ⟨g, 0, none⟩) n c) T k n cs) Γ Γ') (hT : rowOf P t = some (1, b)) (h1 : u.oneCell' = true) (hle : off < cs.length)
    (kk : St ω m ds (own (.slice (some ⟨g, 0, none⟩) n c) T k n (cs.set off u) :: Γ') β (Run P r ops Q rest)) :
    St ω m ds Γ β (Run P r ops Q (⟨none, .store t x y, ty, pos, af, gd⟩ :: rest)) := by
  refine St.sel p (St.own_open (fun h _ _ => by cases h) (fun g' c' tail hg h2 h3 h4 h5 => ?_))
  cases hg
  refine run_store hw hx hy .head hT h1 (Nat.ble_eq_true_of_le (by rw [List.length_append]; omega)) rfl ?_
  rw [List.set_append_left _ _ hle]
  exact St.ent (pts_own' h2 h3 (by simpa using h4) (by simpa using h5)) kk
end
end Go.Proofs.Ytnfmmfodnhmfaaa
