/-
  Short steps: the laws of the walk with their small duties paid by themselves.
-/
import Derived.Test.YtgeldfgcicjidaaS12
namespace Go.Proofs.Ytgeldfgcicjidaa
open Go.RowKit
set_option linter.unusedSimpArgs false
set_option linter.unusedVariables false

section
variable {P : Program} {ω : Amb} {n : Nat} {ds : List Deferred} {Γ Γ' Γ1 Γ2 Δ : List HP} {β β' : List (Nat × Value)} {r : Option Nat} {ops : Array Oper} {Q : Exit → Act → World → Prop} {rest : List Oper} {K : Act → World → Prop}
variable {d : Option Tmp} {ty : TypeId} {pos : String} {af : Array Edge} {gd : Option (Nat × Bool)} {x y : Operand} {v u : Value} {g off k o s : Nat} {T t e : TypeId} {cs vs : List Value} {X : HP} {w w' : World}

theorem rr {d : Nat} {op : Op} (h : Reads P ω n ds Γ β ⟨some d, op, ty, pos, af, gd⟩ v) (k : St ω n ds Γ ((d, v) :: β) (Run P r ops Q rest))
    (hw : wants ops β gd = some true := by exact rfl) (hd : d < n := by decide) (hop : ∀ c, op ≠ .defer c := by exact fun _ => nofun) : St ω n ds Γ β (Run P r ops Q (⟨some d, op, ty, pos, af, gd⟩ :: rest)) := run_read hw hd hop h k
theorem sk {o : Oper} (k : St ω n ds Γ (match o.dst with | some d => (d, undef) :: β | none => β) (Run P r ops Q rest)) (hw : wants ops β o.guard = some false := by exact rfl)
    (hd : (match o.dst with | some d => decide (d < n) && (look β d).isNone | none => true) = true := by exact rfl) : St ω n ds Γ β (Run P r ops Q (o :: rest)) := run_skip hd hw k
theorem rd_pick {c : Operand} {b : Bool} (hc : ev β c = some (.bool b)) (h : (match b with | true => ev β x | false => ev β y) = some v) : Reads P ω n ds Γ β ⟨d, .pick c x y, ty, pos, af, gd⟩ v := by
  cases b
  · exact rd_pick_f hc h
  · exact rd_pick_t hc h
theorem rd_fa {i off' : Nat} {b : Bool} (hx : ev β x = some (.pointer (some ⟨g, off, none⟩))) (hf : fldOf P t i = some (o, s + 1, b)) (h : off + o = off' := by first | exact Nat.zero_add _ | exact rfl) : Reads P ω n ds Γ β ⟨d, .fieldAddr t x i, ty, pos, af, gd⟩ (.pointer (some ⟨g, off', none⟩)) := by
  subst h; exact rd_fieldAddr hx hf
theorem rd_ld (hx : ev β x = some (.pointer (some ⟨g, off, none⟩))) (hT : rowOf P t = some (k, false)) (hc : CellsIn ω Γ g off [v] := by exact cells_pts1 (by repeat (first | with_reducible exact Sel.head | apply Sel.tail)) rfl) : Reads P ω n ds Γ β ⟨d, .load t x, ty, pos, af, gd⟩ v := rd_load hx hT hc
theorem rd_ldr (vs : List Value) (hx : ev β x = some (.pointer (some ⟨g, off, none⟩))) (hT : rowOf P t = some (k, true)) (hc : CellsIn ω Γ g off vs := by exact cells_pts (by repeat (first | with_reducible exact Sel.head | apply Sel.tail)) rfl) (hl : vs.length = k := by exact rfl) : Reads P ω n ds Γ β ⟨d, .load t x, ty, pos, af, gd⟩ (.agg vs.toArray) := rd_load_row hx hT hl hc
theorem rd_addi {i j : Int} {t t' : TypeId} (hx : ev β x = some (.int .i64 i)) (hy : ev β y = some (.int .i64 j)) (h : -9223372036854775808 ≤ i + j ∧ i + j ≤ 9223372036854775807 := by omega) : Reads P ω n ds Γ β ⟨d, .binOp .add t x y t', ty, pos, af, gd⟩ (.int .i64 (i + j)) :=
  (rd_add hx hy).eq (congrArg _ (IntWalk.i64_in _ (by omega)))
theorem rd_subi {i j : Int} {t t' : TypeId} (hx : ev β x = some (.int .i64 i)) (hy : ev β y = some (.int .i64 j)) (h : -9223372036854775808 ≤ i - j ∧ i - j ≤ 9223372036854775807 := by omega) : Reads P ω n ds Γ β ⟨d, .binOp .sub t x y t', ty, pos, af, gd⟩ (.int .i64 (i - j)) :=
  (rd_sub hx hy).eq (congrArg _ (IntWalk.i64_in _ (by omega)))
theorem rd_muli {i j : Int} {t t' : TypeId} (hx : ev β x = some (.int .i64 i)) (hy : ev β y = some (.int .i64 j)) (h : -9223372036854775808 ≤ i * j ∧ i * j ≤ 9223372036854775807 := by omega) : Reads P ω n ds Γ β ⟨d, .binOp .mul t x y t', ty, pos, af, gd⟩ (.int .i64 (i * j)) :=
  (rd_mul hx hy).eq (congrArg _ (IntWalk.i64_in _ (by omega)))
theorem rd_addu {i j : Int} {t t' : TypeId} (hx : ev β x = some (.int .u64 i)) (hy : ev β y = some (.int .u64 j)) (h : 0 ≤ i + j ∧ i + j ≤ 18446744073709551615 := by omega) : Reads P ω n ds Γ β ⟨d, .binOp .add t x y t', ty, pos, af, gd⟩ (.int .u64 (i + j)) :=
  (rd_add hx hy).eq (congrArg _ (IntWalk.u64_in _ (by omega)))
theorem rd_cvi {kk : IntKind} {i : Int} {s t : TypeId} {D : TypeDesc} (hs : P.underlying s = some D) (ht : P.underlying t = some (.int .i64)) (hx : ev β x = some (.int kk i)) (h : -9223372036854775808 ≤ i ∧ i ≤ 9223372036854775807 := by omega) : Reads P ω n ds Γ β ⟨d, .convert s t x, ty, pos, af, gd⟩ (.int .i64 i) :=
  (rd_conv hs ht hx).eq (congrArg _ (IntWalk.i64_in _ (by omega)))
theorem rd_cvu {kk : IntKind} {i : Int} {s t : TypeId} {D : TypeDesc} (hs : P.underlying s = some D) (ht : P.underlying t = some (.int .u64)) (hx : ev β x = some (.int kk i)) (h : 0 ≤ i ∧ i ≤ 18446744073709551615 := by omega) : Reads P ω n ds Γ β ⟨d, .convert s t x, ty, pos, af, gd⟩ (.int .u64 i) :=
  (rd_conv hs ht hx).eq (congrArg _ (IntWalk.u64_in _ (by omega)))
theorem rd_bd {zs : List Value} {pl : List (Nat × Nat)} {l : List (Nat × Operand)} {us : List Value} (vs : List Value) (hz : zeroOf P t = some zs) (hp : placesOf P t = some pl) (he : evs β (l.map (·.2)) = some us := by exact rfl)
    (hv : fillM pl 0 0 zs ((l.map (·.1)).zip us) = some vs := by exact rfl) : Reads P ω n ds Γ β ⟨d, .build t l.toArray, ty, pos, af, gd⟩ (.agg vs.toArray) := rd_buildM hz hp he hv
theorem r_al {d : Nat} {zs : List Value} (hz : zeroOf P t = some zs) (k : ∀ g, St ω n ds (pts g t zs :: Γ) ((d, .pointer (some ⟨g, 0, none⟩)) :: β) (Run P r ops Q rest)) (hw : wants ops β gd = some true := by exact rfl) (hd : d < n := by decide) :
    St ω n ds Γ β (Run P r ops Q (⟨some d, .alloc t, ty, pos, af, gd⟩ :: rest)) := run_alloc hw hd hz k
theorem r_bx {d : Nat} (k : ∀ g, St ω n ds (pts g t vs :: Γ) ((d, .pointer (some ⟨g, 0, none⟩)) :: β) (Run P r ops Q rest)) (hx : ev β x = some (.agg vs.toArray) := by exact rfl) (hw : wants ops β gd = some true := by exact rfl) (hd : d < n := by decide) :
    St ω n ds Γ β (Run P r ops Q (⟨some d, .box t x, ty, pos, af, gd⟩ :: rest)) := run_box_row hw hd hx k
theorem r_b1 {d : Nat} (k : ∀ g, St ω n ds (pts g t [v] :: Γ) ((d, .pointer (some ⟨g, 0, none⟩)) :: β) (Run P r ops Q rest)) (hx : ev β x = some v := by exact rfl) (h1 : v.oneCell' = true := by exact rfl) (hw : wants ops β gd = some true := by exact rfl) (hd : d < n := by decide) :
    St ω n ds Γ β (Run P r ops Q (⟨some d, .box t x, ty, pos, af, gd⟩ :: rest)) := run_box_one hw hd hx h1 k
theorem r_st {b : Bool} {cs' : List Value} (hT : rowOf P t = some (1, b)) (kk : St ω n ds (pts g T cs' :: Γ') β (Run P r ops Q rest)) (hx : ev β x = some (.pointer (some ⟨g, off, none⟩)) := by exact rfl) (hy : ev β y = some u := by exact rfl)
    (p : Sel (pts g T cs) Γ Γ' := by repeat (first | with_reducible exact Sel.head | apply Sel.tail)) (h1 : u.oneCell' = true := by exact rfl) (hle : Nat.ble (off + 1) cs.length = true := by exact rfl)
    (hs : cs.set off u = cs' := by (simp only [List.set_cons_succ, List.set_cons_zero]; exact rfl)) (hw : wants ops β gd = some true := by exact rfl) :
    St ω n ds Γ β (Run P r ops Q (⟨none, .store t x y, ty, pos, af, gd⟩ :: rest)) := run_store hw hx hy p hT h1 hle hs kk
theorem r_sa {b : Bool} (hT : rowOf P t = some (k, b)) (kk : St ω n ds (pts g T vs :: Γ') β (Run P r ops Q rest)) (hx : ev β x = some (.pointer (some ⟨g, 0, none⟩)) := by exact rfl) (hy : ev β y = some (.agg vs.toArray) := by exact rfl)
    (p : Sel (pts g T cs) Γ Γ' := by repeat (first | with_reducible exact Sel.head | apply Sel.tail)) (hk : vs.length = k := by exact rfl) (h1 : vs.all (·.oneCell') = true := by exact rfl) (hle : cs.length = k := by exact rfl) (hw : wants ops β gd = some true := by exact rfl) :
    St ω n ds Γ β (Run P r ops Q (⟨none, .store t x y, ty, pos, af, gd⟩ :: rest)) := run_store_all hw hx hy p hT hk h1 hle kk
theorem r_sm {b : Bool} {cs' : List Value} (hT : rowOf P t = some (k, b)) (kk : St ω n ds (pts g T cs' :: Γ') β (Run P r ops Q rest)) (hx : ev β x = some (.pointer (some ⟨g, off, none⟩)) := by exact rfl) (hy : ev β y = some (.agg vs.toArray) := by exact rfl)
    (p : Sel (pts g T cs) Γ Γ' := by repeat (first | with_reducible exact Sel.head | apply Sel.tail)) (hk : vs.length = k := by exact rfl) (h1 : vs.all (·.oneCell') = true := by exact rfl) (hle : Nat.ble (off + k) cs.length = true := by exact rfl)
    (hs : setL cs off vs = cs' := by (simp only [setL, List.length_cons, List.length_nil, Nat.reduceAdd, List.take_succ_cons, List.take_zero, List.drop_succ_cons, List.drop_zero, List.cons_append, List.nil_append, List.append_nil]; exact rfl)) (hw : wants ops β gd = some true := by exact rfl) :
    St ω n ds Γ β (Run P r ops Q (⟨none, .store t x y, ty, pos, af, gd⟩ :: rest)) := run_store_mid hw hx hy p hT hk h1 hle hs kk
theorem rc {d : Nat} {f : FuncId} {l : List Operand} {vs : List Value} {tys : Array TypeId} {Ps : List HP} {α : Sort _} {φ : α → Prop} {ret : α → Value} {Qs : α → List HP}
    (hl : evs β l = some vs := by exact rfl) (hp : Pick Ps Γ Γ' := by repeat (first | exact Pick.nil | apply Pick.cons (by repeat (first | with_reducible exact Sel.head | apply Sel.tail)))) (hs : Spec P f vs Ps (Sep Γ') φ ret Qs)
    (k : ∀ x, φ x → St ω n ds (Qs x ++ Γ') ((d, ret x) :: β) (Run P r ops Q rest)) (hw : wants ops β gd = some true := by exact rfl) (hd : d < n := by decide) (hf : hasBody P f = true := by kernel_rfl) :
    St ω n ds Γ β (Run P r ops Q (⟨some d, .call { callee := .value (.func f), args := l.toArray, argTypes := tys }, ty, pos, af, gd⟩ :: rest)) := run_spec hw hd hf hl hp hs k
/-- A call of a function value. -/
theorem rcv {d : Nat} {gop : Operand} {f : FuncId} {l : List Operand} {vs cap : List Value} {tys : Array TypeId} {Ps : List HP} {α : Sort _} {φ : α → Prop} {ret : α → Value} {Qs : α → List HP}
    (hg : ev β gop = some (.func (.func f) #[] cap.toArray) := by exact rfl) (hl : evs β l = some vs := by exact rfl) (hp : Pick Ps Γ Γ' := by repeat (first | exact Pick.nil | apply Pick.cons (by repeat (first | with_reducible exact Sel.head | apply Sel.tail)))) (hs : Spec P f (vs ++ cap) Ps (Sep Γ') φ ret Qs)
    (k : ∀ x, φ x → St ω n ds (Qs x ++ Γ') ((d, ret x) :: β) (Run P r ops Q rest)) (hw : wants ops β gd = some true := by exact rfl) (hd : d < n := by decide) (hf : hasBody P f = true := by kernel_rfl) :
    St ω n ds Γ β (Run P r ops Q (⟨some d, .call { callee := .value gop, args := l.toArray, argTypes := tys }, ty, pos, af, gd⟩ :: rest)) :=
  run_call_any hw hf hg hl fun a w hh hb => by
    have h := hs ω w (hh.pick hp)
    rw [show vs.toArray ++ cap.toArray = (vs ++ cap).toArray by simp]
    exact h.mono fun e w' ⟨x, hφ, he, hw'⟩ => ⟨_, he, k x hφ _ _ hw'.unpick (hb.put hd _)⟩
theorem sr {id : Nat} {l : List Oper} {y : Code} (h : St ω n ds Γ β (Run P r l.toArray (Exit.then (Do P r y Q) Q) l)) : St ω n ds Γ β (Do P r (.seq (.region id l.toArray false) y) Q) := do_seq (do_region h)
theorem nx (h : St ω n ds Γ β K) : St ω n ds Γ β (Run P r ops (Exit.then K Q) []) := h
theorem St.kp (β' : List (Nat × Value)) (h : St ω n ds Γ β' K) (s : Sub β' β := by repeat (first | exact trivial | refine ⟨rfl, ?_⟩)) : St ω n ds Γ β K := St.keep s h
theorem St.kq (β' : List (Nat × Value)) (s : Sub β' β := by repeat (first | exact trivial | refine ⟨rfl, ?_⟩)) (h : St ω n ds Γ β' K) : St ω n ds Γ β K := St.keep s h
theorem St.sb (h : St ω n ds Δ β K) (p : Pick Δ Γ Γ' := by repeat (first | exact Pick.nil | apply Pick.cons (by repeat (first | with_reducible exact Sel.head | apply Sel.tail)))) : St ω n ds Γ β K := fun a w b c => h a w (b.sub p) c
theorem St.sl {P : HP} (h : St ω n ds (P :: Γ') β K) (p : Sel P Γ Γ' := by repeat (first | with_reducible exact Sel.head | apply Sel.tail)) : St ω n ds Γ β K := St.sel p h
theorem Holds.sb (b : Holds ω Γ w) (p : Pick Δ Γ Γ' := by repeat (first | exact Pick.nil | apply Pick.cons (by repeat (first | with_reducible exact Sel.head | apply Sel.tail)))) : Holds ω Δ w := b.sub p
theorem Vw.sp {c m : Nat} (a : Vw X v c m cs) (p : Sel X Γ Γ' := by repeat (first | with_reducible exact Sel.head | apply Sel.tail)) : Vw (Sep Γ) v c m cs := a.sep p
theorem loop_bk {α : Sort _} {φ : α → Prop} {β' : α → List (Nat × Value)} {Γ' : α → List HP} {μ : α → Nat} {m : Nat} (y : α) (h0 : φ y) (hμ : μ y < m := by (try dsimp only); omega) (hβ : Sub (β' y) β := by repeat (first | exact trivial | refine ⟨rfl, ?_⟩))
    (hΓ : Pick (Γ' y) Γ Γ1 := by repeat (first | exact Pick.nil | apply Pick.cons (by repeat (first | with_reducible exact Sel.head | apply Sel.tail)))) :
    St ω n ds Γ β (fun a w => ∃ y, φ y ∧ μ y < m ∧ Holds ω (Γ' y) w ∧ Binds n ds (β' y) a) := loop_back y h0 hμ hβ hΓ
theorem do_lp {c : Code} {α : Sort _} (φ : α → Prop) (β' : α → List (Nat × Value)) (Γ' : α → List HP) (μ : α → Nat) (x0 : α) (h0 : φ x0)
    (round : ∀ x, φ x → St ω n ds (Γ' x) (β' x) (Do P r c (Exit.then (fun a w => ∃ y, φ y ∧ μ y < μ x ∧ Holds ω (Γ' y) w ∧ Binds n ds (β' y) a) Q)))
    (hβ : Sub (β' x0) β := by repeat (first | exact trivial | refine ⟨rfl, ?_⟩)) (hΓ : Pick (Γ' x0) Γ Γ1 := by repeat (first | exact Pick.nil | apply Pick.cons (by repeat (first | with_reducible exact Sel.head | apply Sel.tail)))) : St ω n ds Γ β (Do P r (.loop c) Q) := do_loop φ β' Γ' μ x0 h0 hβ hΓ round
-- a region that draws its order
theorem ta {W : List (List Nat)} {fuel : Nat} {hs : List Took} {L : Array Bool} (i : Nat) {d : Nat} {o : Oper} {v : Value} (ho : ops[i]? = some o) (hr : Reads P ω n ds Γ β o v) (h : AnyS P ω n ds r ops Q W fuel ((i, β, v) :: hs) (L.setIfInBounds i true) Γ ((d, v) :: β)) (hdst : o.dst = some d := by exact rfl)
    (hok : (Region.noSelect ops && noDefer ops && takeMay ops W L i) = true := by kernel_rfl) (hd : d < n := by decide) (hQ : ∀ c d v a w, Q (.panic c) (a.put (some d) v) w → Q (.panic c) a w := by exact fun _ _ _ _ _ h => h) (hw : wants ops β o.guard = some true := by exact rfl) : AnyS P ω n ds r ops Q W (fuel + 1) hs L Γ β :=
  any_take hok ho hdst hd hQ hw hr h
theorem ts {W : List (List Nat)} {fuel : Nat} {hs : List Took} {L : Array Bool} (i : Nat) {d : Nat} {o : Oper} (h : AnyS P ω n ds r ops Q W fuel hs (L.setIfInBounds i true) Γ ((d, undef) :: β)) (ho : ops[i]? = some o := by exact rfl) (hdst : o.dst = some d := by exact rfl)
    (hok : (Region.noSelect ops && noDefer ops && takeMay ops W L i) = true := by kernel_rfl) (hd : d < n := by decide) (hQ : ∀ c d v a w, Q (.panic c) (a.put (some d) v) w → Q (.panic c) a w := by exact fun _ _ _ _ _ h => h) (hw : wants ops β o.guard = some false := by exact rfl) : AnyS P ω n ds r ops Q W (fuel + 1) hs L Γ β :=
  any_skip hok ho hdst hd hQ hw h
theorem tr {W : List (List Nat)} {fuel : Nat} {hs : List Took} {L : Array Bool} (j : Nat) {o : Oper} (h : St ω n ds Γ β (Run P r ops (Exit.then (behind P ω n ds r ops Q W fuel hs L j) nopost) [o])) (ho : ops[j]? = some o := by exact rfl) (hok : Region.ready .any ops L = [j] := by kernel_rfl) : AnyS P ω n ds r ops Q W (fuel + 1) hs L Γ β :=
  any_run hok ho h
theorem bd {W : List (List Nat)} {j : Nat} (i : Nat) {β : List (Nat × Value)} {v : Value} {hs hs' : List Took} (h' : Beh P ω n ds ops W j Γ hs hs') (h : (W.getD i []).contains j = true := by kernel_rfl) : Beh P ω n ds ops W j Γ ((i, β, v) :: hs) hs' := .drop h h'
theorem bk {W : List (List Nat)} {j : Nat} (i : Nat) {β : List (Nat × Value)} {v : Value} {o : Oper} {hs hs' : List Took} (ho : ops[i]? = some o) (hr : Reads P ω n ds Γ β o v) (h' : Beh P ω n ds ops W j Γ hs hs') (h : (W.getD i []).contains j = false := by kernel_rfl) : Beh P ω n ds ops W j Γ ((i, β, v) :: hs) ((i, β, v) :: hs') := .keep h ho hr h'
end
end Go.Proofs.Ytgeldfgcicjidaa
