/- Small laws that every seat of mine uses: frames, bytes in new memory, a round of a loop over a function called from another round, blocks of many cells. -/
import Derived.Test.YtgeldfgcicjidaaRange
import Derived.Lib.SlBytesConst
import Derived.WalkMore
import Derived.Great.BuildSlice
import Derived.Deep.WholeRow
import Derived.Deep.MidRow
namespace Go.Proofs.Ytgeldfgcicjidaa
open Go.RowKit

theorem Fr.any {F : Nat → Prop} {w w' : World} (h : Fr nowhere w w') : Fr F w w' := h.mono (fun _ _ e => e.elim)
theorem Fr.then {F : Nat → Prop} {w w1 w2 : World} (h : Fr F w w1) (k : Fr nowhere w1 w2) : Fr F w w2 := Fr.trans h k (fun _ _ e => e.elim)
theorem Fr.none {F : Nat → Prop} {w w' : World} (h : Fr F w w') (hF : ∀ b, F b → w.heap.size ≤ b) : Fr nowhere w w' := h.mono (fun b hb e => absurd hb (Nat.not_lt.2 (hF b e)))

theorem bs_new (w : World) (bs : List UInt8) (e : TypeId) (fr : Nat × Nat) (hb : bs.length ≤ maxLen) : Bs (w.alloc (.cells (bs.map bcell).toArray e fr)) (fun b => b = w.heap.size) (.slice (some ⟨w.heap.size, 0, none⟩) bs.length bs.length) bs :=
  ⟨_, _, rfl, Nat.le_refl _, hb, by simp, fun _ => ⟨_, 0, rfl, by simp, rfl, fun j u hu => by
    rw [Nat.zero_add, cell_of_row _ w.heap.size j (bs.map bcell).toArray e fr (heap_alloc_new w _)]
    simpa using hu⟩⟩

theorem sl_len {w : World} {G : Nat → Prop} {size n : Nat} {v : Value} {xs : List Value} (h : Sl w G size v n xs) : ∃ A c, v = .slice A n c := by
  obtain ⟨A, c, h, _⟩ := h
  exact ⟨A, c, h⟩
theorem own_next {w w' : World} {base : Nat} {T : TypeId} {k n : Nat} {A : Option Addr} {l c : Nat} {cs : List Value} (h : w.ownsRow base T k (.slice A l c) n cs) (hf : Fr nowhere w w') : w'.ownsRow base T k (.slice A l c) n cs :=
  own_same h fun b _ _ hlt => hf.block b hlt id

/-- A round's contract is one at every depth, and from within every round, where the fence is wide. -/
theorem roundIn_wide {n n' l' : Nat} {P : Program} {l : Nat} {f : FuncId} {tmps : Array Value} {assign body : Code} {w : World} {R : Ending → World → Prop}
    (h : RoundIn Fence.wide n P l f tmps assign body w R) : RoundIn (Fence.wide.inRound l') n' P l f tmps assign body w R := ⟨h.1, fun c cs _ => h.2 c cs (room_wide _)⟩
theorem roundIn_wide' {n n' : Nat} {P : Program} {l : Nat} {f : FuncId} {tmps : Array Value} {assign body : Code} {w : World} {R : Ending → World → Prop}
    (h : RoundIn Fence.wide n P l f tmps assign body w R) : RoundIn Fence.wide n' P l f tmps assign body w R := ⟨h.1, fun c cs _ => h.2 c cs (room_wide _)⟩
theorem callsIn_round {n l' : Nat} {P : Program} {f : FuncId} {args : Array Value} {w : World} {R : Ending → World → Prop} (h : Calls P f args w R) : CallsIn (Fence.wide.inRound l') n P f args w R :=
  let k := (callsIn_wide (n := n)).2 h
  ⟨k.1, fun cs _ => k.2 cs (room_wide _)⟩

section
variable {w : World} {g : Nat} {t : TypeId}
theorem Blk.out {cs : Array Value} (h : Blk w g t cs) : w.heap[g]? = some (.cells cs t (0, 0)) := h
theorem Blk.free {cs : Array Value} (h : Blk w g t cs) : ∀ i, w.frozen? ⟨g, i, none⟩ = false := fun i => h.frozen i
theorem Blk.cells9 {x0 x1 x2 x3 x4 x5 x6 x7 x8 : Value} (h : Blk w g t #[x0, x1, x2, x3, x4, x5, x6, x7, x8]) : w.cell? ⟨g, 0, none⟩ = some x0 ∧ w.cell? ⟨g, 1, none⟩ = some x1 ∧ w.cell? ⟨g, 2, none⟩ = some x2 ∧ w.cell? ⟨g, 3, none⟩ = some x3 ∧ w.cell? ⟨g, 4, none⟩ = some x4 ∧ w.cell? ⟨g, 5, none⟩ = some x5 ∧ w.cell? ⟨g, 6, none⟩ = some x6 ∧ w.cell? ⟨g, 7, none⟩ = some x7 ∧ w.cell? ⟨g, 8, none⟩ = some x8 := ⟨h.cell 0, h.cell 1, h.cell 2, h.cell 3, h.cell 4, h.cell 5, h.cell 6, h.cell 7, h.cell 8⟩
theorem Blk.cells10 {x0 x1 x2 x3 x4 x5 x6 x7 x8 x9 : Value} (h : Blk w g t #[x0, x1, x2, x3, x4, x5, x6, x7, x8, x9]) : w.cell? ⟨g, 0, none⟩ = some x0 ∧ w.cell? ⟨g, 1, none⟩ = some x1 ∧ w.cell? ⟨g, 2, none⟩ = some x2 ∧ w.cell? ⟨g, 3, none⟩ = some x3 ∧ w.cell? ⟨g, 4, none⟩ = some x4 ∧ w.cell? ⟨g, 5, none⟩ = some x5 ∧ w.cell? ⟨g, 6, none⟩ = some x6 ∧ w.cell? ⟨g, 7, none⟩ = some x7 ∧ w.cell? ⟨g, 8, none⟩ = some x8 ∧ w.cell? ⟨g, 9, none⟩ = some x9 := ⟨h.cell 0, h.cell 1, h.cell 2, h.cell 3, h.cell 4, h.cell 5, h.cell 6, h.cell 7, h.cell 8, h.cell 9⟩
theorem Blk.cells11 {x0 x1 x2 x3 x4 x5 x6 x7 x8 x9 x10 : Value} (h : Blk w g t #[x0, x1, x2, x3, x4, x5, x6, x7, x8, x9, x10]) : w.cell? ⟨g, 0, none⟩ = some x0 ∧ w.cell? ⟨g, 1, none⟩ = some x1 ∧ w.cell? ⟨g, 2, none⟩ = some x2 ∧ w.cell? ⟨g, 3, none⟩ = some x3 ∧ w.cell? ⟨g, 4, none⟩ = some x4 ∧ w.cell? ⟨g, 5, none⟩ = some x5 ∧ w.cell? ⟨g, 6, none⟩ = some x6 ∧ w.cell? ⟨g, 7, none⟩ = some x7 ∧ w.cell? ⟨g, 8, none⟩ = some x8 ∧ w.cell? ⟨g, 9, none⟩ = some x9 ∧ w.cell? ⟨g, 10, none⟩ = some x10 := ⟨h.cell 0, h.cell 1, h.cell 2, h.cell 3, h.cell 4, h.cell 5, h.cell 6, h.cell 7, h.cell 8, h.cell 9, h.cell 10⟩
theorem Blk.cells12 {x0 x1 x2 x3 x4 x5 x6 x7 x8 x9 x10 x11 : Value} (h : Blk w g t #[x0, x1, x2, x3, x4, x5, x6, x7, x8, x9, x10, x11]) : w.cell? ⟨g, 0, none⟩ = some x0 ∧ w.cell? ⟨g, 1, none⟩ = some x1 ∧ w.cell? ⟨g, 2, none⟩ = some x2 ∧ w.cell? ⟨g, 3, none⟩ = some x3 ∧ w.cell? ⟨g, 4, none⟩ = some x4 ∧ w.cell? ⟨g, 5, none⟩ = some x5 ∧ w.cell? ⟨g, 6, none⟩ = some x6 ∧ w.cell? ⟨g, 7, none⟩ = some x7 ∧ w.cell? ⟨g, 8, none⟩ = some x8 ∧ w.cell? ⟨g, 9, none⟩ = some x9 ∧ w.cell? ⟨g, 10, none⟩ = some x10 ∧ w.cell? ⟨g, 11, none⟩ = some x11 := ⟨h.cell 0, h.cell 1, h.cell 2, h.cell 3, h.cell 4, h.cell 5, h.cell 6, h.cell 7, h.cell 8, h.cell 9, h.cell 10, h.cell 11⟩
theorem Blk.cells13 {x0 x1 x2 x3 x4 x5 x6 x7 x8 x9 x10 x11 x12 : Value} (h : Blk w g t #[x0, x1, x2, x3, x4, x5, x6, x7, x8, x9, x10, x11, x12]) : w.cell? ⟨g, 0, none⟩ = some x0 ∧ w.cell? ⟨g, 1, none⟩ = some x1 ∧ w.cell? ⟨g, 2, none⟩ = some x2 ∧ w.cell? ⟨g, 3, none⟩ = some x3 ∧ w.cell? ⟨g, 4, none⟩ = some x4 ∧ w.cell? ⟨g, 5, none⟩ = some x5 ∧ w.cell? ⟨g, 6, none⟩ = some x6 ∧ w.cell? ⟨g, 7, none⟩ = some x7 ∧ w.cell? ⟨g, 8, none⟩ = some x8 ∧ w.cell? ⟨g, 9, none⟩ = some x9 ∧ w.cell? ⟨g, 10, none⟩ = some x10 ∧ w.cell? ⟨g, 11, none⟩ = some x11 ∧ w.cell? ⟨g, 12, none⟩ = some x12 := ⟨h.cell 0, h.cell 1, h.cell 2, h.cell 3, h.cell 4, h.cell 5, h.cell 6, h.cell 7, h.cell 8, h.cell 9, h.cell 10, h.cell 11, h.cell 12⟩
theorem Blk.cells14 {x0 x1 x2 x3 x4 x5 x6 x7 x8 x9 x10 x11 x12 x13 : Value} (h : Blk w g t #[x0, x1, x2, x3, x4, x5, x6, x7, x8, x9, x10, x11, x12, x13]) : w.cell? ⟨g, 0, none⟩ = some x0 ∧ w.cell? ⟨g, 1, none⟩ = some x1 ∧ w.cell? ⟨g, 2, none⟩ = some x2 ∧ w.cell? ⟨g, 3, none⟩ = some x3 ∧ w.cell? ⟨g, 4, none⟩ = some x4 ∧ w.cell? ⟨g, 5, none⟩ = some x5 ∧ w.cell? ⟨g, 6, none⟩ = some x6 ∧ w.cell? ⟨g, 7, none⟩ = some x7 ∧ w.cell? ⟨g, 8, none⟩ = some x8 ∧ w.cell? ⟨g, 9, none⟩ = some x9 ∧ w.cell? ⟨g, 10, none⟩ = some x10 ∧ w.cell? ⟨g, 11, none⟩ = some x11 ∧ w.cell? ⟨g, 12, none⟩ = some x12 ∧ w.cell? ⟨g, 13, none⟩ = some x13 := ⟨h.cell 0, h.cell 1, h.cell 2, h.cell 3, h.cell 4, h.cell 5, h.cell 6, h.cell 7, h.cell 8, h.cell 9, h.cell 10, h.cell 11, h.cell 12, h.cell 13⟩
theorem Blk.cells15 {x0 x1 x2 x3 x4 x5 x6 x7 x8 x9 x10 x11 x12 x13 x14 : Value} (h : Blk w g t #[x0, x1, x2, x3, x4, x5, x6, x7, x8, x9, x10, x11, x12, x13, x14]) : w.cell? ⟨g, 0, none⟩ = some x0 ∧ w.cell? ⟨g, 1, none⟩ = some x1 ∧ w.cell? ⟨g, 2, none⟩ = some x2 ∧ w.cell? ⟨g, 3, none⟩ = some x3 ∧ w.cell? ⟨g, 4, none⟩ = some x4 ∧ w.cell? ⟨g, 5, none⟩ = some x5 ∧ w.cell? ⟨g, 6, none⟩ = some x6 ∧ w.cell? ⟨g, 7, none⟩ = some x7 ∧ w.cell? ⟨g, 8, none⟩ = some x8 ∧ w.cell? ⟨g, 9, none⟩ = some x9 ∧ w.cell? ⟨g, 10, none⟩ = some x10 ∧ w.cell? ⟨g, 11, none⟩ = some x11 ∧ w.cell? ⟨g, 12, none⟩ = some x12 ∧ w.cell? ⟨g, 13, none⟩ = some x13 ∧ w.cell? ⟨g, 14, none⟩ = some x14 := ⟨h.cell 0, h.cell 1, h.cell 2, h.cell 3, h.cell 4, h.cell 5, h.cell 6, h.cell 7, h.cell 8, h.cell 9, h.cell 10, h.cell 11, h.cell 12, h.cell 13, h.cell 14⟩
theorem Blk.cells16 {x0 x1 x2 x3 x4 x5 x6 x7 x8 x9 x10 x11 x12 x13 x14 x15 : Value} (h : Blk w g t #[x0, x1, x2, x3, x4, x5, x6, x7, x8, x9, x10, x11, x12, x13, x14, x15]) : w.cell? ⟨g, 0, none⟩ = some x0 ∧ w.cell? ⟨g, 1, none⟩ = some x1 ∧ w.cell? ⟨g, 2, none⟩ = some x2 ∧ w.cell? ⟨g, 3, none⟩ = some x3 ∧ w.cell? ⟨g, 4, none⟩ = some x4 ∧ w.cell? ⟨g, 5, none⟩ = some x5 ∧ w.cell? ⟨g, 6, none⟩ = some x6 ∧ w.cell? ⟨g, 7, none⟩ = some x7 ∧ w.cell? ⟨g, 8, none⟩ = some x8 ∧ w.cell? ⟨g, 9, none⟩ = some x9 ∧ w.cell? ⟨g, 10, none⟩ = some x10 ∧ w.cell? ⟨g, 11, none⟩ = some x11 ∧ w.cell? ⟨g, 12, none⟩ = some x12 ∧ w.cell? ⟨g, 13, none⟩ = some x13 ∧ w.cell? ⟨g, 14, none⟩ = some x14 ∧ w.cell? ⟨g, 15, none⟩ = some x15 := ⟨h.cell 0, h.cell 1, h.cell 2, h.cell 3, h.cell 4, h.cell 5, h.cell 6, h.cell 7, h.cell 8, h.cell 9, h.cell 10, h.cell 11, h.cell 12, h.cell 13, h.cell 14, h.cell 15⟩
theorem Blk.cells17 {x0 x1 x2 x3 x4 x5 x6 x7 x8 x9 x10 x11 x12 x13 x14 x15 x16 : Value} (h : Blk w g t #[x0, x1, x2, x3, x4, x5, x6, x7, x8, x9, x10, x11, x12, x13, x14, x15, x16]) : w.cell? ⟨g, 0, none⟩ = some x0 ∧ w.cell? ⟨g, 1, none⟩ = some x1 ∧ w.cell? ⟨g, 2, none⟩ = some x2 ∧ w.cell? ⟨g, 3, none⟩ = some x3 ∧ w.cell? ⟨g, 4, none⟩ = some x4 ∧ w.cell? ⟨g, 5, none⟩ = some x5 ∧ w.cell? ⟨g, 6, none⟩ = some x6 ∧ w.cell? ⟨g, 7, none⟩ = some x7 ∧ w.cell? ⟨g, 8, none⟩ = some x8 ∧ w.cell? ⟨g, 9, none⟩ = some x9 ∧ w.cell? ⟨g, 10, none⟩ = some x10 ∧ w.cell? ⟨g, 11, none⟩ = some x11 ∧ w.cell? ⟨g, 12, none⟩ = some x12 ∧ w.cell? ⟨g, 13, none⟩ = some x13 ∧ w.cell? ⟨g, 14, none⟩ = some x14 ∧ w.cell? ⟨g, 15, none⟩ = some x15 ∧ w.cell? ⟨g, 16, none⟩ = some x16 := ⟨h.cell 0, h.cell 1, h.cell 2, h.cell 3, h.cell 4, h.cell 5, h.cell 6, h.cell 7, h.cell 8, h.cell 9, h.cell 10, h.cell 11, h.cell 12, h.cell 13, h.cell 14, h.cell 15, h.cell 16⟩
theorem Blk.cells18 {x0 x1 x2 x3 x4 x5 x6 x7 x8 x9 x10 x11 x12 x13 x14 x15 x16 x17 : Value} (h : Blk w g t #[x0, x1, x2, x3, x4, x5, x6, x7, x8, x9, x10, x11, x12, x13, x14, x15, x16, x17]) : w.cell? ⟨g, 0, none⟩ = some x0 ∧ w.cell? ⟨g, 1, none⟩ = some x1 ∧ w.cell? ⟨g, 2, none⟩ = some x2 ∧ w.cell? ⟨g, 3, none⟩ = some x3 ∧ w.cell? ⟨g, 4, none⟩ = some x4 ∧ w.cell? ⟨g, 5, none⟩ = some x5 ∧ w.cell? ⟨g, 6, none⟩ = some x6 ∧ w.cell? ⟨g, 7, none⟩ = some x7 ∧ w.cell? ⟨g, 8, none⟩ = some x8 ∧ w.cell? ⟨g, 9, none⟩ = some x9 ∧ w.cell? ⟨g, 10, none⟩ = some x10 ∧ w.cell? ⟨g, 11, none⟩ = some x11 ∧ w.cell? ⟨g, 12, none⟩ = some x12 ∧ w.cell? ⟨g, 13, none⟩ = some x13 ∧ w.cell? ⟨g, 14, none⟩ = some x14 ∧ w.cell? ⟨g, 15, none⟩ = some x15 ∧ w.cell? ⟨g, 16, none⟩ = some x16 ∧ w.cell? ⟨g, 17, none⟩ = some x17 := ⟨h.cell 0, h.cell 1, h.cell 2, h.cell 3, h.cell 4, h.cell 5, h.cell 6, h.cell 7, h.cell 8, h.cell 9, h.cell 10, h.cell 11, h.cell 12, h.cell 13, h.cell 14, h.cell 15, h.cell 16, h.cell 17⟩
theorem Blk.cells19 {x0 x1 x2 x3 x4 x5 x6 x7 x8 x9 x10 x11 x12 x13 x14 x15 x16 x17 x18 : Value} (h : Blk w g t #[x0, x1, x2, x3, x4, x5, x6, x7, x8, x9, x10, x11, x12, x13, x14, x15, x16, x17, x18]) : w.cell? ⟨g, 0, none⟩ = some x0 ∧ w.cell? ⟨g, 1, none⟩ = some x1 ∧ w.cell? ⟨g, 2, none⟩ = some x2 ∧ w.cell? ⟨g, 3, none⟩ = some x3 ∧ w.cell? ⟨g, 4, none⟩ = some x4 ∧ w.cell? ⟨g, 5, none⟩ = some x5 ∧ w.cell? ⟨g, 6, none⟩ = some x6 ∧ w.cell? ⟨g, 7, none⟩ = some x7 ∧ w.cell? ⟨g, 8, none⟩ = some x8 ∧ w.cell? ⟨g, 9, none⟩ = some x9 ∧ w.cell? ⟨g, 10, none⟩ = some x10 ∧ w.cell? ⟨g, 11, none⟩ = some x11 ∧ w.cell? ⟨g, 12, none⟩ = some x12 ∧ w.cell? ⟨g, 13, none⟩ = some x13 ∧ w.cell? ⟨g, 14, none⟩ = some x14 ∧ w.cell? ⟨g, 15, none⟩ = some x15 ∧ w.cell? ⟨g, 16, none⟩ = some x16 ∧ w.cell? ⟨g, 17, none⟩ = some x17 ∧ w.cell? ⟨g, 18, none⟩ = some x18 := ⟨h.cell 0, h.cell 1, h.cell 2, h.cell 3, h.cell 4, h.cell 5, h.cell 6, h.cell 7, h.cell 8, h.cell 9, h.cell 10, h.cell 11, h.cell 12, h.cell 13, h.cell 14, h.cell 15, h.cell 16, h.cell 17, h.cell 18⟩
end

section
variable {P : Program} {w : World}
theorem wanted_plain {o : Oper} {y : Nat → Option Bool} (hgd : o.guard = none) : Region.wanted o y = true := by simp [Region.wanted, hgd]
/-- An operation that runs through: the frame and the world behind it. -/
def Ran (P : Program) (o : Oper) (a : Act) (w : World) (a' : Act) (w' : World) : Prop :=
  (∀ c, o.op ≠ .defer c) ∧ ((∃ v, (execOp a.eval o).run P w = .ok (.value v) w' ∧ a' = a.put o.dst v) ∨ ((execOp a.eval o).run P w = .ok .skip w' ∧ a' = a.put o.dst undef))
theorem wp_ran {o : Oper} {a a' : Act} {w' : World} {K : Act → World → Prop} {Q : Exit → Act → World → Prop} (r : Ran P o a w a' w') (h : K a' w') : o.wp P a w K Q := by
  obtain ⟨_, (⟨v, hr, rfl⟩ | ⟨hr, rfl⟩)⟩ := r
  · unfold Oper.wp; rw [hr]; exact h
  · unfold Oper.wp; rw [hr]; exact h
theorem wpList_ran {ops : Array Oper} {rest : List Oper} {o : Oper} {a a' : Act} {w' : World} {Q : Exit → Act → World → Prop} (hw : Region.wanted o (yielded ops a.tmps) = true) (r : Ran P o a w a' w') (h : wpList P ops Q rest a' w') : wpList P ops Q (o :: rest) a w :=
  wpList_step fun _ hK => by rw [if_pos hw]; exact wp_ran r (hK _ _ h)
theorem wpIn_ran {F : Fence} {n : Nat} {o : Oper} {a a' : Act} {w' : World} {K : Act → World → Prop} {Q : Exit → Act → World → Prop} (hF : ∀ f, F.fn f) (r : Ran P o a w a' w') (h : K a' w') : o.wpIn F n P a w K Q := by
  refine ⟨fun f _ => hF f, ?_⟩
  rw [semAt_any _ _ _ r.1]
  obtain ⟨_, (⟨v, hr, rfl⟩ | ⟨hr, rfl⟩)⟩ := r
  · rw [hr]; exact h
  · rw [hr]; exact h
theorem wpListIn_ran {F : Fence} {n : Nat} {ops : Array Oper} {rest : List Oper} {o : Oper} {a a' : Act} {w' : World} {Q : Exit → Act → World → Prop} (hF : ∀ f, F.fn f) (hw : Region.wanted o (yielded ops a.tmps) = true) (r : Ran P o a w a' w') (h : wpListIn F n P ops Q rest a' w') : wpListIn F n P ops Q (o :: rest) a w :=
  wpListIn_step fun _ hK => by rw [if_pos hw]; exact wpIn_ran hF r (hK _ _ h)
/-- A struct that is built, its value known by a closed fact. -/
theorem ran_bd {o : Oper} {a : Act} {t : TypeId} {parts : List (Nat × Operand)} {vals : List (Nat × Value)} {v : Value}
    (ho : o.op = .build t parts.toArray) (hr : (Instr.build t vals.toArray).run P w = .ok v w) (he : parts.map (fun x => (x.1, a.eval x.2)) = vals) : Ran P o a w (a.put o.dst v) w := by
  subst he
  refine ⟨(by rw [ho]; intro c h; cases h), .inl ⟨v, ?_, rfl⟩⟩
  unfold execOp
  simp only [ho, Sem.run_bind, List.map_toArray, hr, Result.andThen_ok, Sem.run_pure]
/-- A whole struct stored into a block that is known. -/
theorem ran_st {o : Oper} {a : Act} {W : World} (ty : TypeId) {x y : Operand} (ho : o.op = .store ty x y) (hd : o.dst = none)
    (n : Nat) (hi : (P.info? ty).map (·.size) = some n) {g : Nat} {cells : Array Value} (hx : a.eval x = .pointer (some ⟨g, 0, none⟩)) (hy : a.eval y = .agg cells)
    {t : TypeId} {old : Array Value} (hg : w.heap[g]? = some (.cells old t (0, 0))) (hW : w.setRow g cells = W) (hc : cells.size = n) (hold : old.size = n) (h1 : cells.all (·.oneCell') = true) : Ran P o a w a W := by
  subst hW
  refine ⟨(by rw [ho]; intro c h; cases h), .inr ⟨?_, by rw [hd]; rfl⟩⟩
  unfold execOp
  simp only [ho, hx, hy, Instr.storeAt, Instr.sureAddr, Sem.run_bind, Sem.run_pure, Result.andThen_ok, run_storeVar_row w g t ty old cells hg (by rw [hi, hc]) (by rw [hc, hold]) h1]
/-- A whole struct loaded out of a block that is known. -/
theorem ran_ld {o : Oper} {a : Act} (ty : TypeId) {x : Operand} (ho : o.op = .load ty x)
    (n : Nat) (hi : (P.info? ty).map (·.size) = some n) (d : TypeDesc) (hu : P.underlying ty = some d) (hd : (match d with | .struct _ | .array _ _ => true | _ => false) = true)
    {g : Nat} (hx : a.eval x = .pointer (some ⟨g, 0, none⟩)) {t : TypeId} {cells : Array Value} (hg : w.heap[g]? = some (.cells cells t (0, 0))) (hc : cells.size = n) : Ran P o a w (a.put o.dst (.agg cells)) w := by
  refine ⟨(by rw [ho]; intro c h; cases h), .inl ⟨_, ?_, rfl⟩⟩
  unfold execOp
  simp only [ho, hx, Instr.loadAt, Instr.sureAddr, Sem.run_bind, Sem.run_pure, Result.andThen_ok, run_loadVar_row w g t ty cells (0, 0) d hg hu hd (by rw [hi, hc])]
/-- A whole struct loaded out of a row: its cells are known one by one. -/
theorem ran_ldm {o : Oper} {a : Act} (ty : TypeId) {x : Operand} (ho : o.op = .load ty x)
    (n : Nat) (hi : (P.info? ty).map (·.size) = some n) (d : TypeDesc) (hu : P.underlying ty = some d) (hd : d.isRow = true)
    {g off : Nat} (hx : a.eval x = .pointer (some ⟨g, off, none⟩)) {cells : List Value} (hg : w.rangeAt g off cells) (hc : cells.length = n) : Ran P o a w (a.put o.dst (.agg cells.toArray)) w := by
  refine ⟨(by rw [ho]; intro c h; cases h), .inl ⟨_, ?_, rfl⟩⟩
  unfold execOp
  simp only [ho, hx, Instr.loadAt, Instr.sureAddr, Sem.run_bind, Sem.run_pure, Result.andThen_ok, run_loadVar_mid w g off ty cells d hg hu hd (by rw [hi, hc])]
/-- A struct within a struct loaded out of a block that is known. -/
theorem ran_lds {o : Oper} {a : Act} (ty : TypeId) {x : Operand} (ho : o.op = .load ty x)
    (n : Nat) (hi : (P.info? ty).map (·.size) = some n) (d : TypeDesc) (hu : P.underlying ty = some d) (hd : d.isRow = true)
    {g off : Nat} (hx : a.eval x = .pointer (some ⟨g, off, none⟩)) {t : TypeId} {cells : Array Value} (hg : w.heap[g]? = some (.cells cells t (0, 0))) {sub : List Value} (hs : (cells.toList.drop off).take n = sub) (hl : sub.length = n) :
    Ran P o a w (a.put o.dst (.agg sub.toArray)) w := by
  subst hs
  refine ran_ldm ty ho n hi d hu hd hx (fun j u hu => ?_) hl
  rw [cell_of_row w g _ cells t (0, 0) hg]
  have hj := (List.getElem?_eq_some_iff.1 hu).1
  rw [List.getElem?_take_of_lt (by rw [List.length_take] at hj; omega), List.getElem?_drop] at hu
  simpa using hu
/-- A slice of structs that is built, its value and the world known by a closed fact. -/
theorem ran_bsl {o : Oper} {a : Act} {t : TypeId} {len : Nat} {parts : List (Nat × Operand)} {vals : List (Nat × Value)} {v : Value} {w' : World}
    (ho : o.op = .buildSlice t len parts.toArray) (hr : (Instr.buildSlice t len vals.toArray).run P w = .ok v w') (he : parts.map (fun x => (x.1, a.eval x.2)) = vals) : Ran P o a w (a.put o.dst v) w' := by
  subst he
  refine ⟨(by rw [ho]; intro c h; cases h), .inl ⟨v, ?_, rfl⟩⟩
  unfold execOp
  simp only [ho, Sem.run_bind, List.map_toArray, hr, Result.andThen_ok, Sem.run_pure]
theorem wp_ex {o : Oper} {a : Act} {Φ : Value → World → Prop} {K : Act → World → Prop} {Q : Exit → Act → World → Prop} (r : ∃ v' w', Ran P o a w (a.put o.dst v') w' ∧ Φ v' w') (h : ∀ v' w', Φ v' w' → K (a.put o.dst v') w') : o.wp P a w K Q := by
  obtain ⟨v', w', r, hΦ⟩ := r
  exact wp_ran r (h v' w' hΦ)
theorem wpList_ex {ops : Array Oper} {rest : List Oper} {o : Oper} {a : Act} {Φ : Value → World → Prop} {Q : Exit → Act → World → Prop} (hw : Region.wanted o (yielded ops a.tmps) = true) (r : ∃ v' w', Ran P o a w (a.put o.dst v') w' ∧ Φ v' w') (h : ∀ v' w', Φ v' w' → wpList P ops Q rest (a.put o.dst v') w') : wpList P ops Q (o :: rest) a w := by
  obtain ⟨v', w', r, hΦ⟩ := r
  exact wpList_ran hw r (h v' w' hΦ)
theorem wpListIn_ex {F : Fence} {n : Nat} {ops : Array Oper} {rest : List Oper} {o : Oper} {a : Act} {Φ : Value → World → Prop} {Q : Exit → Act → World → Prop} (hF : ∀ f, F.fn f) (hw : Region.wanted o (yielded ops a.tmps) = true) (r : ∃ v' w', Ran P o a w (a.put o.dst v') w' ∧ Φ v' w') (h : ∀ v' w', Φ v' w' → wpListIn F n P ops Q rest (a.put o.dst v') w') : wpListIn F n P ops Q (o :: rest) a w := by
  obtain ⟨v', w', r, hΦ⟩ := r
  exact wpListIn_ran hF hw r (h v' w' hΦ)
/-- An element type's row of the program's table. -/
def EI (P : Program) (e : TypeId) (z : Value) (size bytes : Nat) : Prop := ∃ i, P.info? e = some i ∧ i.zero = some z ∧ i.size = size ∧ i.bytes = bytes ∧ z.cells.size = size ∧ 0 < size
theorem ei_of {e : TypeId} {z : Value} {size bytes : Nat} (h : (P.info? e).map (fun i => (i.zero, i.size, i.bytes)) = some (some z, size, bytes)) (hz : z.cells.size = size) (hs : 0 < size) : EI P e z size bytes := by
  obtain ⟨i, h1, h2, h3, h4⟩ := info_parts h
  exact ⟨i, h1, h2, h3, h4, hz, hs⟩
/-- append to a row of one's own, of cells that lie somewhere. -/
theorem ran_append {o : Oper} {a : Act} {s x : Operand} {t : TypeId}
    (ho : o.op = .call { callee := .builtin .append, args := #[s, x], argTypes := #[t, t] })
    (base : Nat) {e : TypeId} {z : Value} {size bytes : Nat} (ht : P.underlying t = some (.slice e)) (hE : EI P e z size bytes)
    (v : Value) (n : Nat) (xs : List Value) (hs : a.eval s = v) (hown : w.ownsRow base e size v n xs)
    (ad : Addr) (m c : Nat) (news : List Value) (hx : a.eval x = .slice (some ad) m c) (hl : news.length = m * size) (hnews : ∀ j u, news[j]? = some u → w.cell? (ad.add j) = some u) (h1 : ∀ u ∈ news, u.oneCell' = true)
    (h63 : n + m ≤ maxLen) (hbytes : (n + m) * bytes ≤ 140737488355328) (hbase : base ≤ w.heap.size) :
    ∃ v' w', Ran P o a w (a.put o.dst v') w' ∧ w'.ownsRow base e size v' (n + m) (xs ++ news) ∧ w.grownBy w' v.ownBlock ∧ (v' = .slice none 0 0 ↔ v = .slice none 0 0 ∧ m = 0) ∧ (v'.ownBlock = v.ownBlock ∨ v'.ownBlock = some w.heap.size) := by
  obtain ⟨i, hi, hz, hsize, hby, hzs, hsz⟩ := hE
  obtain ⟨v', w', hr, h2, h3, h4, h5⟩ := run_append_own_at (P := P) w base t o.type e i z size bytes ht hi hz hsize hby hzs hsz v n xs hown ad m c news hl hnews h1 h63 hbytes hbase
  refine ⟨v', w', ⟨(by rw [ho]; intro c h; cases h), .inl ⟨v', ?_, rfl⟩⟩, h2, h3, h4, h5⟩
  unfold execOp
  simp only [ho, resolve, invoke, builtin, Sem.run_bind, Sem.run_pure, Result.andThen_ok, List.map_toArray, List.map_cons, List.map_nil, hs, hx, hr]
/-- append to a row of one's own, of a slice that reads as a list. -/
theorem ran_append_sl {o : Oper} {a : Act} {s x : Operand} {t : TypeId}
    (ho : o.op = .call { callee := .builtin .append, args := #[s, x], argTypes := #[t, t] })
    (base : Nat) {e : TypeId} {z : Value} {size bytes : Nat} (ht : P.underlying t = some (.slice e)) (hE : EI P e z size bytes)
    (v : Value) (n : Nat) (xs : List Value) (hs : a.eval s = v) (hown : w.ownsRow base e size v n xs)
    (G : Nat → Prop) (src : Value) (m : Nat) (news : List Value) (hx : a.eval x = src) (hr : Sl w G size src m news) (h1 : ∀ u ∈ news, u.oneCell' = true)
    (h63 : n + m ≤ maxLen) (hbytes : (n + m) * bytes ≤ 140737488355328) (hbase : base ≤ w.heap.size) :
    ∃ v' w', Ran P o a w (a.put o.dst v') w' ∧ w'.ownsRow base e size v' (n + m) (xs ++ news) ∧ w.grownBy w' v.ownBlock ∧ (v' = .slice none 0 0 ↔ v = .slice none 0 0 ∧ m = 0) ∧ (v'.ownBlock = v.ownBlock ∨ v'.ownBlock = some w.heap.size) := by
  obtain ⟨i, hi, hz, hsize, hby, hzs, hsz⟩ := hE
  obtain ⟨v', w', hrun, h2, h3, h4, h5⟩ := run_append_sl (P := P) w base t o.type e i z size bytes ht hi hz hsize hby hzs hsz v n xs hown G src m news hr h1 h63 hbytes hbase
  refine ⟨v', w', ⟨(by rw [ho]; intro c h; cases h), .inl ⟨v', ?_, rfl⟩⟩, h2, h3, h5, h4⟩
  unfold execOp
  simp only [ho, resolve, invoke, builtin, Sem.run_bind, Sem.run_pure, Result.andThen_ok, List.map_toArray, List.map_cons, List.map_nil, hs, hx, hrun]
theorem wpList_app {ops : Array Oper} {rest : List Oper} {Q : Exit → Act → World → Prop} {o : Oper} {a : Act} {s x : Operand} {t : TypeId} (hgd : o.guard = none)
    (ho : o.op = .call { callee := .builtin .append, args := #[s, x], argTypes := #[t, t] })
    (base : Nat) {e : TypeId} {z : Value} {size bytes : Nat} (ht : P.underlying t = some (.slice e)) (hE : EI P e z size bytes)
    (v : Value) (n : Nat) (xs : List Value) (hs : a.eval s = v) (hown : w.ownsRow base e size v n xs)
    (ad : Addr) (m c : Nat) (news : List Value) (hx : a.eval x = .slice (some ad) m c) (hl : news.length = m * size) (hnews : ∀ j u, news[j]? = some u → w.cell? (ad.add j) = some u) (h1 : ∀ u ∈ news, u.oneCell' = true)
    (h63 : n + m ≤ maxLen) (hbytes : (n + m) * bytes ≤ 140737488355328) (hbase : base ≤ w.heap.size)
    (h : ∀ v' w', w'.ownsRow base e size v' (n + m) (xs ++ news) → w.grownBy w' v.ownBlock → (v' = .slice none 0 0 ↔ v = .slice none 0 0 ∧ m = 0) → (v'.ownBlock = v.ownBlock ∨ v'.ownBlock = some w.heap.size) → wpList P ops Q rest (a.put o.dst v') w') :
    wpList P ops Q (o :: rest) a w :=
  wpList_ex (wanted_plain hgd) (ran_append ho base ht hE v n xs hs hown ad m c news hx hl hnews h1 h63 hbytes hbase) fun v' w' ⟨h1, h2, h3, h4⟩ => h v' w' h1 h2 h3 h4
theorem wpListIn_app {F : Fence} {n' : Nat} {ops : Array Oper} {rest : List Oper} {Q : Exit → Act → World → Prop} {o : Oper} {a : Act} {s x : Operand} {t : TypeId} (hF : ∀ f, F.fn f) (hgd : o.guard = none)
    (ho : o.op = .call { callee := .builtin .append, args := #[s, x], argTypes := #[t, t] })
    (base : Nat) {e : TypeId} {z : Value} {size bytes : Nat} (ht : P.underlying t = some (.slice e)) (hE : EI P e z size bytes)
    (v : Value) (n : Nat) (xs : List Value) (hs : a.eval s = v) (hown : w.ownsRow base e size v n xs)
    (ad : Addr) (m c : Nat) (news : List Value) (hx : a.eval x = .slice (some ad) m c) (hl : news.length = m * size) (hnews : ∀ j u, news[j]? = some u → w.cell? (ad.add j) = some u) (h1 : ∀ u ∈ news, u.oneCell' = true)
    (h63 : n + m ≤ maxLen) (hbytes : (n + m) * bytes ≤ 140737488355328) (hbase : base ≤ w.heap.size)
    (h : ∀ v' w', w'.ownsRow base e size v' (n + m) (xs ++ news) → w.grownBy w' v.ownBlock → (v' = .slice none 0 0 ↔ v = .slice none 0 0 ∧ m = 0) → (v'.ownBlock = v.ownBlock ∨ v'.ownBlock = some w.heap.size) → wpListIn F n' P ops Q rest (a.put o.dst v') w') :
    wpListIn F n' P ops Q (o :: rest) a w :=
  wpListIn_ex hF (wanted_plain hgd) (ran_append ho base ht hE v n xs hs hown ad m c news hx hl hnews h1 h63 hbytes hbase) fun v' w' ⟨h1, h2, h3, h4⟩ => h v' w' h1 h2 h3 h4
theorem wpList_appsl {ops : Array Oper} {rest : List Oper} {Q : Exit → Act → World → Prop} {o : Oper} {a : Act} {s x : Operand} {t : TypeId} (hgd : o.guard = none)
    (ho : o.op = .call { callee := .builtin .append, args := #[s, x], argTypes := #[t, t] })
    (base : Nat) {e : TypeId} {z : Value} {size bytes : Nat} (ht : P.underlying t = some (.slice e)) (hE : EI P e z size bytes)
    (v : Value) (n : Nat) (xs : List Value) (hs : a.eval s = v) (hown : w.ownsRow base e size v n xs)
    (G : Nat → Prop) (src : Value) (m : Nat) (news : List Value) (hx : a.eval x = src) (hr : Sl w G size src m news) (h1 : ∀ u ∈ news, u.oneCell' = true)
    (h63 : n + m ≤ maxLen) (hbytes : (n + m) * bytes ≤ 140737488355328) (hbase : base ≤ w.heap.size)
    (h : ∀ v' w', w'.ownsRow base e size v' (n + m) (xs ++ news) → w.grownBy w' v.ownBlock → (v' = .slice none 0 0 ↔ v = .slice none 0 0 ∧ m = 0) → (v'.ownBlock = v.ownBlock ∨ v'.ownBlock = some w.heap.size) → wpList P ops Q rest (a.put o.dst v') w') :
    wpList P ops Q (o :: rest) a w :=
  wpList_ex (wanted_plain hgd) (ran_append_sl ho base ht hE v n xs hs hown G src m news hx hr h1 h63 hbytes hbase) fun v' w' ⟨h1, h2, h3, h4⟩ => h v' w' h1 h2 h3 h4
theorem wpListIn_appsl {F : Fence} {n' : Nat} {ops : Array Oper} {rest : List Oper} {Q : Exit → Act → World → Prop} {o : Oper} {a : Act} {s x : Operand} {t : TypeId} (hF : ∀ f, F.fn f) (hgd : o.guard = none)
    (ho : o.op = .call { callee := .builtin .append, args := #[s, x], argTypes := #[t, t] })
    (base : Nat) {e : TypeId} {z : Value} {size bytes : Nat} (ht : P.underlying t = some (.slice e)) (hE : EI P e z size bytes)
    (v : Value) (n : Nat) (xs : List Value) (hs : a.eval s = v) (hown : w.ownsRow base e size v n xs)
    (G : Nat → Prop) (src : Value) (m : Nat) (news : List Value) (hx : a.eval x = src) (hr : Sl w G size src m news) (h1 : ∀ u ∈ news, u.oneCell' = true)
    (h63 : n + m ≤ maxLen) (hbytes : (n + m) * bytes ≤ 140737488355328) (hbase : base ≤ w.heap.size)
    (h : ∀ v' w', w'.ownsRow base e size v' (n + m) (xs ++ news) → w.grownBy w' v.ownBlock → (v' = .slice none 0 0 ↔ v = .slice none 0 0 ∧ m = 0) → (v'.ownBlock = v.ownBlock ∨ v'.ownBlock = some w.heap.size) → wpListIn F n' P ops Q rest (a.put o.dst v') w') :
    wpListIn F n' P ops Q (o :: rest) a w :=
  wpListIn_ex hF (wanted_plain hgd) (ran_append_sl ho base ht hE v n xs hs hown G src m news hx hr h1 h63 hbytes hbase) fun v' w' ⟨h1, h2, h3, h4⟩ => h v' w' h1 h2 h3 h4
/-- The cells of a block that was made last, as append asks for them. -/
theorem news_last {c : Array Value} {t : TypeId} {g : Nat} (hg : g = w.heap.size) : ∀ j u, c.toList[j]? = some u → (w.alloc (.cells c t)).cell? ((⟨g, 0, none⟩ : Addr).add j) = some u := fun j u hj => by
  subst hg
  rw [addr_add, Nat.zero_add, cell_of_row _ _ j c t (0, 0) (heap_alloc_new w _)]
  simpa using hj
theorem setRow_old {g : Nat} {c : Array Value} (o : Obj) (h : g < w.heap.size) : (w.alloc o).setRow g c = (w.setRow g c).alloc o := by
  simp only [World.setRow, World.alloc]
  congr 1
  apply Array.ext_getElem?
  intro i
  rw [Array.getElem?_modify, Array.getElem?_push, Array.getElem?_push, Array.size_modify, Array.getElem?_modify]
  by_cases hi : g = i
  · subst hi
    have : ¬ g = w.heap.size := by omega
    simp [this]
  · simp [hi]
theorem hpL0 {c : Array Value} {t : TypeId} {g : Nat} (hg : g = w.heap.size) : (w.alloc (.cells c t)).heap[g]? = some (.cells c t (0, 0)) := by subst hg; exact heap_alloc_new _ _
theorem stL0 {c c' : Array Value} {t : TypeId} {g : Nat} (hg : g = w.heap.size) : (w.alloc (.cells c t)).setRow g c' = (w.alloc (.cells c' t)) := by subst hg; exact World.setRow_alloc_new _ _ _ _
theorem hpL1 {o1 : Obj} {c : Array Value} {t : TypeId} {g : Nat} (hg : g = w.heap.size) : ((w.alloc (.cells c t)).alloc o1).heap[g]? = some (.cells c t (0, 0)) := by subst hg; exact (hp_new _ _ _ (by simp)).trans (heap_alloc_new _ _)
theorem stL1 {o1 : Obj} {c c' : Array Value} {t : TypeId} {g : Nat} (hg : g = w.heap.size) : ((w.alloc (.cells c t)).alloc o1).setRow g c' = ((w.alloc (.cells c' t)).alloc o1) := by subst hg; rw [setRow_old _ (by simp), stL0 rfl]
theorem hpL2 {o1 o2 : Obj} {c : Array Value} {t : TypeId} {g : Nat} (hg : g = w.heap.size) : (((w.alloc (.cells c t)).alloc o1).alloc o2).heap[g]? = some (.cells c t (0, 0)) := by subst hg; exact (hp_new _ _ _ (by simp; omega)).trans ((hp_new _ _ _ (by simp)).trans (heap_alloc_new _ _))
theorem stL2 {o1 o2 : Obj} {c c' : Array Value} {t : TypeId} {g : Nat} (hg : g = w.heap.size) : (((w.alloc (.cells c t)).alloc o1).alloc o2).setRow g c' = (((w.alloc (.cells c' t)).alloc o1).alloc o2) := by subst hg; rw [setRow_old _ (by simp; omega), stL1 rfl]
theorem hpL3 {o1 o2 o3 : Obj} {c : Array Value} {t : TypeId} {g : Nat} (hg : g = w.heap.size) : ((((w.alloc (.cells c t)).alloc o1).alloc o2).alloc o3).heap[g]? = some (.cells c t (0, 0)) := by subst hg; exact (hp_new _ _ _ (by simp; omega)).trans ((hp_new _ _ _ (by simp; omega)).trans ((hp_new _ _ _ (by simp)).trans (heap_alloc_new _ _)))
theorem stL3 {o1 o2 o3 : Obj} {c c' : Array Value} {t : TypeId} {g : Nat} (hg : g = w.heap.size) : ((((w.alloc (.cells c t)).alloc o1).alloc o2).alloc o3).setRow g c' = ((((w.alloc (.cells c' t)).alloc o1).alloc o2).alloc o3) := by subst hg; rw [setRow_old _ (by simp; omega), stL2 rfl]
theorem hpL4 {o1 o2 o3 o4 : Obj} {c : Array Value} {t : TypeId} {g : Nat} (hg : g = w.heap.size) : (((((w.alloc (.cells c t)).alloc o1).alloc o2).alloc o3).alloc o4).heap[g]? = some (.cells c t (0, 0)) := by subst hg; exact (hp_new _ _ _ (by simp; omega)).trans ((hp_new _ _ _ (by simp; omega)).trans ((hp_new _ _ _ (by simp; omega)).trans ((hp_new _ _ _ (by simp)).trans (heap_alloc_new _ _))))
theorem stL4 {o1 o2 o3 o4 : Obj} {c c' : Array Value} {t : TypeId} {g : Nat} (hg : g = w.heap.size) : (((((w.alloc (.cells c t)).alloc o1).alloc o2).alloc o3).alloc o4).setRow g c' = (((((w.alloc (.cells c' t)).alloc o1).alloc o2).alloc o3).alloc o4) := by subst hg; rw [setRow_old _ (by simp; omega), stL3 rfl]
theorem hpL5 {o1 o2 o3 o4 o5 : Obj} {c : Array Value} {t : TypeId} {g : Nat} (hg : g = w.heap.size) : ((((((w.alloc (.cells c t)).alloc o1).alloc o2).alloc o3).alloc o4).alloc o5).heap[g]? = some (.cells c t (0, 0)) := by subst hg; exact (hp_new _ _ _ (by simp; omega)).trans ((hp_new _ _ _ (by simp; omega)).trans ((hp_new _ _ _ (by simp; omega)).trans ((hp_new _ _ _ (by simp; omega)).trans ((hp_new _ _ _ (by simp)).trans (heap_alloc_new _ _)))))
theorem stL5 {o1 o2 o3 o4 o5 : Obj} {c c' : Array Value} {t : TypeId} {g : Nat} (hg : g = w.heap.size) : ((((((w.alloc (.cells c t)).alloc o1).alloc o2).alloc o3).alloc o4).alloc o5).setRow g c' = ((((((w.alloc (.cells c' t)).alloc o1).alloc o2).alloc o3).alloc o4).alloc o5) := by subst hg; rw [setRow_old _ (by simp; omega), stL4 rfl]
theorem hpL6 {o1 o2 o3 o4 o5 o6 : Obj} {c : Array Value} {t : TypeId} {g : Nat} (hg : g = w.heap.size) : (((((((w.alloc (.cells c t)).alloc o1).alloc o2).alloc o3).alloc o4).alloc o5).alloc o6).heap[g]? = some (.cells c t (0, 0)) := by subst hg; exact (hp_new _ _ _ (by simp; omega)).trans ((hp_new _ _ _ (by simp; omega)).trans ((hp_new _ _ _ (by simp; omega)).trans ((hp_new _ _ _ (by simp; omega)).trans ((hp_new _ _ _ (by simp; omega)).trans ((hp_new _ _ _ (by simp)).trans (heap_alloc_new _ _))))))
theorem stL6 {o1 o2 o3 o4 o5 o6 : Obj} {c c' : Array Value} {t : TypeId} {g : Nat} (hg : g = w.heap.size) : (((((((w.alloc (.cells c t)).alloc o1).alloc o2).alloc o3).alloc o4).alloc o5).alloc o6).setRow g c' = (((((((w.alloc (.cells c' t)).alloc o1).alloc o2).alloc o3).alloc o4).alloc o5).alloc o6) := by subst hg; rw [setRow_old _ (by simp; omega), stL5 rfl]
end
section
variable {P : Program} {F : Fence} {n : Nat} {a : Act} {w : World} {Q : Exit → Act → World → Prop}
theorem stepR_scope {b : Frame} {k : List Go.Item} {cs : List Frame} {c : Code} : step P (lone (b.atR a (.code (.scope c) :: k)) cs w) = .next (lone (b.atR a (.code c :: .inScope c :: k)) cs w) :=
  step_lone_go (by simp [stepG, stepG.exec, Frame.atR])
theorem stepR_inScope {b : Frame} {k : List Go.Item} {cs : List Frame} {c : Code} : step P (lone (b.atR a (.inScope c :: k)) cs w) = .next (lone (b.atR a k) cs w) :=
  step_lone_go (by simp [stepG, stepG.exec, Frame.atR])
/-- A scope through which the run goes without a goto, inside a fence. -/
theorem wpIn_scope_straight {c : Code} (h : c.wpIn F n P (Exit.noGoto Q) a w) : (Code.scope c).wpIn F n P Q a w := by
  intro b k cs hro hb hr
  have h0 : (lone (b.atR a (.code (.scope c) :: k)) cs w).fenced P F := fenced_calm hb hr rfl
  obtain ⟨e, a₁, w₁, hq, harr⟩ := h b (.inScope c :: k) cs hro hb hr
  cases e with
  | normal => exact ⟨.normal, a₁, w₁, hq, .head h0 stepR_scope (StepsIn.trans harr (.one (fenced_calm hb hr rfl) stepR_inScope))⟩
  | exit id' =>
    have hx : exitTo id' (.inScope c :: k) = exitTo id' k := by simp [exitTo]
    exact ⟨.exit id', a₁, w₁, hq, fun k' hk => .head h0 stepR_scope (harr.1 k' (by rw [hx]; exact hk)),
      fun hr' hk => let ⟨k₁, h1, h2⟩ := harr.2 hr' (by rw [hx]; exact hk); ⟨k₁, h1, .head h0 stepR_scope h2⟩⟩
  | goto l => exact hq.elim
  | ret => exact ⟨_, a₁, w₁, hq, .of_steps (.one h0 stepR_scope) harr⟩
  | panic ch => exact ⟨_, a₁, w₁, hq, .of_steps (.one h0 stepR_scope) harr⟩
  | outgrown => exact ⟨_, a₁, w₁, hq, .of_steps (.one h0 stepR_scope) harr⟩
end
end Go.Proofs.Ytgeldfgcicjidaa
