/-
  The reference's merging of rows: by insertion.
-/
import Derived.Test.YtglcmlicfmmlpaaA11
namespace Go.Proofs.Ytglcmlicfmmlpaa
open Go.RowKit

theorem less_cmp : ∀ a b : List UInt8, Op.bytesLess a b = decide (cmpB a b < 0)
  | [], [] => by simp [Op.bytesLess, cmpB, Go.Lib.compareBytes]
  | _ :: _, [] => by simp [Op.bytesLess, cmpB, Go.Lib.compareBytes]
  | [], _ :: _ => by simp [Op.bytesLess, cmpB, Go.Lib.compareBytes]
  | x :: a, y :: b => by
    rw [Op.bytesLess, cmpB_cons, less_cmp a b]
    by_cases h : x < y
    · simp [h]
    · rw [if_neg h]
      by_cases h2 : y < x
      · have h3 : (x == y) = false := by
          rw [beq_eq_false_iff_ne]; rintro rfl; exact h h2
        simp [h, h2, h3]
      · have h3 : x = y := by
          rw [UInt8.lt_iff_toNat_lt] at h h2
          exact UInt8.toNat_inj.1 (by omega)
        simp [h3]
section
variable {P : Program} {ω : Amb} {m : Nat} {ds : List Deferred} {Γ : List HP} {β : List (Nat × Value)} {x y : Operand} {t t' ty : TypeId} {pos : String} {af : Array Edge} {gd : Option (Nat × Bool)}
theorem rd_str_lss {d : Option Tmp} {a b : List UInt8} (hx : ev β x = some (.string (strOf a))) (hy : ev β y = some (.string (strOf b))) : Reads P ω m ds Γ β ⟨d, .binOp .lss t x y t', ty, pos, af, gd⟩ (.bool (decide (cmpB a b < 0))) := fun _ w hh hb => by
  simp [execOp, hb.eval hx, hb.eval hy, eqGuard, binOp, Op.stringOp]
  have := less_cmp a b
  exact this
theorem rd_str_gtr {d : Option Tmp} {a b : List UInt8} (hx : ev β x = some (.string (strOf a))) (hy : ev β y = some (.string (strOf b))) : Reads P ω m ds Γ β ⟨d, .binOp .gtr t x y t', ty, pos, af, gd⟩ (.bool (decide (cmpB b a < 0))) := fun _ w hh hb => by
  simp [execOp, hb.eval hx, hb.eval hy, eqGuard, binOp, Op.stringOp]
  have h1 := less_cmp a b
  have h2 := cmpB_swap a b
  have h3 := cmpB_eq a b
  have h4 := cmpB_self a
  rw [h1, Bool.eq_iff_iff]
  simp
  constructor
  · rintro ⟨q1, q2⟩
    have : cmpB a b ≠ 0 := fun h => q2 (h3 h)
    omega
  · intro q
    refine ⟨by omega, ?_⟩
    rintro rfl
    omega
end
theorem vw_subQ {α : Type} {f : α → List Value} {k T n c i j : Nat} {A : Option Addr} {L : List α} (hk : ∀ x, (f x).length = k) (hk0 : 0 < k) (h1 : i ≤ j) (h2 : j ≤ n) : Vw (ownQ f T k (.slice A n c) n L) (.slice (subA A c i k) (j - i) (c - i)) k (j - i) (((L.drop i).take (j - i)).flatMap f) := by
  have := Vw.sub (vw_Q (f := f) (T := T) (k := k) (v := .slice A n c) (n := n) (L := L)) hk0 h1 h2
  rw [flat_drop hk, flat_take hk] at this
  exact this
theorem ins_atk {x : GRow} : ∀ {out : List GRow} {k : Nat}, k ≤ out.length → (∀ p y, k ≤ p → out[p]? = some y → lt x y) → (∀ p y, p < k → out[p]? = some y → ¬ lt x y) → ins x out = out.take k ++ x :: out.drop k
  | [], k, _, _, _ => by simp [ins]
  | y :: l, k, hk, h1, h2 => by
    unfold ins
    by_cases h : lt x y
    · obtain rfl : k = 0 := by
        rcases Nat.eq_zero_or_pos k with h0 | h0
        · exact h0
        · exact absurd h (h2 0 y h0 rfl)
      rw [if_pos h]; rfl
    · obtain ⟨k, rfl⟩ : ∃ q, k = q + 1 := by
        rcases Nat.eq_zero_or_pos k with h0 | h0
        · exact absurd (h1 0 y (by omega) rfl) h
        · exact ⟨k - 1, by omega⟩
      rw [if_neg h, ins_atk (k := k) (by simpa using hk) (fun p z hp hz => h1 (p + 1) z (by omega) hz) (fun p z hp hz => h2 (p + 1) z (by omega) hz)]
      rfl
theorem srt_before {out : List GRow} (hs : Srt out) {x b a : GRow} {p q : Nat} (hq : out[q]? = some b) (hx : ¬ lt x b) (hpq : p ≤ q) (hp : out[p]? = some a) : ¬ lt x a := by
  rcases Nat.lt_or_eq_of_le hpq with h | rfl
  · obtain ⟨h1, rfl⟩ := List.getElem?_eq_some_iff.1 hq
    obtain ⟨h2, rfl⟩ := List.getElem?_eq_some_iff.1 hp
    exact nlt_trans (List.pairwise_iff_getElem.1 hs p q h2 h1 h) hx
  · rw [hp] at hq; cases hq; exact hx
end Go.Proofs.Ytglcmlicfmmlpaa
