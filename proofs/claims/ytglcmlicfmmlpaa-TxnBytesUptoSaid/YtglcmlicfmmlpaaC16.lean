/-
  Reading what was written gives back what was written.
-/
import Derived.Test.YtglcmlicfmmlpaaC15
namespace Go.Proofs.Ytglcmlicfmmlpaa
open Go.RowKit

theorem scanF_uvar (q : Nat) : ∀ (i acc : Nat) (l : List UInt8), i ≤ 9 → q * 128 ^ i < 18446744073709551616 → (i = 0 ∨ 0 < q) → scanF i acc (uvar q ++ l) = (acc + q * 128 ^ i, i + (uvar q).length, 0) := by
  induction q using Nat.strongRecOn with
  | _ q ih =>
    intro i acc l hi hq h0
    by_cases h : q < 128
    · rw [uvar_small h, List.singleton_append, scanF_cons]
      have hn : (UInt8.ofNat q).toNat = q := by simp; omega
      rw [hn, if_neg, if_pos h, Nat.mod_eq_of_lt h]
      · rfl
      · rintro (⟨rfl, h1⟩ | ⟨h1, h2⟩)
        · have h8 : (128 : Nat) ^ 9 = 9223372036854775808 := by decide
          rw [h8] at hq; omega
        · omega
    · rw [uvar_big h, List.cons_append, scanF_cons]
      have hn : (UInt8.ofNat (q % 128 + 128)).toNat = q % 128 + 128 := by simp; omega
      have h9 : i ≤ 8 := by
        rcases Nat.lt_or_ge i 9 with h9 | h9
        · omega
        · obtain rfl : i = 9 := by omega
          have h8 : (128 : Nat) ^ 9 = 9223372036854775808 := by decide
          rw [h8] at hq; omega
      have e1 : (q % 128 + 128) % 128 = q % 128 := by omega
      rw [hn, if_neg (by omega), if_neg (by omega), e1]
      have e2 : q / 128 * 128 ^ (i + 1) = (q / 128 * 128) * 128 ^ i := by rw [Nat.pow_succ]; ac_rfl
      have e3 : q * 128 ^ i = q % 128 * 128 ^ i + q / 128 * 128 ^ (i + 1) := by
        rw [e2, ← Nat.add_mul]
        congr 1; omega
      rw [ih (q / 128) (by omega) (i + 1) _ l (by omega) (by omega) (by right; omega), List.length_cons]
      simp only [Prod.mk.injEq, and_true]
      omega
theorem unzig_zig (n : Int) : unzig (zig n) = n := by
  unfold unzig zig
  split
  · split <;> omega
  · split <;> omega
/-- A reader that stands ahead of these bytes. -/
structure Rd (B : List UInt8) (s : RS) (l : List UInt8) : Prop where
  why : s.why = 0
  drop : B.drop s.at_ = l
section
variable {B u l : List UInt8} {s : RS}
theorem Rd.step (h : Rd B s (u ++ l)) : Rd B ⟨s.at_ + u.length, 0⟩ l := ⟨rfl, by rw [← List.drop_drop, h.drop, List.drop_left]⟩
theorem Rd.len (h : Rd B s l) : B.length - s.at_ = l.length := by rw [← h.drop, List.length_drop]
theorem Rd.uint {n : Nat} (h : Rd B s (uvar n ++ l)) (hn : n < 18446744073709551616) : rU B s = (n, ⟨s.at_ + (uvar n).length, 0⟩) := by
  have he := scanF_uvar n 0 0 l (by omega) (by simpa using hn) (.inl rfl)
  rw [← h.drop] at he
  simp only [Nat.zero_add, Nat.pow_zero, Nat.mul_one] at he
  exact rU_good h.why he rfl
theorem Rd.int {n : Int} (h : Rd B s (ivar n ++ l)) (hn : i64r n) : ∃ s', rI B s = (n, s') ∧ Rd B s' l := by
  have := h.uint (zig_lt hn)
  exact ⟨_, by unfold rI; rw [this]; dsimp only; rw [unzig_zig], h.step⟩
theorem Rd.count {most n : Nat} (h : Rd B s (uvar n ++ l)) (hn : n ≤ most) (hn64 : n < 18446744073709551616) (hl : n ≤ l.length) : ∃ s', rN most B s = (n, s') ∧ Rd B s' l := by
  have hu := h.uint hn64
  have hs := h.step
  have hlen := hs.len
  refine ⟨_, ?_, hs⟩
  rw [rN_good h.why (by rw [hu]) (by rw [hu]; dsimp only; omega) (by rw [hu]; dsimp only at hlen ⊢; omega), hu]
theorem Rd.bytes {t : List UInt8} (h : Rd B s (txt t ++ l)) (ht : t.length ≤ 65536) : ∃ s', rB B s = (t, s') ∧ Rd B s' l := by
  unfold txt at h
  rw [List.append_assoc] at h
  obtain ⟨s1, e1, h1⟩ := h.count (most := 65536) ht (by omega) (by simp)
  refine ⟨_, ?_, h1.step⟩
  rw [rB_good (by rw [e1]; exact h1.why), e1]
  dsimp only
  rw [h1.drop, List.take_left]
theorem Rd.bool {b : Bool} (h : Rd B s (uvar (bnat b) ++ l)) : ∃ s', rT B s = (b, s') ∧ Rd B s' l := by
  have hb : uvar (bnat b) = [UInt8.ofNat (bnat b)] := uvar_small (by unfold bnat; split <;> decide)
  rw [hb] at h
  have hx : B[s.at_]? = some (UInt8.ofNat (bnat b)) := by
    have := congrArg (·[0]?) h.drop
    simpa using this
  refine ⟨_, ?_, h.step⟩
  cases b
  · exact rT_good h.why hx (by decide)
  · exact rT_good h.why hx (by decide)
theorem Rd.fin (h : Rd B s []) : rE B s = 0 := by
  have := h.len
  simp only [List.length_nil] at this
  unfold rE
  rw [if_neg (by omega)]
  exact h.why
theorem Rd.init (B : List UInt8) : Rd B ⟨0, 0⟩ B := ⟨rfl, rfl⟩
/-- Are the texts short? -/
def short6 (s : List UInt8) : Prop := s.length ≤ 65536
theorem Rd.op {o : GOp} (h : Rd B s (opB o ++ l)) (ho : o.ok) (h1 : short6 o.src) (h2 : short6 o.dst) (h3 : short6 o.key) : ∃ s', rOp B s = (o, s') ∧ Rd B s' l := by
  unfold opB at h
  simp only [List.append_assoc] at h
  obtain ⟨s1, e1, h⟩ := h.int ho.kind
  obtain ⟨s2, e2, h⟩ := h.bytes h1
  obtain ⟨s3, e3, h⟩ := h.bytes h2
  obtain ⟨s4, e4, h⟩ := h.int ho.amt
  obtain ⟨s5, e5, h⟩ := h.bytes h3
  obtain ⟨s6, e6, h⟩ := h.int ho.slot
  obtain ⟨s7, e7, h⟩ := h.int ho.shard
  exact ⟨s7, by simp only [rOp, e1, e2, e3, e4, e5, e6, e7], h⟩
theorem Rd.rows : ∀ (rows : List GRow) (s : RS), Rd B s (rows.flatMap rowB ++ l) → (∀ r ∈ rows, i64r r.amount ∧ short6 r.name) → ∃ s', rRows rows.length B s = (rows, s') ∧ Rd B s' l
  | [], s, h, _ => ⟨s, rfl, h⟩
  | r :: rows, s, h, hr => by
    rw [List.flatMap_cons] at h
    unfold rowB at h
    simp only [List.append_assoc] at h
    obtain ⟨s1, e1, h⟩ := h.bytes (hr r (List.mem_cons_self ..)).2
    obtain ⟨s2, e2, h⟩ := h.int (hr r (List.mem_cons_self ..)).1
    obtain ⟨s3, e3, h⟩ := Rd.rows rows s2 h (fun r hm => hr r (List.mem_cons_of_mem _ hm))
    exact ⟨s3, by simp only [List.length_cons, rRows, e1, e2, e3], h⟩
theorem rows_len : ∀ rows : List GRow, rows.length ≤ (rows.flatMap rowB).length
  | [] => by simp
  | r :: rows => by
    have := rows_len rows
    have h1 : 0 < (ivar r.amount).length := by unfold ivar; rw [uvar]; split <;> simp
    have h2 : (rowB r).length = (txt r.name).length + (ivar r.amount).length := by unfold rowB; rw [List.length_append]
    rw [List.flatMap_cons, List.length_append, List.length_cons]
    omega
theorem Rd.reply {x : GReply} (h : Rd B s (replyB x ++ l)) (hx : x.ok) (hn : x.rows.length ≤ 600) (hr : ∀ r ∈ x.rows, short6 r.name) : ∃ s', rReply B s = ((x.why, x.amount, x.rows), s') ∧ Rd B s' l := by
  unfold replyB at h
  simp only [List.append_assoc] at h
  obtain ⟨s1, e1, h⟩ := h.int hx.why
  obtain ⟨s2, e2, h⟩ := h.int hx.amount
  have hl := rows_len x.rows
  obtain ⟨s3, e3, h⟩ := h.count (most := 600) hn (by omega) (by rw [List.length_append]; omega)
  obtain ⟨s4, e4, h⟩ := Rd.rows x.rows s3 h (fun r hm => ⟨(hx.rows r hm).2, hr r hm⟩)
  exact ⟨s4, by simp only [rReply, e1, e2, e3, e4], h⟩
end
theorem cmd_short (x : GCmd) (h : (cmdB x).length ≤ 65536) : short6 x.op.src ∧ short6 x.op.dst ∧ short6 x.op.key ∧ short6 x.id ∧ short6 x.name ∧ short6 x.data := by
  unfold cmdB opB txt at h
  unfold short6
  simp only [List.length_append] at h
  omega
theorem parseC_back (x : GCmd) (hx : x.ok) (hl : (cmdB x).length ≤ 65536) : parseC (cmdB x) = (x.plain, 0) := by
  obtain ⟨q1, q2, q3, q4, q5, q6⟩ := cmd_short x hl
  have h := Rd.init (cmdB x)
  have hc : cmdB x = ivar x.kind ++ (opB x.op ++ (txt x.id ++ (txt x.name ++ (ivar x.n ++ (ivar x.why ++ (ivar x.slot ++ (ivar x.epoch ++ (ivar x.at_ ++ (uvar (bnat x.last) ++ (txt x.data ++ [])))))))))) := by
    unfold cmdB; simp only [List.append_assoc, List.append_nil]
  generalize cmdB x = B at h hl hc ⊢
  replace h : Rd B ⟨0, 0⟩ (ivar x.kind ++ (opB x.op ++ (txt x.id ++ (txt x.name ++ (ivar x.n ++ (ivar x.why ++ (ivar x.slot ++ (ivar x.epoch ++ (ivar x.at_ ++ (uvar (bnat x.last) ++ (txt x.data ++ []))))))))))) := ⟨rfl, hc⟩
  obtain ⟨s1, e1, h⟩ := h.int hx.kind
  obtain ⟨s2, e2, h⟩ := h.op hx.op q1 q2 q3
  obtain ⟨s3, e3, h⟩ := h.bytes q4
  obtain ⟨s4, e4, h⟩ := h.bytes q5
  obtain ⟨s5, e5, h⟩ := h.int hx.n
  obtain ⟨s6, e6, h⟩ := h.int hx.why
  obtain ⟨s7, e7, h⟩ := h.int hx.slot
  obtain ⟨s8, e8, h⟩ := h.int hx.epoch
  obtain ⟨s9, e9, h⟩ := h.int hx.at_
  obtain ⟨s10, e10, h⟩ := h.bool
  obtain ⟨s11, e11, h⟩ := h.bytes q6
  have hp : pCmd B = (x.plain, s11) := by simp only [pCmd, e1, e2, e3, e4, e5, e6, e7, e8, e9, e10, e11]; rfl
  unfold parseC
  rw [if_neg (by omega), hp]
  dsimp only
  rw [h.fin]
  rfl
theorem parseA_back (x : GAsk) (hx : x.ok) (hl : (askB x).length ≤ 65536) (h0 : 0 ≤ x.group) (h3 : x.group ≤ 3) : parseA (askB x) = (x.plain, 0) := by
  have hlc : (cmdB x.cmd).length ≤ 65536 := by unfold askB txt at hl; simp only [List.length_append] at hl; omega
  have hb := parseC_back x.cmd hx.cmd hlc
  have hc : askB x = ivar x.group ++ (txt (cmdB x.cmd) ++ []) := by unfold askB; simp
  generalize askB x = B at hl hc ⊢
  have h : Rd B ⟨0, 0⟩ (ivar x.group ++ (txt (cmdB x.cmd) ++ [])) := ⟨rfl, hc⟩
  obtain ⟨s1, e1, h⟩ := h.int hx.group
  obtain ⟨s2, e2, h⟩ := h.bytes hlc
  have hp : pAsk B = (x.group, cmdB x.cmd, s2) := by simp only [pAsk, e1, e2]
  unfold parseA
  rw [if_neg (by omega), hp]
  dsimp only
  rw [h.fin, hb, if_neg (by simp), if_neg (by simp), if_neg (by omega)]
  rfl
theorem parseR_back (x : GRes) (hx : x.ok) (hw : resWhy x = 0) (hr : ∀ r ∈ x.reply.rows, short6 r.name) : parseR (resOut x) = (x.plain, 0) := by
  unfold resWhy at hw
  unfold resOut
  split at hw
  · cases hw
  rename_i hn
  rw [if_neg hn]
  unfold whyMost at hw
  split at hw
  · cases hw
  rename_i hl
  rw [(long_no hl).1]
  have hc : resB x = ivar x.why ++ (uvar (bnat x.wait) ++ (replyB x.reply ++ (txt x.data ++ []))) := by unfold resB; simp
  generalize resB x = B at hl hc ⊢
  have h : Rd B ⟨0, 0⟩ (ivar x.why ++ (uvar (bnat x.wait) ++ (replyB x.reply ++ (txt x.data ++ [])))) := ⟨rfl, hc⟩
  obtain ⟨s1, e1, h⟩ := h.int hx.why
  obtain ⟨s2, e2, h⟩ := h.bool
  obtain ⟨s3, e3, h⟩ := h.reply hx.reply (by omega) hr
  obtain ⟨s4, e4, h⟩ := h.bytes (by unfold short6 at *; omega)
  have hp : pRes B = (x.plain, s4) := by simp only [pRes, e1, e2, e3, e4]; rfl
  unfold parseR
  rw [if_neg hl, hp]
  dsimp only
  rw [h.fin]
  rfl
end Go.Proofs.Ytglcmlicfmmlpaa
