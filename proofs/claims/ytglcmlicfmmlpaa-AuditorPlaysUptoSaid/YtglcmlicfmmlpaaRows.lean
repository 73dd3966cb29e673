/-
  No cell of these rows narrows 'for every input' (looked for: loops, veiled, ifaces, maps, wideKeys, modest, calm, conditions, laid).
  DERIVED. THE GIVEN ROWS OF THIS SEAT. 9 by the template 'for every input the law returns true; each argument reads behind the call as it read before'; 0 by the template 'total and deterministic' (their statements: YtglcmlicfmmlpaaTotals.lean).
  GIVEN WITH THE SEED: the statements are not yours to turn. If you find one false, say at which input.
  Laid BY PROGRAM, IN A SANDBOX (cutbox-rows.mjs): the forced cells as the released guide's own fill.sh prints them over the translation 7b73492af20e43d9… (all of the seat's roots in one cut). By AI agents, Wed Nov 11 2026. No macro, syntax, notation, axiom, sorry.
-/
import Derived.Test.YtglcmlicfmmlpaaChecked
import GoSem.Claim
import GoSem.ClaimJoined
import GoSem.ClaimMapViews
import Derived.JoinedTies
import Derived.KernelRfl
namespace Go.Proofs.Ytglcmlicfmmlpaa
/- THE CELL 'sum', in the pinned program and in every row, IS THE sha256 OF THE DUMP (.gsa) THAT YtglcmlicfmmlpaaProg.lean LOADS. Nothing in Lean hashes anything: it is a label: what it is worth is what the hold of that sum in a sandbox is worth. -/
noncomputable def Try.pinned : Pinned := { name := "ytglcmlicfmmlpaa", sum := "7b73492af20e43d91051f245939d5482ca290a4d172e5e3e801d34ba23191d5a", checked := Try.checked }
namespace Rows
def none {H : Type} : Left H := { results := [], args := [] }

/-- 'almonerlaw15.TxnAsks': WHATEVER THE INPUT: true; the input reads as it did. -/
def txnAsksSpec : ChangeSpec := { name := "txnAsks", fn := fun _ => fun
  | [d1, d2, d3, d4, d5] => { results := [.lit (.bool true)], args := [d1, d2, d3, d4, d5] }
  | _ => none }
def txnAsksRow : OpenClaim := { program := "ytglcmlicfmmlpaa", sum := "7b73492af20e43d91051f245939d5482ca290a4d172e5e3e801d34ba23191d5a", func := "almoner/almonerlaw15.TxnAsks", spec := "txnAsks", unfollowed := true, recurses := true, apart := false }
def TxnAsksSaid : Prop := txnAsksRow.holds Try.pinned (OpenSpec.ofChange txnAsksSpec)

/-- ITS FALSE NEIGHBOUR: 'it returns false'. Refute it at one input. -/
def txnAsksWrong : ChangeSpec := { name := "txnAsks", fn := fun _ => fun
  | [d1, d2, d3, d4, d5] => { results := [.lit (.bool false)], args := [d1, d2, d3, d4, d5] }
  | _ => none }
def TxnAsksWrongFalsely : Prop := txnAsksRow.holds Try.pinned (OpenSpec.ofChange txnAsksWrong)

/-- 'almonerlaw15.TxnOnce': WHATEVER THE INPUT: true; the input reads as it did. -/
def txnOnceSpec : ChangeSpec := { name := "txnOnce", fn := fun _ => fun
  | [d1, d2, d3, d4] => { results := [.lit (.bool true)], args := [d1, d2, d3, d4] }
  | _ => none }
def txnOnceRow : OpenClaim := { program := "ytglcmlicfmmlpaa", sum := "7b73492af20e43d91051f245939d5482ca290a4d172e5e3e801d34ba23191d5a", func := "almoner/almonerlaw15.TxnOnce", spec := "txnOnce", unfollowed := true, recurses := true, apart := false }
def TxnOnceSaid : Prop := txnOnceRow.holds Try.pinned (OpenSpec.ofChange txnOnceSpec)

/-- ITS FALSE NEIGHBOUR: 'it returns false'. Refute it at one input. -/
def txnOnceWrong : ChangeSpec := { name := "txnOnce", fn := fun _ => fun
  | [d1, d2, d3, d4] => { results := [.lit (.bool false)], args := [d1, d2, d3, d4] }
  | _ => none }
def TxnOnceWrongFalsely : Prop := txnOnceRow.holds Try.pinned (OpenSpec.ofChange txnOnceWrong)

/-- 'almonerlaw16.MoverPlays': WHATEVER THE INPUT: true; the input reads as it did. -/
def moverPlaysSpec : ChangeSpec := { name := "moverPlays", fn := fun _ => fun
  | [d] => { results := [.lit (.bool true)], args := [d] }
  | _ => none }
def moverPlaysRow : OpenClaim := { program := "ytglcmlicfmmlpaa", sum := "7b73492af20e43d91051f245939d5482ca290a4d172e5e3e801d34ba23191d5a", func := "almoner/almonerlaw16.MoverPlays", spec := "moverPlays", unfollowed := true, recurses := true, apart := false }
def MoverPlaysSaid : Prop := moverPlaysRow.holds Try.pinned (OpenSpec.ofChange moverPlaysSpec)

/-- ITS FALSE NEIGHBOUR: 'it returns false'. Refute it at one input. -/
def moverPlaysWrong : ChangeSpec := { name := "moverPlays", fn := fun _ => fun
  | [d] => { results := [.lit (.bool false)], args := [d] }
  | _ => none }
def MoverPlaysWrongFalsely : Prop := moverPlaysRow.holds Try.pinned (OpenSpec.ofChange moverPlaysWrong)

/-- 'almonerlaw16.MoverNil': WHATEVER THE INPUT: true; the input reads as it did. -/
def moverNilSpec : ChangeSpec := { name := "moverNil", fn := fun _ => fun
  | [d] => { results := [.lit (.bool true)], args := [d] }
  | _ => none }
def moverNilRow : OpenClaim := { program := "ytglcmlicfmmlpaa", sum := "7b73492af20e43d91051f245939d5482ca290a4d172e5e3e801d34ba23191d5a", func := "almoner/almonerlaw16.MoverNil", spec := "moverNil", unfollowed := true, recurses := true, apart := false }
def MoverNilSaid : Prop := moverNilRow.holds Try.pinned (OpenSpec.ofChange moverNilSpec)

/-- ITS FALSE NEIGHBOUR: 'it returns false'. Refute it at one input. -/
def moverNilWrong : ChangeSpec := { name := "moverNil", fn := fun _ => fun
  | [d] => { results := [.lit (.bool false)], args := [d] }
  | _ => none }
def MoverNilWrongFalsely : Prop := moverNilRow.holds Try.pinned (OpenSpec.ofChange moverNilWrong)

/-- 'almonerlaw16.MoverSends': WHATEVER THE INPUT: true; the input reads as it did. -/
def moverSendsSpec : ChangeSpec := { name := "moverSends", fn := fun _ => fun
  | [d1, d2] => { results := [.lit (.bool true)], args := [d1, d2] }
  | _ => none }
def moverSendsRow : OpenClaim := { program := "ytglcmlicfmmlpaa", sum := "7b73492af20e43d91051f245939d5482ca290a4d172e5e3e801d34ba23191d5a", func := "almoner/almonerlaw16.MoverSends", spec := "moverSends", unfollowed := true, recurses := true, apart := false }
def MoverSendsSaid : Prop := moverSendsRow.holds Try.pinned (OpenSpec.ofChange moverSendsSpec)

/-- ITS FALSE NEIGHBOUR: 'it returns false'. Refute it at one input. -/
def moverSendsWrong : ChangeSpec := { name := "moverSends", fn := fun _ => fun
  | [d1, d2] => { results := [.lit (.bool false)], args := [d1, d2] }
  | _ => none }
def MoverSendsWrongFalsely : Prop := moverSendsRow.holds Try.pinned (OpenSpec.ofChange moverSendsWrong)

/-- 'almonerlaw15.TxnBytes': WHATEVER THE INPUT: true; the input reads as it did. -/
def txnBytesSpec : ChangeSpec := { name := "txnBytes", fn := fun _ => fun
  | [d1, d2, d3] => { results := [.lit (.bool true)], args := [d1, d2, d3] }
  | _ => none }
def txnBytesRow : OpenClaim := { program := "ytglcmlicfmmlpaa", sum := "7b73492af20e43d91051f245939d5482ca290a4d172e5e3e801d34ba23191d5a", func := "almoner/almonerlaw15.TxnBytes", spec := "txnBytes", unfollowed := true, recurses := true, apart := false }
def TxnBytesSaid : Prop := txnBytesRow.holds Try.pinned (OpenSpec.ofChange txnBytesSpec)

/-- ITS FALSE NEIGHBOUR: 'it returns false'. Refute it at one input. -/
def txnBytesWrong : ChangeSpec := { name := "txnBytes", fn := fun _ => fun
  | [d1, d2, d3] => { results := [.lit (.bool false)], args := [d1, d2, d3] }
  | _ => none }
def TxnBytesWrongFalsely : Prop := txnBytesRow.holds Try.pinned (OpenSpec.ofChange txnBytesWrong)

/-- 'almonerlaw17.AuditorPlays': WHATEVER THE INPUT: true; the input reads as it did. -/
def auditorPlaysSpec : ChangeSpec := { name := "auditorPlays", fn := fun _ => fun
  | [d1, d2] => { results := [.lit (.bool true)], args := [d1, d2] }
  | _ => none }
def auditorPlaysRow : OpenClaim := { program := "ytglcmlicfmmlpaa", sum := "7b73492af20e43d91051f245939d5482ca290a4d172e5e3e801d34ba23191d5a", func := "almoner/almonerlaw17.AuditorPlays", spec := "auditorPlays", inPlace := ["internal/bytealg.abigen_runtime_cmpstring"], unfollowed := true, recurses := true, apart := false }
def AuditorPlaysSaid : Prop := auditorPlaysRow.holds Try.pinned (OpenSpec.ofChange auditorPlaysSpec)

/-- ITS FALSE NEIGHBOUR: 'it returns false'. Refute it at one input. -/
def auditorPlaysWrong : ChangeSpec := { name := "auditorPlays", fn := fun _ => fun
  | [d1, d2] => { results := [.lit (.bool false)], args := [d1, d2] }
  | _ => none }
def AuditorPlaysWrongFalsely : Prop := auditorPlaysRow.holds Try.pinned (OpenSpec.ofChange auditorPlaysWrong)

/-- 'almonerlaw17.AuditorMerges': WHATEVER THE INPUT: true; the input reads as it did. -/
def auditorMergesSpec : ChangeSpec := { name := "auditorMerges", fn := fun _ => fun
  | [d1, d2, d3] => { results := [.lit (.bool true)], args := [d1, d2, d3] }
  | _ => none }
def auditorMergesRow : OpenClaim := { program := "ytglcmlicfmmlpaa", sum := "7b73492af20e43d91051f245939d5482ca290a4d172e5e3e801d34ba23191d5a", func := "almoner/almonerlaw17.AuditorMerges", spec := "auditorMerges", inPlace := ["internal/bytealg.abigen_runtime_cmpstring"], unfollowed := true, recurses := true, apart := false }
def AuditorMergesSaid : Prop := auditorMergesRow.holds Try.pinned (OpenSpec.ofChange auditorMergesSpec)

/-- ITS FALSE NEIGHBOUR: 'it returns false'. Refute it at one input. -/
def auditorMergesWrong : ChangeSpec := { name := "auditorMerges", fn := fun _ => fun
  | [d1, d2, d3] => { results := [.lit (.bool false)], args := [d1, d2, d3] }
  | _ => none }
def AuditorMergesWrongFalsely : Prop := auditorMergesRow.holds Try.pinned (OpenSpec.ofChange auditorMergesWrong)

/-- 'almonerlaw17.AuditorNil': WHATEVER THE INPUT: true; the input reads as it did. -/
def auditorNilSpec : ChangeSpec := { name := "auditorNil", fn := fun _ => fun
  | [d] => { results := [.lit (.bool true)], args := [d] }
  | _ => none }
def auditorNilRow : OpenClaim := { program := "ytglcmlicfmmlpaa", sum := "7b73492af20e43d91051f245939d5482ca290a4d172e5e3e801d34ba23191d5a", func := "almoner/almonerlaw17.AuditorNil", spec := "auditorNil", inPlace := ["internal/bytealg.abigen_runtime_cmpstring"], unfollowed := true, recurses := true, apart := false }
def AuditorNilSaid : Prop := auditorNilRow.holds Try.pinned (OpenSpec.ofChange auditorNilSpec)

/-- ITS FALSE NEIGHBOUR: 'it returns false'. Refute it at one input. -/
def auditorNilWrong : ChangeSpec := { name := "auditorNil", fn := fun _ => fun
  | [d] => { results := [.lit (.bool false)], args := [d] }
  | _ => none }
def AuditorNilWrongFalsely : Prop := auditorNilRow.holds Try.pinned (OpenSpec.ofChange auditorNilWrong)

/- THE SECOND FORM. 'bulk': how many values and letters a reading holds, each counted each time it is reached (what is shared counts as often as it is met; a slice's spare places count too). A statement '..UptoSaid' is the law's where the arguments, and the package variables that the reading takes, are together of bulk at most 1048576: NARROWER than '..Said'. Prove '..Said' where nothing that the law and all that it calls make is longer than what came in: it says more and counts as full. Else prove '..UptoSaid'. A law counts once. -/
mutual
def uptoBulk {H : Type} : DataW H → Nat
  | .lit (.string bytes) => bytes.length + 1
  | .lit _ => 1
  | .nil => 1
  | .ptr d => uptoBulk d + 1
  | .slice elems spare => uptoBulkAll elems + uptoBulkAll spare + 1
  | .agg parts => uptoBulkAll parts + 1
  | .iface _ d => uptoBulk d + 1
  | .map entries => uptoBulkEntries entries + 1
  | .held _ => 1
def uptoBulkAll {H : Type} : List (DataW H) → Nat
  | [] => 0
  | d :: r => uptoBulk d + uptoBulkAll r
def uptoBulkEntries {H : Type} : List (Lit × DataW H) → Nat
  | [] => 0
  | x :: r => uptoBulkEntry x + uptoBulkEntries r
def uptoBulkEntry {H : Type} : Lit × DataW H → Nat
  | (.string bytes, d) => bytes.length + uptoBulk d + 1
  | (_, d) => uptoBulk d + 1
 end
def uptoSmall : (H : Type) → List (DataW H) → Bool := fun _ ds => decide (uptoBulkAll ds ≤ 1048576)
def OpenSpec.upto (s : _root_.Go.ChangeSpec) : _root_.Go.OpenSpec := { _root_.Go.OpenSpec.ofChange s with cond := some uptoSmall }

/-- 'almonerlaw15.TxnAsks', WHERE WHAT IT READS IS OF BULK AT MOST 1048576: true; the input reads as it did. -/
def txnAsksUptoRow : OpenClaim := { program := "ytglcmlicfmmlpaa", sum := "7b73492af20e43d91051f245939d5482ca290a4d172e5e3e801d34ba23191d5a", func := "almoner/almonerlaw15.TxnAsks", spec := "txnAsks", unfollowed := true, recurses := true, apart := false, narrowed := true }
def TxnAsksUptoSaid : Prop := txnAsksUptoRow.holds Try.pinned (OpenSpec.upto txnAsksSpec)

/-- 'almonerlaw15.TxnOnce', WHERE WHAT IT READS IS OF BULK AT MOST 1048576: true; the input reads as it did. -/
def txnOnceUptoRow : OpenClaim := { program := "ytglcmlicfmmlpaa", sum := "7b73492af20e43d91051f245939d5482ca290a4d172e5e3e801d34ba23191d5a", func := "almoner/almonerlaw15.TxnOnce", spec := "txnOnce", unfollowed := true, recurses := true, apart := false, narrowed := true }
def TxnOnceUptoSaid : Prop := txnOnceUptoRow.holds Try.pinned (OpenSpec.upto txnOnceSpec)

/-- 'almonerlaw16.MoverPlays', WHERE WHAT IT READS IS OF BULK AT MOST 1048576: true; the input reads as it did. -/
def moverPlaysUptoRow : OpenClaim := { program := "ytglcmlicfmmlpaa", sum := "7b73492af20e43d91051f245939d5482ca290a4d172e5e3e801d34ba23191d5a", func := "almoner/almonerlaw16.MoverPlays", spec := "moverPlays", unfollowed := true, recurses := true, apart := false, narrowed := true }
def MoverPlaysUptoSaid : Prop := moverPlaysUptoRow.holds Try.pinned (OpenSpec.upto moverPlaysSpec)

/-- 'almonerlaw16.MoverNil', WHERE WHAT IT READS IS OF BULK AT MOST 1048576: true; the input reads as it did. -/
def moverNilUptoRow : OpenClaim := { program := "ytglcmlicfmmlpaa", sum := "7b73492af20e43d91051f245939d5482ca290a4d172e5e3e801d34ba23191d5a", func := "almoner/almonerlaw16.MoverNil", spec := "moverNil", unfollowed := true, recurses := true, apart := false, narrowed := true }
def MoverNilUptoSaid : Prop := moverNilUptoRow.holds Try.pinned (OpenSpec.upto moverNilSpec)

/-- 'almonerlaw16.MoverSends', WHERE WHAT IT READS IS OF BULK AT MOST 1048576: true; the input reads as it did. -/
def moverSendsUptoRow : OpenClaim := { program := "ytglcmlicfmmlpaa", sum := "7b73492af20e43d91051f245939d5482ca290a4d172e5e3e801d34ba23191d5a", func := "almoner/almonerlaw16.MoverSends", spec := "moverSends", unfollowed := true, recurses := true, apart := false, narrowed := true }
def MoverSendsUptoSaid : Prop := moverSendsUptoRow.holds Try.pinned (OpenSpec.upto moverSendsSpec)

/-- 'almonerlaw15.TxnBytes', WHERE WHAT IT READS IS OF BULK AT MOST 1048576: true; the input reads as it did. -/
def txnBytesUptoRow : OpenClaim := { program := "ytglcmlicfmmlpaa", sum := "7b73492af20e43d91051f245939d5482ca290a4d172e5e3e801d34ba23191d5a", func := "almoner/almonerlaw15.TxnBytes", spec := "txnBytes", unfollowed := true, recurses := true, apart := false, narrowed := true }
def TxnBytesUptoSaid : Prop := txnBytesUptoRow.holds Try.pinned (OpenSpec.upto txnBytesSpec)

/-- 'almonerlaw17.AuditorPlays', WHERE WHAT IT READS IS OF BULK AT MOST 1048576: true; the input reads as it did. -/
def auditorPlaysUptoRow : OpenClaim := { program := "ytglcmlicfmmlpaa", sum := "7b73492af20e43d91051f245939d5482ca290a4d172e5e3e801d34ba23191d5a", func := "almoner/almonerlaw17.AuditorPlays", spec := "auditorPlays", inPlace := ["internal/bytealg.abigen_runtime_cmpstring"], unfollowed := true, recurses := true, apart := false, narrowed := true }
def AuditorPlaysUptoSaid : Prop := auditorPlaysUptoRow.holds Try.pinned (OpenSpec.upto auditorPlaysSpec)

/-- 'almonerlaw17.AuditorMerges', WHERE WHAT IT READS IS OF BULK AT MOST 1048576: true; the input reads as it did. -/
def auditorMergesUptoRow : OpenClaim := { program := "ytglcmlicfmmlpaa", sum := "7b73492af20e43d91051f245939d5482ca290a4d172e5e3e801d34ba23191d5a", func := "almoner/almonerlaw17.AuditorMerges", spec := "auditorMerges", inPlace := ["internal/bytealg.abigen_runtime_cmpstring"], unfollowed := true, recurses := true, apart := false, narrowed := true }
def AuditorMergesUptoSaid : Prop := auditorMergesUptoRow.holds Try.pinned (OpenSpec.upto auditorMergesSpec)

/-- 'almonerlaw17.AuditorNil', WHERE WHAT IT READS IS OF BULK AT MOST 1048576: true; the input reads as it did. -/
def auditorNilUptoRow : OpenClaim := { program := "ytglcmlicfmmlpaa", sum := "7b73492af20e43d91051f245939d5482ca290a4d172e5e3e801d34ba23191d5a", func := "almoner/almonerlaw17.AuditorNil", spec := "auditorNil", inPlace := ["internal/bytealg.abigen_runtime_cmpstring"], unfollowed := true, recurses := true, apart := false, narrowed := true }
def AuditorNilUptoSaid : Prop := auditorNilUptoRow.holds Try.pinned (OpenSpec.upto auditorNilSpec)

end Rows
end Go.Proofs.Ytglcmlicfmmlpaa
