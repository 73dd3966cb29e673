/-
  No cell of these rows narrows 'for every input' (looked for: loops, veiled, ifaces, maps, wideKeys, modest, calm, conditions, laid).
  DERIVED. THE GIVEN ROWS OF THIS SEAT. 4 by the template 'for every input the law returns true; each argument reads behind the call as it read before'; 0 by the template 'total and deterministic' (their statements: YtgeldfgcicjidaaGreatTotals.lean).
  GIVEN WITH THE SEED: the statements are not yours to turn. If you find one false, say at which input.
  Laid BY PROGRAM, IN A SANDBOX (cutbox-rows.mjs): the forced cells as the released guide's own fill.sh prints them over the translation a94c94214808a159… (all of the seat's roots in one cut). By AI agents, Wed Nov 11 2026. No macro, syntax, notation, axiom, sorry.
-/
import Derived.Test.YtgeldfgcicjidaaGreatChecked
import GoSem.Claim
import GoSem.ClaimJoined
import GoSem.ClaimMapViews
import Derived.JoinedTies
import Derived.KernelRfl
namespace Go.Proofs.YtgeldfgcicjidaaGreat
/- THE CELL 'sum', in the pinned program and in every row, IS THE sha256 OF THE DUMP (.gsa) THAT YtgeldfgcicjidaaGreatProg.lean LOADS. Nothing in Lean hashes anything: it is a label: what it is worth is what the hold of that sum in a sandbox is worth. -/
noncomputable def Tryz.pinned : Pinned := { name := "ytgeldfgcicjidaagreat", sum := "a94c94214808a1597b627508b8a62370254c03ec25fda4ace5b1311bb71fd857", checked := Tryz.checked }
namespace Rows
def none {H : Type} : Left H := { results := [], args := [] }

/-- 'almonerlaw06.BtreePlays': WHATEVER THE INPUT: true; the input reads as it did. -/
def btreePlaysSpec : ChangeSpec := { name := "btreePlays", fn := fun _ => fun
  | [d] => { results := [.lit (.bool true)], args := [d] }
  | _ => none }
def btreePlaysRow : OpenClaim := { program := "ytgeldfgcicjidaagreat", sum := "a94c94214808a1597b627508b8a62370254c03ec25fda4ace5b1311bb71fd857", func := "almoner/almonerlaw06.BtreePlays", spec := "btreePlays", inPlace := ["slices.overlaps[almoner/btree.item]", "internal/bytealg.abigen_runtime_cmpstring"], unfollowed := true, recurses := true, apart := false }
def BtreePlaysSaid : Prop := btreePlaysRow.holds Tryz.pinned (OpenSpec.ofChange btreePlaysSpec)

/-- ITS FALSE NEIGHBOUR: 'it returns false'. Refute it at one input. -/
def btreePlaysWrong : ChangeSpec := { name := "btreePlays", fn := fun _ => fun
  | [d] => { results := [.lit (.bool false)], args := [d] }
  | _ => none }
def BtreePlaysWrongFalsely : Prop := btreePlaysRow.holds Tryz.pinned (OpenSpec.ofChange btreePlaysWrong)

/-- 'almonerlaw06.BtreeNil': WHATEVER THE INPUT: true; the input reads as it did. -/
def btreeNilSpec : ChangeSpec := { name := "btreeNil", fn := fun _ => fun
  | [d1, d2] => { results := [.lit (.bool true)], args := [d1, d2] }
  | _ => none }
def btreeNilRow : OpenClaim := { program := "ytgeldfgcicjidaagreat", sum := "a94c94214808a1597b627508b8a62370254c03ec25fda4ace5b1311bb71fd857", func := "almoner/almonerlaw06.BtreeNil", spec := "btreeNil", inPlace := ["internal/bytealg.abigen_runtime_cmpstring", "slices.overlaps[almoner/btree.item]"], unfollowed := true, recurses := true, apart := false }
def BtreeNilSaid : Prop := btreeNilRow.holds Tryz.pinned (OpenSpec.ofChange btreeNilSpec)

/-- ITS FALSE NEIGHBOUR: 'it returns false'. Refute it at one input. -/
def btreeNilWrong : ChangeSpec := { name := "btreeNil", fn := fun _ => fun
  | [d1, d2] => { results := [.lit (.bool false)], args := [d1, d2] }
  | _ => none }
def BtreeNilWrongFalsely : Prop := btreeNilRow.holds Tryz.pinned (OpenSpec.ofChange btreeNilWrong)

/-- 'almonerlaw06.BtreePages': WHATEVER THE INPUT: true; the input reads as it did. -/
def btreePagesSpec : ChangeSpec := { name := "btreePages", fn := fun _ => fun
  | [d1, d2] => { results := [.lit (.bool true)], args := [d1, d2] }
  | _ => none }
def btreePagesRow : OpenClaim := { program := "ytgeldfgcicjidaagreat", sum := "a94c94214808a1597b627508b8a62370254c03ec25fda4ace5b1311bb71fd857", func := "almoner/almonerlaw06.BtreePages", spec := "btreePages", inPlace := ["slices.overlaps[almoner/btree.item]", "internal/bytealg.abigen_runtime_cmpstring"], unfollowed := true, recurses := true, apart := false }
def BtreePagesSaid : Prop := btreePagesRow.holds Tryz.pinned (OpenSpec.ofChange btreePagesSpec)

/-- ITS FALSE NEIGHBOUR: 'it returns false'. Refute it at one input. -/
def btreePagesWrong : ChangeSpec := { name := "btreePages", fn := fun _ => fun
  | [d1, d2] => { results := [.lit (.bool false)], args := [d1, d2] }
  | _ => none }
def BtreePagesWrongFalsely : Prop := btreePagesRow.holds Tryz.pinned (OpenSpec.ofChange btreePagesWrong)

/-- 'almonerlaw06.BtreeCrashes': WHATEVER THE INPUT: true; the input reads as it did. -/
def btreeCrashesSpec : ChangeSpec := { name := "btreeCrashes", fn := fun _ => fun
  | [d1, d2, d3] => { results := [.lit (.bool true)], args := [d1, d2, d3] }
  | _ => none }
def btreeCrashesRow : OpenClaim := { program := "ytgeldfgcicjidaagreat", sum := "a94c94214808a1597b627508b8a62370254c03ec25fda4ace5b1311bb71fd857", func := "almoner/almonerlaw06.BtreeCrashes", spec := "btreeCrashes", inPlace := ["slices.overlaps[almoner/btree.item]", "internal/bytealg.abigen_runtime_cmpstring"], unfollowed := true, recurses := true, apart := false }
def BtreeCrashesSaid : Prop := btreeCrashesRow.holds Tryz.pinned (OpenSpec.ofChange btreeCrashesSpec)

/-- ITS FALSE NEIGHBOUR: 'it returns false'. Refute it at one input. -/
def btreeCrashesWrong : ChangeSpec := { name := "btreeCrashes", fn := fun _ => fun
  | [d1, d2, d3] => { results := [.lit (.bool false)], args := [d1, d2, d3] }
  | _ => none }
def BtreeCrashesWrongFalsely : Prop := btreeCrashesRow.holds Tryz.pinned (OpenSpec.ofChange btreeCrashesWrong)

/- THE SECOND FORM. 'bulk': how many values and letters a reading holds, each counted each time it is reached (what is shared counts as often as it is met; a slice's spare places count too). A statement '..UptoSaid' is the law's where the arguments, and the package variables that the reading takes, are together of bulk at most 1048576: NARROWER than '..Said'. Prove '..Said' where nothing that the law and all that it calls make is longer than what came in: it says more and counts as full. Else prove '..UptoSaid'. A law counts once. -/
mutual
def uptoBulk {H : Type} : DataW H → Nat
  | .lit (.string bytes) => bytes.length + 1
  | .lit _ => 1
  | .nil => 1
  | .ptr d => uptoBulk d + 1
  | .slice elems spare => uptoBulkAll elems + uptoBulkAll spare + 1
  | .agg parts => uptoBulkAll parts + 1
  | .iface _ d => uptoBulk d + 1
  | .map entries => uptoBulkEntries entries + 1
  | .held _ => 1
def uptoBulkAll {H : Type} : List (DataW H) → Nat
  | [] => 0
  | d :: r => uptoBulk d + uptoBulkAll r
def uptoBulkEntries {H : Type} : List (Lit × DataW H) → Nat
  | [] => 0
  | x :: r => uptoBulkEntry x + uptoBulkEntries r
def uptoBulkEntry {H : Type} : Lit × DataW H → Nat
  | (.string bytes, d) => bytes.length + uptoBulk d + 1
  | (_, d) => uptoBulk d + 1
 end
def uptoSmall : (H : Type) → List (DataW H) → Bool := fun _ ds => decide (uptoBulkAll ds ≤ 1048576)
def OpenSpec.upto (s : _root_.Go.ChangeSpec) : _root_.Go.OpenSpec := { _root_.Go.OpenSpec.ofChange s with cond := some uptoSmall }

/-- 'almonerlaw06.BtreePlays', WHERE WHAT IT READS IS OF BULK AT MOST 1048576: true; the input reads as it did. -/
def btreePlaysUptoRow : OpenClaim := { program := "ytgeldfgcicjidaagreat", sum := "a94c94214808a1597b627508b8a62370254c03ec25fda4ace5b1311bb71fd857", func := "almoner/almonerlaw06.BtreePlays", spec := "btreePlays", inPlace := ["slices.overlaps[almoner/btree.item]", "internal/bytealg.abigen_runtime_cmpstring"], unfollowed := true, recurses := true, apart := false, narrowed := true }
def BtreePlaysUptoSaid : Prop := btreePlaysUptoRow.holds Tryz.pinned (OpenSpec.upto btreePlaysSpec)

/-- 'almonerlaw06.BtreeNil', WHERE WHAT IT READS IS OF BULK AT MOST 1048576: true; the input reads as it did. -/
def btreeNilUptoRow : OpenClaim := { program := "ytgeldfgcicjidaagreat", sum := "a94c94214808a1597b627508b8a62370254c03ec25fda4ace5b1311bb71fd857", func := "almoner/almonerlaw06.BtreeNil", spec := "btreeNil", inPlace := ["internal/bytealg.abigen_runtime_cmpstring", "slices.overlaps[almoner/btree.item]"], unfollowed := true, recurses := true, apart := false, narrowed := true }
def BtreeNilUptoSaid : Prop := btreeNilUptoRow.holds Tryz.pinned (OpenSpec.upto btreeNilSpec)

/-- 'almonerlaw06.BtreePages', WHERE WHAT IT READS IS OF BULK AT MOST 1048576: true; the input reads as it did. -/
def btreePagesUptoRow : OpenClaim := { program := "ytgeldfgcicjidaagreat", sum := "a94c94214808a1597b627508b8a62370254c03ec25fda4ace5b1311bb71fd857", func := "almoner/almonerlaw06.BtreePages", spec := "btreePages", inPlace := ["slices.overlaps[almoner/btree.item]", "internal/bytealg.abigen_runtime_cmpstring"], unfollowed := true, recurses := true, apart := false, narrowed := true }
def BtreePagesUptoSaid : Prop := btreePagesUptoRow.holds Tryz.pinned (OpenSpec.upto btreePagesSpec)

/-- 'almonerlaw06.BtreeCrashes', WHERE WHAT IT READS IS OF BULK AT MOST 1048576: true; the input reads as it did. -/
def btreeCrashesUptoRow : OpenClaim := { program := "ytgeldfgcicjidaagreat", sum := "a94c94214808a1597b627508b8a62370254c03ec25fda4ace5b1311bb71fd857", func := "almoner/almonerlaw06.BtreeCrashes", spec := "btreeCrashes", inPlace := ["slices.overlaps[almoner/btree.item]", "internal/bytealg.abigen_runtime_cmpstring"], unfollowed := true, recurses := true, apart := false, narrowed := true }
def BtreeCrashesUptoSaid : Prop := btreeCrashesUptoRow.holds Tryz.pinned (OpenSpec.upto btreeCrashesSpec)

end Rows
end Go.Proofs.YtgeldfgcicjidaaGreat
