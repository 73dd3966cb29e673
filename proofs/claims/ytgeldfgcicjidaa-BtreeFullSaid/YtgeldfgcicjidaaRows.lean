/-
  No cell of these rows narrows 'for every input' (looked for: loops, veiled, ifaces, maps, wideKeys, modest, calm, conditions, laid).
  DERIVED. THE GIVEN ROWS OF THIS SEAT. 3 by the template 'for every input the law returns true; each argument reads behind the call as it read before'; 0 by the template 'total and deterministic' (their statements: YtgeldfgcicjidaaTotals.lean).
  GIVEN WITH THE SEED: the statements are not yours to turn. If you find one false, say at which input.
  Laid BY PROGRAM, IN A SANDBOX (cutbox-rows.mjs): the forced cells as the released guide's own fill.sh prints them over the translation 30ad12ceefe94f1c… (all of the seat's roots in one cut). By AI agents, Wed Nov 11 2026. No macro, syntax, notation, axiom, sorry.
-/
import Derived.Test.YtgeldfgcicjidaaChecked
import GoSem.Claim
import GoSem.ClaimJoined
import GoSem.ClaimMapViews
import Derived.JoinedTies
import Derived.KernelRfl
namespace Go.Proofs.Ytgeldfgcicjidaa
/- THE CELL 'sum', in the pinned program and in every row, IS THE sha256 OF THE DUMP (.gsa) THAT YtgeldfgcicjidaaProg.lean LOADS. Nothing in Lean hashes anything: it is a label: what it is worth is what the hold of that sum in a sandbox is worth. -/
noncomputable def Try.pinned : Pinned := { name := "ytgeldfgcicjidaa", sum := "30ad12ceefe94f1c18d77cc3208d764f834b73ed20c5cee554edc11103cfd075", checked := Try.checked }
namespace Rows
def none {H : Type} : Left H := { results := [], args := [] }

/-- 'almonerlaw06.BtreeParts': WHATEVER THE INPUT: true; the input reads as it did. -/
def btreePartsSpec : ChangeSpec := { name := "btreeParts", fn := fun _ => fun
  | [d1, d2, d3, d4] => { results := [.lit (.bool true)], args := [d1, d2, d3, d4] }
  | _ => none }
def btreePartsRow : OpenClaim := { program := "ytgeldfgcicjidaa", sum := "30ad12ceefe94f1c18d77cc3208d764f834b73ed20c5cee554edc11103cfd075", func := "almoner/almonerlaw06.BtreeParts", spec := "btreeParts", inPlace := ["slices.overlaps[almoner/btree.item]", "internal/bytealg.abigen_runtime_cmpstring"], unfollowed := true, recurses := true, apart := false }
def BtreePartsSaid : Prop := btreePartsRow.holds Try.pinned (OpenSpec.ofChange btreePartsSpec)

/-- ITS FALSE NEIGHBOUR: 'it returns false'. Refute it at one input. -/
def btreePartsWrong : ChangeSpec := { name := "btreeParts", fn := fun _ => fun
  | [d1, d2, d3, d4] => { results := [.lit (.bool false)], args := [d1, d2, d3, d4] }
  | _ => none }
def BtreePartsWrongFalsely : Prop := btreePartsRow.holds Try.pinned (OpenSpec.ofChange btreePartsWrong)

/-- 'almonerlaw06.BtreeFull': WHATEVER THE INPUT: true; the input reads as it did. -/
def btreeFullSpec : ChangeSpec := { name := "btreeFull", fn := fun _ => fun
  | [d1, d2] => { results := [.lit (.bool true)], args := [d1, d2] }
  | _ => none }
def btreeFullRow : OpenClaim := { program := "ytgeldfgcicjidaa", sum := "30ad12ceefe94f1c18d77cc3208d764f834b73ed20c5cee554edc11103cfd075", func := "almoner/almonerlaw06.BtreeFull", spec := "btreeFull", inPlace := ["slices.overlaps[almoner/btree.item]", "internal/bytealg.abigen_runtime_cmpstring"], unfollowed := true, recurses := true, apart := false }
def BtreeFullSaid : Prop := btreeFullRow.holds Try.pinned (OpenSpec.ofChange btreeFullSpec)

/-- ITS FALSE NEIGHBOUR: 'it returns false'. Refute it at one input. -/
def btreeFullWrong : ChangeSpec := { name := "btreeFull", fn := fun _ => fun
  | [d1, d2] => { results := [.lit (.bool false)], args := [d1, d2] }
  | _ => none }
def BtreeFullWrongFalsely : Prop := btreeFullRow.holds Try.pinned (OpenSpec.ofChange btreeFullWrong)

/-- 'almonerlaw06.BtreeOrders': WHATEVER THE INPUT: true; the input reads as it did. -/
def btreeOrdersSpec : ChangeSpec := { name := "btreeOrders", fn := fun _ => fun
  | [d1, d2] => { results := [.lit (.bool true)], args := [d1, d2] }
  | _ => none }
def btreeOrdersRow : OpenClaim := { program := "ytgeldfgcicjidaa", sum := "30ad12ceefe94f1c18d77cc3208d764f834b73ed20c5cee554edc11103cfd075", func := "almoner/almonerlaw06.BtreeOrders", spec := "btreeOrders", inPlace := ["slices.overlaps[almoner/btree.item]", "internal/bytealg.abigen_runtime_cmpstring"], unfollowed := true, recurses := true, apart := false }
def BtreeOrdersSaid : Prop := btreeOrdersRow.holds Try.pinned (OpenSpec.ofChange btreeOrdersSpec)

/-- ITS FALSE NEIGHBOUR: 'it returns false'. Refute it at one input. -/
def btreeOrdersWrong : ChangeSpec := { name := "btreeOrders", fn := fun _ => fun
  | [d1, d2] => { results := [.lit (.bool false)], args := [d1, d2] }
  | _ => none }
def BtreeOrdersWrongFalsely : Prop := btreeOrdersRow.holds Try.pinned (OpenSpec.ofChange btreeOrdersWrong)

/- THE SECOND FORM. 'bulk': how many values and letters a reading holds, each counted each time it is reached (what is shared counts as often as it is met; a slice's spare places count too). A statement '..UptoSaid' is the law's where the arguments, and the package variables that the reading takes, are together of bulk at most 1048576: NARROWER than '..Said'. Prove '..Said' where nothing that the law and all that it calls make is longer than what came in: it says more and counts as full. Else prove '..UptoSaid'. A law counts once. -/
mutual
def uptoBulk {H : Type} : DataW H → Nat
  | .lit (.string bytes) => bytes.length + 1
  | .lit _ => 1
  | .nil => 1
  | .ptr d => uptoBulk d + 1
  | .slice elems spare => uptoBulkAll elems + uptoBulkAll spare + 1
  | .agg parts => uptoBulkAll parts + 1
  | .iface _ d => uptoBulk d + 1
  | .map entries => uptoBulkEntries entries + 1
  | .held _ => 1
def uptoBulkAll {H : Type} : List (DataW H) → Nat
  | [] => 0
  | d :: r => uptoBulk d + uptoBulkAll r
def uptoBulkEntries {H : Type} : List (Lit × DataW H) → Nat
  | [] => 0
  | x :: r => uptoBulkEntry x + uptoBulkEntries r
def uptoBulkEntry {H : Type} : Lit × DataW H → Nat
  | (.string bytes, d) => bytes.length + uptoBulk d + 1
  | (_, d) => uptoBulk d + 1
 end
def uptoSmall : (H : Type) → List (DataW H) → Bool := fun _ ds => decide (uptoBulkAll ds ≤ 1048576)
def OpenSpec.upto (s : _root_.Go.ChangeSpec) : _root_.Go.OpenSpec := { _root_.Go.OpenSpec.ofChange s with cond := some uptoSmall }

/-- 'almonerlaw06.BtreeParts', WHERE WHAT IT READS IS OF BULK AT MOST 1048576: true; the input reads as it did. -/
def btreePartsUptoRow : OpenClaim := { program := "ytgeldfgcicjidaa", sum := "30ad12ceefe94f1c18d77cc3208d764f834b73ed20c5cee554edc11103cfd075", func := "almoner/almonerlaw06.BtreeParts", spec := "btreeParts", inPlace := ["slices.overlaps[almoner/btree.item]", "internal/bytealg.abigen_runtime_cmpstring"], unfollowed := true, recurses := true, apart := false, narrowed := true }
def BtreePartsUptoSaid : Prop := btreePartsUptoRow.holds Try.pinned (OpenSpec.upto btreePartsSpec)

/-- 'almonerlaw06.BtreeFull', WHERE WHAT IT READS IS OF BULK AT MOST 1048576: true; the input reads as it did. -/
def btreeFullUptoRow : OpenClaim := { program := "ytgeldfgcicjidaa", sum := "30ad12ceefe94f1c18d77cc3208d764f834b73ed20c5cee554edc11103cfd075", func := "almoner/almonerlaw06.BtreeFull", spec := "btreeFull", inPlace := ["slices.overlaps[almoner/btree.item]", "internal/bytealg.abigen_runtime_cmpstring"], unfollowed := true, recurses := true, apart := false, narrowed := true }
def BtreeFullUptoSaid : Prop := btreeFullUptoRow.holds Try.pinned (OpenSpec.upto btreeFullSpec)

/-- 'almonerlaw06.BtreeOrders', WHERE WHAT IT READS IS OF BULK AT MOST 1048576: true; the input reads as it did. -/
def btreeOrdersUptoRow : OpenClaim := { program := "ytgeldfgcicjidaa", sum := "30ad12ceefe94f1c18d77cc3208d764f834b73ed20c5cee554edc11103cfd075", func := "almoner/almonerlaw06.BtreeOrders", spec := "btreeOrders", inPlace := ["slices.overlaps[almoner/btree.item]", "internal/bytealg.abigen_runtime_cmpstring"], unfollowed := true, recurses := true, apart := false, narrowed := true }
def BtreeOrdersUptoSaid : Prop := btreeOrdersUptoRow.holds Try.pinned (OpenSpec.upto btreeOrdersSpec)

end Rows
end Go.Proofs.Ytgeldfgcicjidaa
