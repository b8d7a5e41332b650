/-
  No cell of these rows narrows 'for every input' (looked for: loops, veiled, ifaces, maps, wideKeys, modest, calm, conditions, laid).
  DERIVED. THE GIVEN ROWS OF THIS SEAT. 6 by the template 'for every input the law returns true; each argument reads behind the call as it read before'; 0 by the template 'total and deterministic' (their statements: YtaidadofkbagkaaTotals.lean).
  GIVEN WITH THE SEED: the statements are not yours to turn. If you find one false, say at which input.
  Laid BY PROGRAM, IN A SANDBOX (cutbox-rows.mjs): the forced cells as the released guide's own fill.sh prints them over the translation 4fd017d5710f489f… (all of the seat's roots in one cut). By AI agents, Wed Nov 11 2026. No macro, syntax, notation, axiom, sorry.
-/
import Derived.Test.YtaidadofkbagkaaChecked
import GoSem.Claim
import GoSem.ClaimJoined
import GoSem.ClaimMapViews
import Derived.JoinedTies
import Derived.KernelRfl
namespace Go.Proofs.Ytaidadofkbagkaa
/- THE CELL 'sum', in the pinned program and in every row, IS THE sha256 OF THE DUMP (.gsa) THAT YtaidadofkbagkaaProg.lean LOADS. Nothing in Lean hashes anything: it is a label: what it is worth is what the hold of that sum in a sandbox is worth. -/
noncomputable def Try.pinned : Pinned := { name := "ytaidadofkbagkaa", sum := "4fd017d5710f489fb6fd165bac8892d4055cd5eae092adfbe64812d9f386a10f", checked := Try.checked }
namespace Rows
def none {H : Type} : Left H := { results := [], args := [] }

/-- 'waybilllaw21.ResolveOrder': WHATEVER THE INPUT: true; the input reads as it did. -/
def resolveOrderSpec : ChangeSpec := { name := "resolveOrder", fn := fun _ => fun
  | [d1, d2, d3] => { results := [.lit (.bool true)], args := [d1, d2, d3] }
  | _ => none }
def resolveOrderRow : OpenClaim := { program := "ytaidadofkbagkaa", sum := "4fd017d5710f489fb6fd165bac8892d4055cd5eae092adfbe64812d9f386a10f", func := "waybill/waybilllaw21.ResolveOrder", spec := "resolveOrder", unfollowed := true, recurses := true, apart := false }
def ResolveOrderSaid : Prop := resolveOrderRow.holds Try.pinned (OpenSpec.ofChange resolveOrderSpec)

/-- ITS FALSE NEIGHBOUR: 'it returns false'. Refute it at one input. -/
def resolveOrderWrong : ChangeSpec := { name := "resolveOrder", fn := fun _ => fun
  | [d1, d2, d3] => { results := [.lit (.bool false)], args := [d1, d2, d3] }
  | _ => none }
def ResolveOrderWrongFalsely : Prop := resolveOrderRow.holds Try.pinned (OpenSpec.ofChange resolveOrderWrong)

/-- 'waybilllaw21.ResolveLatest': WHATEVER THE INPUT: true; the input reads as it did. -/
def resolveLatestSpec : ChangeSpec := { name := "resolveLatest", fn := fun _ => fun
  | [d1, d2] => { results := [.lit (.bool true)], args := [d1, d2] }
  | _ => none }
def resolveLatestRow : OpenClaim := { program := "ytaidadofkbagkaa", sum := "4fd017d5710f489fb6fd165bac8892d4055cd5eae092adfbe64812d9f386a10f", func := "waybill/waybilllaw21.ResolveLatest", spec := "resolveLatest", unfollowed := true, recurses := true, apart := false }
def ResolveLatestSaid : Prop := resolveLatestRow.holds Try.pinned (OpenSpec.ofChange resolveLatestSpec)

/-- ITS FALSE NEIGHBOUR: 'it returns false'. Refute it at one input. -/
def resolveLatestWrong : ChangeSpec := { name := "resolveLatest", fn := fun _ => fun
  | [d1, d2] => { results := [.lit (.bool false)], args := [d1, d2] }
  | _ => none }
def ResolveLatestWrongFalsely : Prop := resolveLatestRow.holds Try.pinned (OpenSpec.ofChange resolveLatestWrong)

/-- 'waybilllaw21.ResolveOwn': WHATEVER THE INPUT: true; the input reads as it did. -/
def resolveOwnSpec : ChangeSpec := { name := "resolveOwn", fn := fun _ => fun
  | [d1, d2] => { results := [.lit (.bool true)], args := [d1, d2] }
  | _ => none }
def resolveOwnRow : OpenClaim := { program := "ytaidadofkbagkaa", sum := "4fd017d5710f489fb6fd165bac8892d4055cd5eae092adfbe64812d9f386a10f", func := "waybill/waybilllaw21.ResolveOwn", spec := "resolveOwn", unfollowed := true, recurses := true, apart := false }
def ResolveOwnSaid : Prop := resolveOwnRow.holds Try.pinned (OpenSpec.ofChange resolveOwnSpec)

/-- ITS FALSE NEIGHBOUR: 'it returns false'. Refute it at one input. -/
def resolveOwnWrong : ChangeSpec := { name := "resolveOwn", fn := fun _ => fun
  | [d1, d2] => { results := [.lit (.bool false)], args := [d1, d2] }
  | _ => none }
def ResolveOwnWrongFalsely : Prop := resolveOwnRow.holds Try.pinned (OpenSpec.ofChange resolveOwnWrong)

/-- 'waybilllaw21.ResolveDiffs': WHATEVER THE INPUT: true; the input reads as it did. -/
def resolveDiffsSpec : ChangeSpec := { name := "resolveDiffs", fn := fun _ => fun
  | [d1, d2] => { results := [.lit (.bool true)], args := [d1, d2] }
  | _ => none }
def resolveDiffsRow : OpenClaim := { program := "ytaidadofkbagkaa", sum := "4fd017d5710f489fb6fd165bac8892d4055cd5eae092adfbe64812d9f386a10f", func := "waybill/waybilllaw21.ResolveDiffs", spec := "resolveDiffs", unfollowed := true, recurses := true, apart := false }
def ResolveDiffsSaid : Prop := resolveDiffsRow.holds Try.pinned (OpenSpec.ofChange resolveDiffsSpec)

/-- ITS FALSE NEIGHBOUR: 'it returns false'. Refute it at one input. -/
def resolveDiffsWrong : ChangeSpec := { name := "resolveDiffs", fn := fun _ => fun
  | [d1, d2] => { results := [.lit (.bool false)], args := [d1, d2] }
  | _ => none }
def ResolveDiffsWrongFalsely : Prop := resolveDiffsRow.holds Try.pinned (OpenSpec.ofChange resolveDiffsWrong)

/-- 'waybilllaw21.ResolvePicks': WHATEVER THE INPUT: true; the input reads as it did. -/
def resolvePicksSpec : ChangeSpec := { name := "resolvePicks", fn := fun _ => fun
  | [d] => { results := [.lit (.bool true)], args := [d] }
  | _ => none }
def resolvePicksRow : OpenClaim := { program := "ytaidadofkbagkaa", sum := "4fd017d5710f489fb6fd165bac8892d4055cd5eae092adfbe64812d9f386a10f", func := "waybill/waybilllaw21.ResolvePicks", spec := "resolvePicks", unfollowed := true, recurses := true, apart := false }
def ResolvePicksSaid : Prop := resolvePicksRow.holds Try.pinned (OpenSpec.ofChange resolvePicksSpec)

/-- ITS FALSE NEIGHBOUR: 'it returns false'. Refute it at one input. -/
def resolvePicksWrong : ChangeSpec := { name := "resolvePicks", fn := fun _ => fun
  | [d] => { results := [.lit (.bool false)], args := [d] }
  | _ => none }
def ResolvePicksWrongFalsely : Prop := resolvePicksRow.holds Try.pinned (OpenSpec.ofChange resolvePicksWrong)

/-- 'waybilllaw21.ResolveTells': WHATEVER THE INPUT: true; the input reads as it did. -/
def resolveTellsSpec : ChangeSpec := { name := "resolveTells", fn := fun _ => fun
  | [d1, d2, d3, d4] => { results := [.lit (.bool true)], args := [d1, d2, d3, d4] }
  | _ => none }
def resolveTellsRow : OpenClaim := { program := "ytaidadofkbagkaa", sum := "4fd017d5710f489fb6fd165bac8892d4055cd5eae092adfbe64812d9f386a10f", func := "waybill/waybilllaw21.ResolveTells", spec := "resolveTells", unfollowed := true, recurses := true, apart := false }
def ResolveTellsSaid : Prop := resolveTellsRow.holds Try.pinned (OpenSpec.ofChange resolveTellsSpec)

/-- ITS FALSE NEIGHBOUR: 'it returns false'. Refute it at one input. -/
def resolveTellsWrong : ChangeSpec := { name := "resolveTells", fn := fun _ => fun
  | [d1, d2, d3, d4] => { results := [.lit (.bool false)], args := [d1, d2, d3, d4] }
  | _ => none }
def ResolveTellsWrongFalsely : Prop := resolveTellsRow.holds Try.pinned (OpenSpec.ofChange resolveTellsWrong)

/- THE SECOND FORM. 'bulk': how many values and letters a reading holds, each counted each time it is reached (what is shared counts as often as it is met; a slice's spare places count too). A statement '..UptoSaid' is the law's where the arguments, and the package variables that the reading takes, are together of bulk at most 1048576: NARROWER than '..Said'. Prove '..Said' where nothing that the law and all that it calls make is longer than what came in: it says more and counts as full. Else prove '..UptoSaid'. A law counts once. -/
mutual
def uptoBulk {H : Type} : DataW H → Nat
  | .lit (.string bytes) => bytes.length + 1
  | .lit _ => 1
  | .nil => 1
  | .ptr d => uptoBulk d + 1
  | .slice elems spare => uptoBulkAll elems + uptoBulkAll spare + 1
  | .agg parts => uptoBulkAll parts + 1
  | .iface _ d => uptoBulk d + 1
  | .map entries => uptoBulkEntries entries + 1
  | .held _ => 1
def uptoBulkAll {H : Type} : List (DataW H) → Nat
  | [] => 0
  | d :: r => uptoBulk d + uptoBulkAll r
def uptoBulkEntries {H : Type} : List (Lit × DataW H) → Nat
  | [] => 0
  | x :: r => uptoBulkEntry x + uptoBulkEntries r
def uptoBulkEntry {H : Type} : Lit × DataW H → Nat
  | (.string bytes, d) => bytes.length + uptoBulk d + 1
  | (_, d) => uptoBulk d + 1
 end
def uptoSmall : (H : Type) → List (DataW H) → Bool := fun _ ds => decide (uptoBulkAll ds ≤ 1048576)
def OpenSpec.upto (s : _root_.Go.ChangeSpec) : _root_.Go.OpenSpec := { _root_.Go.OpenSpec.ofChange s with cond := some uptoSmall }

/-- 'waybilllaw21.ResolveOrder', WHERE WHAT IT READS IS OF BULK AT MOST 1048576: true; the input reads as it did. -/
def resolveOrderUptoRow : OpenClaim := { program := "ytaidadofkbagkaa", sum := "4fd017d5710f489fb6fd165bac8892d4055cd5eae092adfbe64812d9f386a10f", func := "waybill/waybilllaw21.ResolveOrder", spec := "resolveOrder", unfollowed := true, recurses := true, apart := false, narrowed := true }
def ResolveOrderUptoSaid : Prop := resolveOrderUptoRow.holds Try.pinned (OpenSpec.upto resolveOrderSpec)

/-- 'waybilllaw21.ResolveLatest', WHERE WHAT IT READS IS OF BULK AT MOST 1048576: true; the input reads as it did. -/
def resolveLatestUptoRow : OpenClaim := { program := "ytaidadofkbagkaa", sum := "4fd017d5710f489fb6fd165bac8892d4055cd5eae092adfbe64812d9f386a10f", func := "waybill/waybilllaw21.ResolveLatest", spec := "resolveLatest", unfollowed := true, recurses := true, apart := false, narrowed := true }
def ResolveLatestUptoSaid : Prop := resolveLatestUptoRow.holds Try.pinned (OpenSpec.upto resolveLatestSpec)

/-- 'waybilllaw21.ResolveOwn', WHERE WHAT IT READS IS OF BULK AT MOST 1048576: true; the input reads as it did. -/
def resolveOwnUptoRow : OpenClaim := { program := "ytaidadofkbagkaa", sum := "4fd017d5710f489fb6fd165bac8892d4055cd5eae092adfbe64812d9f386a10f", func := "waybill/waybilllaw21.ResolveOwn", spec := "resolveOwn", unfollowed := true, recurses := true, apart := false, narrowed := true }
def ResolveOwnUptoSaid : Prop := resolveOwnUptoRow.holds Try.pinned (OpenSpec.upto resolveOwnSpec)

/-- 'waybilllaw21.ResolveDiffs', WHERE WHAT IT READS IS OF BULK AT MOST 1048576: true; the input reads as it did. -/
def resolveDiffsUptoRow : OpenClaim := { program := "ytaidadofkbagkaa", sum := "4fd017d5710f489fb6fd165bac8892d4055cd5eae092adfbe64812d9f386a10f", func := "waybill/waybilllaw21.ResolveDiffs", spec := "resolveDiffs", unfollowed := true, recurses := true, apart := false, narrowed := true }
def ResolveDiffsUptoSaid : Prop := resolveDiffsUptoRow.holds Try.pinned (OpenSpec.upto resolveDiffsSpec)

/-- 'waybilllaw21.ResolvePicks', WHERE WHAT IT READS IS OF BULK AT MOST 1048576: true; the input reads as it did. -/
def resolvePicksUptoRow : OpenClaim := { program := "ytaidadofkbagkaa", sum := "4fd017d5710f489fb6fd165bac8892d4055cd5eae092adfbe64812d9f386a10f", func := "waybill/waybilllaw21.ResolvePicks", spec := "resolvePicks", unfollowed := true, recurses := true, apart := false, narrowed := true }
def ResolvePicksUptoSaid : Prop := resolvePicksUptoRow.holds Try.pinned (OpenSpec.upto resolvePicksSpec)

/-- 'waybilllaw21.ResolveTells', WHERE WHAT IT READS IS OF BULK AT MOST 1048576: true; the input reads as it did. -/
def resolveTellsUptoRow : OpenClaim := { program := "ytaidadofkbagkaa", sum := "4fd017d5710f489fb6fd165bac8892d4055cd5eae092adfbe64812d9f386a10f", func := "waybill/waybilllaw21.ResolveTells", spec := "resolveTells", unfollowed := true, recurses := true, apart := false, narrowed := true }
def ResolveTellsUptoSaid : Prop := resolveTellsUptoRow.holds Try.pinned (OpenSpec.upto resolveTellsSpec)

end Rows
end Go.Proofs.Ytaidadofkbagkaa
