/-
  No cell of these rows narrows 'for every input' (looked for: loops, veiled, ifaces, maps, wideKeys, modest, calm, conditions, laid).
  DERIVED. THE GIVEN ROWS OF THIS SEAT. 6 by the template 'for every input the law returns true; each argument reads behind the call as it read before'; 0 by the template 'total and deterministic' (their statements: YtkddlhcpplkpbaaTotals.lean).
  GIVEN WITH THE SEED: the statements are not yours to turn. If you find one false, say at which input.
  Laid BY PROGRAM, IN A SANDBOX (cutbox-rows.mjs): the forced cells as the released guide's own fill.sh prints them over the translation 6cba22353d7c7a9e… (all of the seat's roots in one cut). By AI agents, Wed Nov 11 2026. No macro, syntax, notation, axiom, sorry.
-/
import Derived.Test.YtkddlhcpplkpbaaChecked
import GoSem.Claim
import GoSem.ClaimJoined
import GoSem.ClaimMapViews
import Derived.JoinedTies
import Derived.KernelRfl
namespace Go.Proofs.Ytkddlhcpplkpbaa
/- THE CELL 'sum', in the pinned program and in every row, IS THE sha256 OF THE DUMP (.gsa) THAT YtkddlhcpplkpbaaProg.lean LOADS. Nothing in Lean hashes anything: it is a label: what it is worth is what the hold of that sum in a sandbox is worth. -/
noncomputable def Try.pinned : Pinned := { name := "ytkddlhcpplkpbaa", sum := "6cba22353d7c7a9e4ae32410ee4e837a8ffebdd5d958fc754e7689c1a9a974a0", checked := Try.checked }
namespace Rows
def none {H : Type} : Left H := { results := [], args := [] }

/-- 'waybilllaw09.MessageJust': WHATEVER THE INPUT: true; the input reads as it did. -/
def messageJustSpec : ChangeSpec := { name := "messageJust", fn := fun _ => fun
  | [d] => { results := [.lit (.bool true)], args := [d] }
  | _ => none }
def messageJustRow : OpenClaim := { program := "ytkddlhcpplkpbaa", sum := "6cba22353d7c7a9e4ae32410ee4e837a8ffebdd5d958fc754e7689c1a9a974a0", func := "waybill/waybilllaw09.MessageJust", spec := "messageJust", unfollowed := true, recurses := true, apart := false }
def MessageJustSaid : Prop := messageJustRow.holds Try.pinned (OpenSpec.ofChange messageJustSpec)

/-- ITS FALSE NEIGHBOUR: 'it returns false'. Refute it at one input. -/
def messageJustWrong : ChangeSpec := { name := "messageJust", fn := fun _ => fun
  | [d] => { results := [.lit (.bool false)], args := [d] }
  | _ => none }
def MessageJustWrongFalsely : Prop := messageJustRow.holds Try.pinned (OpenSpec.ofChange messageJustWrong)

/-- 'waybilllaw09.MessageUses': WHATEVER THE INPUT: true; the input reads as it did. -/
def messageUsesSpec : ChangeSpec := { name := "messageUses", fn := fun _ => fun
  | [d] => { results := [.lit (.bool true)], args := [d] }
  | _ => none }
def messageUsesRow : OpenClaim := { program := "ytkddlhcpplkpbaa", sum := "6cba22353d7c7a9e4ae32410ee4e837a8ffebdd5d958fc754e7689c1a9a974a0", func := "waybill/waybilllaw09.MessageUses", spec := "messageUses", unfollowed := true, recurses := true, apart := false }
def MessageUsesSaid : Prop := messageUsesRow.holds Try.pinned (OpenSpec.ofChange messageUsesSpec)

/-- ITS FALSE NEIGHBOUR: 'it returns false'. Refute it at one input. -/
def messageUsesWrong : ChangeSpec := { name := "messageUses", fn := fun _ => fun
  | [d] => { results := [.lit (.bool false)], args := [d] }
  | _ => none }
def MessageUsesWrongFalsely : Prop := messageUsesRow.holds Try.pinned (OpenSpec.ofChange messageUsesWrong)

/-- 'waybilllaw09.MessageOwn': WHATEVER THE INPUT: true; the input reads as it did. -/
def messageOwnSpec : ChangeSpec := { name := "messageOwn", fn := fun _ => fun
  | [d1, d2] => { results := [.lit (.bool true)], args := [d1, d2] }
  | _ => none }
def messageOwnRow : OpenClaim := { program := "ytkddlhcpplkpbaa", sum := "6cba22353d7c7a9e4ae32410ee4e837a8ffebdd5d958fc754e7689c1a9a974a0", func := "waybill/waybilllaw09.MessageOwn", spec := "messageOwn", unfollowed := true, recurses := true, apart := false }
def MessageOwnSaid : Prop := messageOwnRow.holds Try.pinned (OpenSpec.ofChange messageOwnSpec)

/-- ITS FALSE NEIGHBOUR: 'it returns false'. Refute it at one input. -/
def messageOwnWrong : ChangeSpec := { name := "messageOwn", fn := fun _ => fun
  | [d1, d2] => { results := [.lit (.bool false)], args := [d1, d2] }
  | _ => none }
def MessageOwnWrongFalsely : Prop := messageOwnRow.holds Try.pinned (OpenSpec.ofChange messageOwnWrong)

/-- 'waybilllaw09.MessageBack': WHATEVER THE INPUT: true; the input reads as it did. -/
def messageBackSpec : ChangeSpec := { name := "messageBack", fn := fun _ => fun
  | [d] => { results := [.lit (.bool true)], args := [d] }
  | _ => none }
def messageBackRow : OpenClaim := { program := "ytkddlhcpplkpbaa", sum := "6cba22353d7c7a9e4ae32410ee4e837a8ffebdd5d958fc754e7689c1a9a974a0", func := "waybill/waybilllaw09.MessageBack", spec := "messageBack", unfollowed := true, recurses := true, apart := false }
def MessageBackSaid : Prop := messageBackRow.holds Try.pinned (OpenSpec.ofChange messageBackSpec)

/-- ITS FALSE NEIGHBOUR: 'it returns false'. Refute it at one input. -/
def messageBackWrong : ChangeSpec := { name := "messageBack", fn := fun _ => fun
  | [d] => { results := [.lit (.bool false)], args := [d] }
  | _ => none }
def MessageBackWrongFalsely : Prop := messageBackRow.holds Try.pinned (OpenSpec.ofChange messageBackWrong)

/-- 'waybilllaw09.MessageCut': WHATEVER THE INPUT: true; the input reads as it did. -/
def messageCutSpec : ChangeSpec := { name := "messageCut", fn := fun _ => fun
  | [d1, d2, d3] => { results := [.lit (.bool true)], args := [d1, d2, d3] }
  | _ => none }
def messageCutRow : OpenClaim := { program := "ytkddlhcpplkpbaa", sum := "6cba22353d7c7a9e4ae32410ee4e837a8ffebdd5d958fc754e7689c1a9a974a0", func := "waybill/waybilllaw09.MessageCut", spec := "messageCut", unfollowed := true, recurses := true, apart := false }
def MessageCutSaid : Prop := messageCutRow.holds Try.pinned (OpenSpec.ofChange messageCutSpec)

/-- ITS FALSE NEIGHBOUR: 'it returns false'. Refute it at one input. -/
def messageCutWrong : ChangeSpec := { name := "messageCut", fn := fun _ => fun
  | [d1, d2, d3] => { results := [.lit (.bool false)], args := [d1, d2, d3] }
  | _ => none }
def MessageCutWrongFalsely : Prop := messageCutRow.holds Try.pinned (OpenSpec.ofChange messageCutWrong)

/-- 'waybilllaw09.MessageTells': WHATEVER THE INPUT: true; the input reads as it did. -/
def messageTellsSpec : ChangeSpec := { name := "messageTells", fn := fun _ => fun
  | [d1, d2, d3] => { results := [.lit (.bool true)], args := [d1, d2, d3] }
  | _ => none }
def messageTellsRow : OpenClaim := { program := "ytkddlhcpplkpbaa", sum := "6cba22353d7c7a9e4ae32410ee4e837a8ffebdd5d958fc754e7689c1a9a974a0", func := "waybill/waybilllaw09.MessageTells", spec := "messageTells", unfollowed := true, recurses := true, apart := false }
def MessageTellsSaid : Prop := messageTellsRow.holds Try.pinned (OpenSpec.ofChange messageTellsSpec)

/-- ITS FALSE NEIGHBOUR: 'it returns false'. Refute it at one input. -/
def messageTellsWrong : ChangeSpec := { name := "messageTells", fn := fun _ => fun
  | [d1, d2, d3] => { results := [.lit (.bool false)], args := [d1, d2, d3] }
  | _ => none }
def MessageTellsWrongFalsely : Prop := messageTellsRow.holds Try.pinned (OpenSpec.ofChange messageTellsWrong)

/- THE SECOND FORM. 'bulk': how many values and letters a reading holds, each counted each time it is reached (what is shared counts as often as it is met; a slice's spare places count too). A statement '..UptoSaid' is the law's where the arguments, and the package variables that the reading takes, are together of bulk at most 1048576: NARROWER than '..Said'. Prove '..Said' where nothing that the law and all that it calls make is longer than what came in: it says more and counts as full. Else prove '..UptoSaid'. A law counts once. -/
mutual
def uptoBulk {H : Type} : DataW H → Nat
  | .lit (.string bytes) => bytes.length + 1
  | .lit _ => 1
  | .nil => 1
  | .ptr d => uptoBulk d + 1
  | .slice elems spare => uptoBulkAll elems + uptoBulkAll spare + 1
  | .agg parts => uptoBulkAll parts + 1
  | .iface _ d => uptoBulk d + 1
  | .map entries => uptoBulkEntries entries + 1
  | .held _ => 1
def uptoBulkAll {H : Type} : List (DataW H) → Nat
  | [] => 0
  | d :: r => uptoBulk d + uptoBulkAll r
def uptoBulkEntries {H : Type} : List (Lit × DataW H) → Nat
  | [] => 0
  | x :: r => uptoBulkEntry x + uptoBulkEntries r
def uptoBulkEntry {H : Type} : Lit × DataW H → Nat
  | (.string bytes, d) => bytes.length + uptoBulk d + 1
  | (_, d) => uptoBulk d + 1
 end
def uptoSmall : (H : Type) → List (DataW H) → Bool := fun _ ds => decide (uptoBulkAll ds ≤ 1048576)
def OpenSpec.upto (s : _root_.Go.ChangeSpec) : _root_.Go.OpenSpec := { _root_.Go.OpenSpec.ofChange s with cond := some uptoSmall }

/-- 'waybilllaw09.MessageJust', WHERE WHAT IT READS IS OF BULK AT MOST 1048576: true; the input reads as it did. -/
def messageJustUptoRow : OpenClaim := { program := "ytkddlhcpplkpbaa", sum := "6cba22353d7c7a9e4ae32410ee4e837a8ffebdd5d958fc754e7689c1a9a974a0", func := "waybill/waybilllaw09.MessageJust", spec := "messageJust", unfollowed := true, recurses := true, apart := false, narrowed := true }
def MessageJustUptoSaid : Prop := messageJustUptoRow.holds Try.pinned (OpenSpec.upto messageJustSpec)

/-- 'waybilllaw09.MessageUses', WHERE WHAT IT READS IS OF BULK AT MOST 1048576: true; the input reads as it did. -/
def messageUsesUptoRow : OpenClaim := { program := "ytkddlhcpplkpbaa", sum := "6cba22353d7c7a9e4ae32410ee4e837a8ffebdd5d958fc754e7689c1a9a974a0", func := "waybill/waybilllaw09.MessageUses", spec := "messageUses", unfollowed := true, recurses := true, apart := false, narrowed := true }
def MessageUsesUptoSaid : Prop := messageUsesUptoRow.holds Try.pinned (OpenSpec.upto messageUsesSpec)

/-- 'waybilllaw09.MessageOwn', WHERE WHAT IT READS IS OF BULK AT MOST 1048576: true; the input reads as it did. -/
def messageOwnUptoRow : OpenClaim := { program := "ytkddlhcpplkpbaa", sum := "6cba22353d7c7a9e4ae32410ee4e837a8ffebdd5d958fc754e7689c1a9a974a0", func := "waybill/waybilllaw09.MessageOwn", spec := "messageOwn", unfollowed := true, recurses := true, apart := false, narrowed := true }
def MessageOwnUptoSaid : Prop := messageOwnUptoRow.holds Try.pinned (OpenSpec.upto messageOwnSpec)

/-- 'waybilllaw09.MessageBack', WHERE WHAT IT READS IS OF BULK AT MOST 1048576: true; the input reads as it did. -/
def messageBackUptoRow : OpenClaim := { program := "ytkddlhcpplkpbaa", sum := "6cba22353d7c7a9e4ae32410ee4e837a8ffebdd5d958fc754e7689c1a9a974a0", func := "waybill/waybilllaw09.MessageBack", spec := "messageBack", unfollowed := true, recurses := true, apart := false, narrowed := true }
def MessageBackUptoSaid : Prop := messageBackUptoRow.holds Try.pinned (OpenSpec.upto messageBackSpec)

/-- 'waybilllaw09.MessageCut', WHERE WHAT IT READS IS OF BULK AT MOST 1048576: true; the input reads as it did. -/
def messageCutUptoRow : OpenClaim := { program := "ytkddlhcpplkpbaa", sum := "6cba22353d7c7a9e4ae32410ee4e837a8ffebdd5d958fc754e7689c1a9a974a0", func := "waybill/waybilllaw09.MessageCut", spec := "messageCut", unfollowed := true, recurses := true, apart := false, narrowed := true }
def MessageCutUptoSaid : Prop := messageCutUptoRow.holds Try.pinned (OpenSpec.upto messageCutSpec)

/-- 'waybilllaw09.MessageTells', WHERE WHAT IT READS IS OF BULK AT MOST 1048576: true; the input reads as it did. -/
def messageTellsUptoRow : OpenClaim := { program := "ytkddlhcpplkpbaa", sum := "6cba22353d7c7a9e4ae32410ee4e837a8ffebdd5d958fc754e7689c1a9a974a0", func := "waybill/waybilllaw09.MessageTells", spec := "messageTells", unfollowed := true, recurses := true, apart := false, narrowed := true }
def MessageTellsUptoSaid : Prop := messageTellsUptoRow.holds Try.pinned (OpenSpec.upto messageTellsSpec)

end Rows
end Go.Proofs.Ytkddlhcpplkpbaa
