/-
  No cell of these rows narrows 'for every input' (looked for: loops, veiled, ifaces, maps, wideKeys, modest, calm, conditions, laid).
  DERIVED. THE GIVEN ROWS OF THIS SEAT. 6 by the template 'for every input the law returns true; each argument reads behind the call as it read before'; 0 by the template 'total and deterministic' (their statements: YtkdkjnjiianogaaTotals.lean).
  GIVEN WITH THE SEED: the statements are not yours to turn. If you find one false, say at which input.
  Laid BY PROGRAM, IN A SANDBOX (cutbox-rows.mjs): the forced cells as the released guide's own fill.sh prints them over the translation 5919b8173f075fe7… (all of the seat's roots in one cut). By AI agents, Wed Nov 11 2026. No macro, syntax, notation, axiom, sorry.
-/
import Derived.Test.YtkdkjnjiianogaaChecked
import GoSem.Claim
import GoSem.ClaimJoined
import GoSem.ClaimMapViews
import Derived.JoinedTies
import Derived.KernelRfl
namespace Go.Proofs.Ytkdkjnjiianogaa
/- THE CELL 'sum', in the pinned program and in every row, IS THE sha256 OF THE DUMP (.gsa) THAT YtkdkjnjiianogaaProg.lean LOADS. Nothing in Lean hashes anything: it is a label: what it is worth is what the hold of that sum in a sandbox is worth. -/
noncomputable def Try.pinned : Pinned := { name := "ytkdkjnjiianogaa", sum := "5919b8173f075fe74d3d5a0d6416a7cf800c27d55506f845215f66d7c335c879", checked := Try.checked }
namespace Rows
def none {H : Type} : Left H := { results := [], args := [] }

/-- 'waybilllaw22.WindowOpen': WHATEVER THE INPUT: true; the input reads as it did. -/
def windowOpenSpec : ChangeSpec := { name := "windowOpen", fn := fun _ => fun
  | [d1, d2, d3] => { results := [.lit (.bool true)], args := [d1, d2, d3] }
  | _ => none }
def windowOpenRow : OpenClaim := { program := "ytkdkjnjiianogaa", sum := "5919b8173f075fe74d3d5a0d6416a7cf800c27d55506f845215f66d7c335c879", func := "waybill/waybilllaw22.WindowOpen", spec := "windowOpen", unfollowed := true, recurses := true, apart := false }
def WindowOpenSaid : Prop := windowOpenRow.holds Try.pinned (OpenSpec.ofChange windowOpenSpec)

/-- ITS FALSE NEIGHBOUR: 'it returns false'. Refute it at one input. -/
def windowOpenWrong : ChangeSpec := { name := "windowOpen", fn := fun _ => fun
  | [d1, d2, d3] => { results := [.lit (.bool false)], args := [d1, d2, d3] }
  | _ => none }
def WindowOpenWrongFalsely : Prop := windowOpenRow.holds Try.pinned (OpenSpec.ofChange windowOpenWrong)

/-- 'waybilllaw22.WindowForgets': WHATEVER THE INPUT: true; the input reads as it did. -/
def windowForgetsSpec : ChangeSpec := { name := "windowForgets", fn := fun _ => fun
  | [d1, d2, d3, d4] => { results := [.lit (.bool true)], args := [d1, d2, d3, d4] }
  | _ => none }
def windowForgetsRow : OpenClaim := { program := "ytkdkjnjiianogaa", sum := "5919b8173f075fe74d3d5a0d6416a7cf800c27d55506f845215f66d7c335c879", func := "waybill/waybilllaw22.WindowForgets", spec := "windowForgets", unfollowed := true, recurses := true, apart := false }
def WindowForgetsSaid : Prop := windowForgetsRow.holds Try.pinned (OpenSpec.ofChange windowForgetsSpec)

/-- ITS FALSE NEIGHBOUR: 'it returns false'. Refute it at one input. -/
def windowForgetsWrong : ChangeSpec := { name := "windowForgets", fn := fun _ => fun
  | [d1, d2, d3, d4] => { results := [.lit (.bool false)], args := [d1, d2, d3, d4] }
  | _ => none }
def WindowForgetsWrongFalsely : Prop := windowForgetsRow.holds Try.pinned (OpenSpec.ofChange windowForgetsWrong)

/-- 'waybilllaw22.WindowPuts': WHATEVER THE INPUT: true; the input reads as it did. -/
def windowPutsSpec : ChangeSpec := { name := "windowPuts", fn := fun _ => fun
  | [d1, d2, d3, d4] => { results := [.lit (.bool true)], args := [d1, d2, d3, d4] }
  | _ => none }
def windowPutsRow : OpenClaim := { program := "ytkdkjnjiianogaa", sum := "5919b8173f075fe74d3d5a0d6416a7cf800c27d55506f845215f66d7c335c879", func := "waybill/waybilllaw22.WindowPuts", spec := "windowPuts", inPlace := ["slices.overlaps[waybill/api.Done]"], unfollowed := true, recurses := true, apart := false }
def WindowPutsSaid : Prop := windowPutsRow.holds Try.pinned (OpenSpec.ofChange windowPutsSpec)

/-- ITS FALSE NEIGHBOUR: 'it returns false'. Refute it at one input. -/
def windowPutsWrong : ChangeSpec := { name := "windowPuts", fn := fun _ => fun
  | [d1, d2, d3, d4] => { results := [.lit (.bool false)], args := [d1, d2, d3, d4] }
  | _ => none }
def WindowPutsWrongFalsely : Prop := windowPutsRow.holds Try.pinned (OpenSpec.ofChange windowPutsWrong)

/-- 'waybilllaw22.WindowOwn': WHATEVER THE INPUT: true; the input reads as it did. -/
def windowOwnSpec : ChangeSpec := { name := "windowOwn", fn := fun _ => fun
  | [d1, d2, d3] => { results := [.lit (.bool true)], args := [d1, d2, d3] }
  | _ => none }
def windowOwnRow : OpenClaim := { program := "ytkdkjnjiianogaa", sum := "5919b8173f075fe74d3d5a0d6416a7cf800c27d55506f845215f66d7c335c879", func := "waybill/waybilllaw22.WindowOwn", spec := "windowOwn", inPlace := ["slices.overlaps[waybill/api.Done]"], unfollowed := true, recurses := true, apart := false }
def WindowOwnSaid : Prop := windowOwnRow.holds Try.pinned (OpenSpec.ofChange windowOwnSpec)

/-- ITS FALSE NEIGHBOUR: 'it returns false'. Refute it at one input. -/
def windowOwnWrong : ChangeSpec := { name := "windowOwn", fn := fun _ => fun
  | [d1, d2, d3] => { results := [.lit (.bool false)], args := [d1, d2, d3] }
  | _ => none }
def WindowOwnWrongFalsely : Prop := windowOwnRow.holds Try.pinned (OpenSpec.ofChange windowOwnWrong)

/-- 'waybilllaw22.WindowOld': WHATEVER THE INPUT: true; the input reads as it did. -/
def windowOldSpec : ChangeSpec := { name := "windowOld", fn := fun _ => fun
  | [d1, d2, d3, d4, d5] => { results := [.lit (.bool true)], args := [d1, d2, d3, d4, d5] }
  | _ => none }
def windowOldRow : OpenClaim := { program := "ytkdkjnjiianogaa", sum := "5919b8173f075fe74d3d5a0d6416a7cf800c27d55506f845215f66d7c335c879", func := "waybill/waybilllaw22.WindowOld", spec := "windowOld", inPlace := ["slices.overlaps[waybill/api.Done]"], unfollowed := true, recurses := true, apart := false }
def WindowOldSaid : Prop := windowOldRow.holds Try.pinned (OpenSpec.ofChange windowOldSpec)

/-- ITS FALSE NEIGHBOUR: 'it returns false'. Refute it at one input. -/
def windowOldWrong : ChangeSpec := { name := "windowOld", fn := fun _ => fun
  | [d1, d2, d3, d4, d5] => { results := [.lit (.bool false)], args := [d1, d2, d3, d4, d5] }
  | _ => none }
def WindowOldWrongFalsely : Prop := windowOldRow.holds Try.pinned (OpenSpec.ofChange windowOldWrong)

/-- 'waybilllaw22.WindowTells': WHATEVER THE INPUT: true; the input reads as it did. -/
def windowTellsSpec : ChangeSpec := { name := "windowTells", fn := fun _ => fun
  | [d1, d2, d3, d4, d5] => { results := [.lit (.bool true)], args := [d1, d2, d3, d4, d5] }
  | _ => none }
def windowTellsRow : OpenClaim := { program := "ytkdkjnjiianogaa", sum := "5919b8173f075fe74d3d5a0d6416a7cf800c27d55506f845215f66d7c335c879", func := "waybill/waybilllaw22.WindowTells", spec := "windowTells", inPlace := ["slices.overlaps[waybill/api.Done]"], unfollowed := true, recurses := true, apart := false }
def WindowTellsSaid : Prop := windowTellsRow.holds Try.pinned (OpenSpec.ofChange windowTellsSpec)

/-- ITS FALSE NEIGHBOUR: 'it returns false'. Refute it at one input. -/
def windowTellsWrong : ChangeSpec := { name := "windowTells", fn := fun _ => fun
  | [d1, d2, d3, d4, d5] => { results := [.lit (.bool false)], args := [d1, d2, d3, d4, d5] }
  | _ => none }
def WindowTellsWrongFalsely : Prop := windowTellsRow.holds Try.pinned (OpenSpec.ofChange windowTellsWrong)

/- THE SECOND FORM. 'bulk': how many values and letters a reading holds, each counted each time it is reached (what is shared counts as often as it is met; a slice's spare places count too). A statement '..UptoSaid' is the law's where the arguments, and the package variables that the reading takes, are together of bulk at most 1048576: NARROWER than '..Said'. Prove '..Said' where nothing that the law and all that it calls make is longer than what came in: it says more and counts as full. Else prove '..UptoSaid'. A law counts once. -/
mutual
def uptoBulk {H : Type} : DataW H → Nat
  | .lit (.string bytes) => bytes.length + 1
  | .lit _ => 1
  | .nil => 1
  | .ptr d => uptoBulk d + 1
  | .slice elems spare => uptoBulkAll elems + uptoBulkAll spare + 1
  | .agg parts => uptoBulkAll parts + 1
  | .iface _ d => uptoBulk d + 1
  | .map entries => uptoBulkEntries entries + 1
  | .held _ => 1
def uptoBulkAll {H : Type} : List (DataW H) → Nat
  | [] => 0
  | d :: r => uptoBulk d + uptoBulkAll r
def uptoBulkEntries {H : Type} : List (Lit × DataW H) → Nat
  | [] => 0
  | x :: r => uptoBulkEntry x + uptoBulkEntries r
def uptoBulkEntry {H : Type} : Lit × DataW H → Nat
  | (.string bytes, d) => bytes.length + uptoBulk d + 1
  | (_, d) => uptoBulk d + 1
 end
def uptoSmall : (H : Type) → List (DataW H) → Bool := fun _ ds => decide (uptoBulkAll ds ≤ 1048576)
def OpenSpec.upto (s : _root_.Go.ChangeSpec) : _root_.Go.OpenSpec := { _root_.Go.OpenSpec.ofChange s with cond := some uptoSmall }

/-- 'waybilllaw22.WindowOpen', WHERE WHAT IT READS IS OF BULK AT MOST 1048576: true; the input reads as it did. -/
def windowOpenUptoRow : OpenClaim := { program := "ytkdkjnjiianogaa", sum := "5919b8173f075fe74d3d5a0d6416a7cf800c27d55506f845215f66d7c335c879", func := "waybill/waybilllaw22.WindowOpen", spec := "windowOpen", unfollowed := true, recurses := true, apart := false, narrowed := true }
def WindowOpenUptoSaid : Prop := windowOpenUptoRow.holds Try.pinned (OpenSpec.upto windowOpenSpec)

/-- 'waybilllaw22.WindowForgets', WHERE WHAT IT READS IS OF BULK AT MOST 1048576: true; the input reads as it did. -/
def windowForgetsUptoRow : OpenClaim := { program := "ytkdkjnjiianogaa", sum := "5919b8173f075fe74d3d5a0d6416a7cf800c27d55506f845215f66d7c335c879", func := "waybill/waybilllaw22.WindowForgets", spec := "windowForgets", unfollowed := true, recurses := true, apart := false, narrowed := true }
def WindowForgetsUptoSaid : Prop := windowForgetsUptoRow.holds Try.pinned (OpenSpec.upto windowForgetsSpec)

/-- 'waybilllaw22.WindowPuts', WHERE WHAT IT READS IS OF BULK AT MOST 1048576: true; the input reads as it did. -/
def windowPutsUptoRow : OpenClaim := { program := "ytkdkjnjiianogaa", sum := "5919b8173f075fe74d3d5a0d6416a7cf800c27d55506f845215f66d7c335c879", func := "waybill/waybilllaw22.WindowPuts", spec := "windowPuts", inPlace := ["slices.overlaps[waybill/api.Done]"], unfollowed := true, recurses := true, apart := false, narrowed := true }
def WindowPutsUptoSaid : Prop := windowPutsUptoRow.holds Try.pinned (OpenSpec.upto windowPutsSpec)

/-- 'waybilllaw22.WindowOwn', WHERE WHAT IT READS IS OF BULK AT MOST 1048576: true; the input reads as it did. -/
def windowOwnUptoRow : OpenClaim := { program := "ytkdkjnjiianogaa", sum := "5919b8173f075fe74d3d5a0d6416a7cf800c27d55506f845215f66d7c335c879", func := "waybill/waybilllaw22.WindowOwn", spec := "windowOwn", inPlace := ["slices.overlaps[waybill/api.Done]"], unfollowed := true, recurses := true, apart := false, narrowed := true }
def WindowOwnUptoSaid : Prop := windowOwnUptoRow.holds Try.pinned (OpenSpec.upto windowOwnSpec)

/-- 'waybilllaw22.WindowOld', WHERE WHAT IT READS IS OF BULK AT MOST 1048576: true; the input reads as it did. -/
def windowOldUptoRow : OpenClaim := { program := "ytkdkjnjiianogaa", sum := "5919b8173f075fe74d3d5a0d6416a7cf800c27d55506f845215f66d7c335c879", func := "waybill/waybilllaw22.WindowOld", spec := "windowOld", inPlace := ["slices.overlaps[waybill/api.Done]"], unfollowed := true, recurses := true, apart := false, narrowed := true }
def WindowOldUptoSaid : Prop := windowOldUptoRow.holds Try.pinned (OpenSpec.upto windowOldSpec)

/-- 'waybilllaw22.WindowTells', WHERE WHAT IT READS IS OF BULK AT MOST 1048576: true; the input reads as it did. -/
def windowTellsUptoRow : OpenClaim := { program := "ytkdkjnjiianogaa", sum := "5919b8173f075fe74d3d5a0d6416a7cf800c27d55506f845215f66d7c335c879", func := "waybill/waybilllaw22.WindowTells", spec := "windowTells", inPlace := ["slices.overlaps[waybill/api.Done]"], unfollowed := true, recurses := true, apart := false, narrowed := true }
def WindowTellsUptoSaid : Prop := windowTellsUptoRow.holds Try.pinned (OpenSpec.upto windowTellsSpec)

end Rows
end Go.Proofs.Ytkdkjnjiianogaa
