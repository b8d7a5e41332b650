/-
  No cell of these rows narrows 'for every input' (looked for: loops, veiled, ifaces, maps, wideKeys, modest, calm, conditions, laid).
  DERIVED. THE GIVEN ROWS OF THIS SEAT. 6 by the template 'for every input the law returns true; each argument reads behind the call as it read before'; 0 by the template 'total and deterministic' (their statements: YtckecoemgadieaaTotals.lean).
  GIVEN WITH THE SEED: the statements are not yours to turn. If you find one false, say at which input.
  Laid BY PROGRAM, IN A SANDBOX (cutbox-rows.mjs): the forced cells as the released guide's own fill.sh prints them over the translation 09b6f37478863829… (all of the seat's roots in one cut). By AI agents, Wed Nov 11 2026. No macro, syntax, notation, axiom, sorry.
-/
import Derived.Test.YtckecoemgadieaaChecked
import GoSem.Claim
import GoSem.ClaimJoined
import GoSem.ClaimMapViews
import Derived.JoinedTies
import Derived.KernelRfl
namespace Go.Proofs.Ytckecoemgadieaa
/- THE CELL 'sum', in the pinned program and in every row, IS THE sha256 OF THE DUMP (.gsa) THAT YtckecoemgadieaaProg.lean LOADS. Nothing in Lean hashes anything: it is a label: what it is worth is what the hold of that sum in a sandbox is worth. -/
noncomputable def Try.pinned : Pinned := { name := "ytckecoemgadieaa", sum := "09b6f3747886382944d01ecd16b3729bce526368773ca1adc1ac8560584e1203", checked := Try.checked }
namespace Rows
def none {H : Type} : Left H := { results := [], args := [] }

/-- 'waybilllaw01.VarintBack': WHATEVER THE INPUT: true; the input reads as it did. -/
def varintBackSpec : ChangeSpec := { name := "varintBack", fn := fun _ => fun
  | [d1, d2, d3] => { results := [.lit (.bool true)], args := [d1, d2, d3] }
  | _ => none }
def varintBackRow : OpenClaim := { program := "ytckecoemgadieaa", sum := "09b6f3747886382944d01ecd16b3729bce526368773ca1adc1ac8560584e1203", func := "waybill/waybilllaw01.VarintBack", spec := "varintBack", apart := false }
def VarintBackSaid : Prop := varintBackRow.holds Try.pinned (OpenSpec.ofChange varintBackSpec)

/-- ITS FALSE NEIGHBOUR: 'it returns false'. Refute it at one input. -/
def varintBackWrong : ChangeSpec := { name := "varintBack", fn := fun _ => fun
  | [d1, d2, d3] => { results := [.lit (.bool false)], args := [d1, d2, d3] }
  | _ => none }
def VarintBackWrongFalsely : Prop := varintBackRow.holds Try.pinned (OpenSpec.ofChange varintBackWrong)

/-- 'waybilllaw01.VarintTurns': WHATEVER THE INPUT: true; the input reads as it did. -/
def varintTurnsSpec : ChangeSpec := { name := "varintTurns", fn := fun _ => fun
  | [d1, d2, d3] => { results := [.lit (.bool true)], args := [d1, d2, d3] }
  | _ => none }
def varintTurnsRow : OpenClaim := { program := "ytckecoemgadieaa", sum := "09b6f3747886382944d01ecd16b3729bce526368773ca1adc1ac8560584e1203", func := "waybill/waybilllaw01.VarintTurns", spec := "varintTurns", apart := false }
def VarintTurnsSaid : Prop := varintTurnsRow.holds Try.pinned (OpenSpec.ofChange varintTurnsSpec)

/-- ITS FALSE NEIGHBOUR: 'it returns false'. Refute it at one input. -/
def varintTurnsWrong : ChangeSpec := { name := "varintTurns", fn := fun _ => fun
  | [d1, d2, d3] => { results := [.lit (.bool false)], args := [d1, d2, d3] }
  | _ => none }
def VarintTurnsWrongFalsely : Prop := varintTurnsRow.holds Try.pinned (OpenSpec.ofChange varintTurnsWrong)

/-- 'waybilllaw01.VarintOwn': WHATEVER THE INPUT: true; the input reads as it did. -/
def varintOwnSpec : ChangeSpec := { name := "varintOwn", fn := fun _ => fun
  | [d1, d2, d3] => { results := [.lit (.bool true)], args := [d1, d2, d3] }
  | _ => none }
def varintOwnRow : OpenClaim := { program := "ytckecoemgadieaa", sum := "09b6f3747886382944d01ecd16b3729bce526368773ca1adc1ac8560584e1203", func := "waybill/waybilllaw01.VarintOwn", spec := "varintOwn", apart := false }
def VarintOwnSaid : Prop := varintOwnRow.holds Try.pinned (OpenSpec.ofChange varintOwnSpec)

/-- ITS FALSE NEIGHBOUR: 'it returns false'. Refute it at one input. -/
def varintOwnWrong : ChangeSpec := { name := "varintOwn", fn := fun _ => fun
  | [d1, d2, d3] => { results := [.lit (.bool false)], args := [d1, d2, d3] }
  | _ => none }
def VarintOwnWrongFalsely : Prop := varintOwnRow.holds Try.pinned (OpenSpec.ofChange varintOwnWrong)

/-- 'waybilllaw01.VarintJust': WHATEVER THE INPUT: true; the input reads as it did. -/
def varintJustSpec : ChangeSpec := { name := "varintJust", fn := fun _ => fun
  | [d] => { results := [.lit (.bool true)], args := [d] }
  | _ => none }
def varintJustRow : OpenClaim := { program := "ytckecoemgadieaa", sum := "09b6f3747886382944d01ecd16b3729bce526368773ca1adc1ac8560584e1203", func := "waybill/waybilllaw01.VarintJust", spec := "varintJust", apart := false }
def VarintJustSaid : Prop := varintJustRow.holds Try.pinned (OpenSpec.ofChange varintJustSpec)

/-- ITS FALSE NEIGHBOUR: 'it returns false'. Refute it at one input. -/
def varintJustWrong : ChangeSpec := { name := "varintJust", fn := fun _ => fun
  | [d] => { results := [.lit (.bool false)], args := [d] }
  | _ => none }
def VarintJustWrongFalsely : Prop := varintJustRow.holds Try.pinned (OpenSpec.ofChange varintJustWrong)

/-- 'waybilllaw01.VarintTexts': WHATEVER THE INPUT: true; the input reads as it did. -/
def varintTextsSpec : ChangeSpec := { name := "varintTexts", fn := fun _ => fun
  | [d1, d2, d3, d4, d5] => { results := [.lit (.bool true)], args := [d1, d2, d3, d4, d5] }
  | _ => none }
def varintTextsRow : OpenClaim := { program := "ytckecoemgadieaa", sum := "09b6f3747886382944d01ecd16b3729bce526368773ca1adc1ac8560584e1203", func := "waybill/waybilllaw01.VarintTexts", spec := "varintTexts", apart := false }
def VarintTextsSaid : Prop := varintTextsRow.holds Try.pinned (OpenSpec.ofChange varintTextsSpec)

/-- ITS FALSE NEIGHBOUR: 'it returns false'. Refute it at one input. -/
def varintTextsWrong : ChangeSpec := { name := "varintTexts", fn := fun _ => fun
  | [d1, d2, d3, d4, d5] => { results := [.lit (.bool false)], args := [d1, d2, d3, d4, d5] }
  | _ => none }
def VarintTextsWrongFalsely : Prop := varintTextsRow.holds Try.pinned (OpenSpec.ofChange varintTextsWrong)

/-- 'waybilllaw01.VarintTells': WHATEVER THE INPUT: true; the input reads as it did. -/
def varintTellsSpec : ChangeSpec := { name := "varintTells", fn := fun _ => fun
  | [d1, d2, d3, d4, d5] => { results := [.lit (.bool true)], args := [d1, d2, d3, d4, d5] }
  | _ => none }
def varintTellsRow : OpenClaim := { program := "ytckecoemgadieaa", sum := "09b6f3747886382944d01ecd16b3729bce526368773ca1adc1ac8560584e1203", func := "waybill/waybilllaw01.VarintTells", spec := "varintTells", apart := false }
def VarintTellsSaid : Prop := varintTellsRow.holds Try.pinned (OpenSpec.ofChange varintTellsSpec)

/-- ITS FALSE NEIGHBOUR: 'it returns false'. Refute it at one input. -/
def varintTellsWrong : ChangeSpec := { name := "varintTells", fn := fun _ => fun
  | [d1, d2, d3, d4, d5] => { results := [.lit (.bool false)], args := [d1, d2, d3, d4, d5] }
  | _ => none }
def VarintTellsWrongFalsely : Prop := varintTellsRow.holds Try.pinned (OpenSpec.ofChange varintTellsWrong)

/- THE SECOND FORM. 'bulk': how many values and letters a reading holds, each counted each time it is reached (what is shared counts as often as it is met; a slice's spare places count too). A statement '..UptoSaid' is the law's where the arguments, and the package variables that the reading takes, are together of bulk at most 1048576: NARROWER than '..Said'. Prove '..Said' where nothing that the law and all that it calls make is longer than what came in: it says more and counts as full. Else prove '..UptoSaid'. A law counts once. -/
mutual
def uptoBulk {H : Type} : DataW H → Nat
  | .lit (.string bytes) => bytes.length + 1
  | .lit _ => 1
  | .nil => 1
  | .ptr d => uptoBulk d + 1
  | .slice elems spare => uptoBulkAll elems + uptoBulkAll spare + 1
  | .agg parts => uptoBulkAll parts + 1
  | .iface _ d => uptoBulk d + 1
  | .map entries => uptoBulkEntries entries + 1
  | .held _ => 1
def uptoBulkAll {H : Type} : List (DataW H) → Nat
  | [] => 0
  | d :: r => uptoBulk d + uptoBulkAll r
def uptoBulkEntries {H : Type} : List (Lit × DataW H) → Nat
  | [] => 0
  | x :: r => uptoBulkEntry x + uptoBulkEntries r
def uptoBulkEntry {H : Type} : Lit × DataW H → Nat
  | (.string bytes, d) => bytes.length + uptoBulk d + 1
  | (_, d) => uptoBulk d + 1
 end
def uptoSmall : (H : Type) → List (DataW H) → Bool := fun _ ds => decide (uptoBulkAll ds ≤ 1048576)
def OpenSpec.upto (s : _root_.Go.ChangeSpec) : _root_.Go.OpenSpec := { _root_.Go.OpenSpec.ofChange s with cond := some uptoSmall }

/-- 'waybilllaw01.VarintBack', WHERE WHAT IT READS IS OF BULK AT MOST 1048576: true; the input reads as it did. -/
def varintBackUptoRow : OpenClaim := { program := "ytckecoemgadieaa", sum := "09b6f3747886382944d01ecd16b3729bce526368773ca1adc1ac8560584e1203", func := "waybill/waybilllaw01.VarintBack", spec := "varintBack", apart := false, narrowed := true }
def VarintBackUptoSaid : Prop := varintBackUptoRow.holds Try.pinned (OpenSpec.upto varintBackSpec)

/-- 'waybilllaw01.VarintTurns', WHERE WHAT IT READS IS OF BULK AT MOST 1048576: true; the input reads as it did. -/
def varintTurnsUptoRow : OpenClaim := { program := "ytckecoemgadieaa", sum := "09b6f3747886382944d01ecd16b3729bce526368773ca1adc1ac8560584e1203", func := "waybill/waybilllaw01.VarintTurns", spec := "varintTurns", apart := false, narrowed := true }
def VarintTurnsUptoSaid : Prop := varintTurnsUptoRow.holds Try.pinned (OpenSpec.upto varintTurnsSpec)

/-- 'waybilllaw01.VarintOwn', WHERE WHAT IT READS IS OF BULK AT MOST 1048576: true; the input reads as it did. -/
def varintOwnUptoRow : OpenClaim := { program := "ytckecoemgadieaa", sum := "09b6f3747886382944d01ecd16b3729bce526368773ca1adc1ac8560584e1203", func := "waybill/waybilllaw01.VarintOwn", spec := "varintOwn", apart := false, narrowed := true }
def VarintOwnUptoSaid : Prop := varintOwnUptoRow.holds Try.pinned (OpenSpec.upto varintOwnSpec)

/-- 'waybilllaw01.VarintJust', WHERE WHAT IT READS IS OF BULK AT MOST 1048576: true; the input reads as it did. -/
def varintJustUptoRow : OpenClaim := { program := "ytckecoemgadieaa", sum := "09b6f3747886382944d01ecd16b3729bce526368773ca1adc1ac8560584e1203", func := "waybill/waybilllaw01.VarintJust", spec := "varintJust", apart := false, narrowed := true }
def VarintJustUptoSaid : Prop := varintJustUptoRow.holds Try.pinned (OpenSpec.upto varintJustSpec)

/-- 'waybilllaw01.VarintTexts', WHERE WHAT IT READS IS OF BULK AT MOST 1048576: true; the input reads as it did. -/
def varintTextsUptoRow : OpenClaim := { program := "ytckecoemgadieaa", sum := "09b6f3747886382944d01ecd16b3729bce526368773ca1adc1ac8560584e1203", func := "waybill/waybilllaw01.VarintTexts", spec := "varintTexts", apart := false, narrowed := true }
def VarintTextsUptoSaid : Prop := varintTextsUptoRow.holds Try.pinned (OpenSpec.upto varintTextsSpec)

/-- 'waybilllaw01.VarintTells', WHERE WHAT IT READS IS OF BULK AT MOST 1048576: true; the input reads as it did. -/
def varintTellsUptoRow : OpenClaim := { program := "ytckecoemgadieaa", sum := "09b6f3747886382944d01ecd16b3729bce526368773ca1adc1ac8560584e1203", func := "waybill/waybilllaw01.VarintTells", spec := "varintTells", apart := false, narrowed := true }
def VarintTellsUptoSaid : Prop := varintTellsUptoRow.holds Try.pinned (OpenSpec.upto varintTellsSpec)

end Rows
end Go.Proofs.Ytckecoemgadieaa
