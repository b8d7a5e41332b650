/-
  No cell of these rows narrows 'for every input' (looked for: loops, veiled, ifaces, maps, wideKeys, modest, calm, conditions, laid).
  DERIVED. THE GIVEN ROWS OF THIS SEAT. 6 by the template 'for every input the law returns true; each argument reads behind the call as it read before'; 0 by the template 'total and deterministic' (their statements: YthfjgfldmkdlnaaTotals.lean).
  GIVEN WITH THE SEED: the statements are not yours to turn. If you find one false, say at which input.
  Laid BY PROGRAM, IN A SANDBOX (cutbox-rows.mjs): the forced cells as the released guide's own fill.sh prints them over the translation 4f2a18c82fbb8c23… (all of the seat's roots in one cut). By AI agents, Wed Nov 11 2026. No macro, syntax, notation, axiom, sorry.
-/
import Derived.Test.YthfjgfldmkdlnaaChecked
import GoSem.Claim
import GoSem.ClaimJoined
import GoSem.ClaimMapViews
import Derived.JoinedTies
import Derived.KernelRfl
namespace Go.Proofs.Ythfjgfldmkdlnaa
/- THE CELL 'sum', in the pinned program and in every row, IS THE sha256 OF THE DUMP (.gsa) THAT YthfjgfldmkdlnaaProg.lean LOADS. Nothing in Lean hashes anything: it is a label: what it is worth is what the hold of that sum in a sandbox is worth. -/
noncomputable def Try.pinned : Pinned := { name := "ythfjgfldmkdlnaa", sum := "4f2a18c82fbb8c238cc0025b9fbba80570ae2604867b4a4d25aa996d4fd204b9", checked := Try.checked }
namespace Rows
def none {H : Type} : Left H := { results := [], args := [] }

/-- 'waybilllaw23.SessionFinds': WHATEVER THE INPUT: true; the input reads as it did. -/
def sessionFindsSpec : ChangeSpec := { name := "sessionFinds", fn := fun _ => fun
  | [d1, d2, d3, d4, d5, d6] => { results := [.lit (.bool true)], args := [d1, d2, d3, d4, d5, d6] }
  | _ => none }
def sessionFindsRow : OpenClaim := { program := "ythfjgfldmkdlnaa", sum := "4f2a18c82fbb8c238cc0025b9fbba80570ae2604867b4a4d25aa996d4fd204b9", func := "waybill/waybilllaw23.SessionFinds", spec := "sessionFinds", unfollowed := true, recurses := true, apart := false }
def SessionFindsSaid : Prop := sessionFindsRow.holds Try.pinned (OpenSpec.ofChange sessionFindsSpec)

/-- ITS FALSE NEIGHBOUR: 'it returns false'. Refute it at one input. -/
def sessionFindsWrong : ChangeSpec := { name := "sessionFinds", fn := fun _ => fun
  | [d1, d2, d3, d4, d5, d6] => { results := [.lit (.bool false)], args := [d1, d2, d3, d4, d5, d6] }
  | _ => none }
def SessionFindsWrongFalsely : Prop := sessionFindsRow.holds Try.pinned (OpenSpec.ofChange sessionFindsWrong)

/-- 'waybilllaw23.SessionExpires': WHATEVER THE INPUT: true; the input reads as it did. -/
def sessionExpiresSpec : ChangeSpec := { name := "sessionExpires", fn := fun _ => fun
  | [d1, d2, d3, d4] => { results := [.lit (.bool true)], args := [d1, d2, d3, d4] }
  | _ => none }
def sessionExpiresRow : OpenClaim := { program := "ythfjgfldmkdlnaa", sum := "4f2a18c82fbb8c238cc0025b9fbba80570ae2604867b4a4d25aa996d4fd204b9", func := "waybill/waybilllaw23.SessionExpires", spec := "sessionExpires", unfollowed := true, recurses := true, apart := false }
def SessionExpiresSaid : Prop := sessionExpiresRow.holds Try.pinned (OpenSpec.ofChange sessionExpiresSpec)

/-- ITS FALSE NEIGHBOUR: 'it returns false'. Refute it at one input. -/
def sessionExpiresWrong : ChangeSpec := { name := "sessionExpires", fn := fun _ => fun
  | [d1, d2, d3, d4] => { results := [.lit (.bool false)], args := [d1, d2, d3, d4] }
  | _ => none }
def SessionExpiresWrongFalsely : Prop := sessionExpiresRow.holds Try.pinned (OpenSpec.ofChange sessionExpiresWrong)

/-- 'waybilllaw23.SessionFull': WHATEVER THE INPUT: true; the input reads as it did. -/
def sessionFullSpec : ChangeSpec := { name := "sessionFull", fn := fun _ => fun
  | [d1, d2, d3] => { results := [.lit (.bool true)], args := [d1, d2, d3] }
  | _ => none }
def sessionFullRow : OpenClaim := { program := "ythfjgfldmkdlnaa", sum := "4f2a18c82fbb8c238cc0025b9fbba80570ae2604867b4a4d25aa996d4fd204b9", func := "waybill/waybilllaw23.SessionFull", spec := "sessionFull", unfollowed := true, recurses := true, apart := false }
def SessionFullSaid : Prop := sessionFullRow.holds Try.pinned (OpenSpec.ofChange sessionFullSpec)

/-- ITS FALSE NEIGHBOUR: 'it returns false'. Refute it at one input. -/
def sessionFullWrong : ChangeSpec := { name := "sessionFull", fn := fun _ => fun
  | [d1, d2, d3] => { results := [.lit (.bool false)], args := [d1, d2, d3] }
  | _ => none }
def SessionFullWrongFalsely : Prop := sessionFullRow.holds Try.pinned (OpenSpec.ofChange sessionFullWrong)

/-- 'waybilllaw23.SessionOwn': WHATEVER THE INPUT: true; the input reads as it did. -/
def sessionOwnSpec : ChangeSpec := { name := "sessionOwn", fn := fun _ => fun
  | [d1, d2, d3, d4, d5] => { results := [.lit (.bool true)], args := [d1, d2, d3, d4, d5] }
  | _ => none }
def sessionOwnRow : OpenClaim := { program := "ythfjgfldmkdlnaa", sum := "4f2a18c82fbb8c238cc0025b9fbba80570ae2604867b4a4d25aa996d4fd204b9", func := "waybill/waybilllaw23.SessionOwn", spec := "sessionOwn", unfollowed := true, recurses := true, apart := false }
def SessionOwnSaid : Prop := sessionOwnRow.holds Try.pinned (OpenSpec.ofChange sessionOwnSpec)

/-- ITS FALSE NEIGHBOUR: 'it returns false'. Refute it at one input. -/
def sessionOwnWrong : ChangeSpec := { name := "sessionOwn", fn := fun _ => fun
  | [d1, d2, d3, d4, d5] => { results := [.lit (.bool false)], args := [d1, d2, d3, d4, d5] }
  | _ => none }
def SessionOwnWrongFalsely : Prop := sessionOwnRow.holds Try.pinned (OpenSpec.ofChange sessionOwnWrong)

/-- 'waybilllaw23.SessionNever': WHATEVER THE INPUT: true; the input reads as it did. -/
def sessionNeverSpec : ChangeSpec := { name := "sessionNever", fn := fun _ => fun
  | [d1, d2, d3] => { results := [.lit (.bool true)], args := [d1, d2, d3] }
  | _ => none }
def sessionNeverRow : OpenClaim := { program := "ythfjgfldmkdlnaa", sum := "4f2a18c82fbb8c238cc0025b9fbba80570ae2604867b4a4d25aa996d4fd204b9", func := "waybill/waybilllaw23.SessionNever", spec := "sessionNever", unfollowed := true, recurses := true, apart := false }
def SessionNeverSaid : Prop := sessionNeverRow.holds Try.pinned (OpenSpec.ofChange sessionNeverSpec)

/-- ITS FALSE NEIGHBOUR: 'it returns false'. Refute it at one input. -/
def sessionNeverWrong : ChangeSpec := { name := "sessionNever", fn := fun _ => fun
  | [d1, d2, d3] => { results := [.lit (.bool false)], args := [d1, d2, d3] }
  | _ => none }
def SessionNeverWrongFalsely : Prop := sessionNeverRow.holds Try.pinned (OpenSpec.ofChange sessionNeverWrong)

/-- 'waybilllaw23.SessionTells': WHATEVER THE INPUT: true; the input reads as it did. -/
def sessionTellsSpec : ChangeSpec := { name := "sessionTells", fn := fun _ => fun
  | [d1, d2, d3, d4, d5, d6, d7] => { results := [.lit (.bool true)], args := [d1, d2, d3, d4, d5, d6, d7] }
  | _ => none }
def sessionTellsRow : OpenClaim := { program := "ythfjgfldmkdlnaa", sum := "4f2a18c82fbb8c238cc0025b9fbba80570ae2604867b4a4d25aa996d4fd204b9", func := "waybill/waybilllaw23.SessionTells", spec := "sessionTells", unfollowed := true, recurses := true, apart := false }
def SessionTellsSaid : Prop := sessionTellsRow.holds Try.pinned (OpenSpec.ofChange sessionTellsSpec)

/-- ITS FALSE NEIGHBOUR: 'it returns false'. Refute it at one input. -/
def sessionTellsWrong : ChangeSpec := { name := "sessionTells", fn := fun _ => fun
  | [d1, d2, d3, d4, d5, d6, d7] => { results := [.lit (.bool false)], args := [d1, d2, d3, d4, d5, d6, d7] }
  | _ => none }
def SessionTellsWrongFalsely : Prop := sessionTellsRow.holds Try.pinned (OpenSpec.ofChange sessionTellsWrong)

/- THE SECOND FORM. 'bulk': how many values and letters a reading holds, each counted each time it is reached (what is shared counts as often as it is met; a slice's spare places count too). A statement '..UptoSaid' is the law's where the arguments, and the package variables that the reading takes, are together of bulk at most 1048576: NARROWER than '..Said'. Prove '..Said' where nothing that the law and all that it calls make is longer than what came in: it says more and counts as full. Else prove '..UptoSaid'. A law counts once. -/
mutual
def uptoBulk {H : Type} : DataW H → Nat
  | .lit (.string bytes) => bytes.length + 1
  | .lit _ => 1
  | .nil => 1
  | .ptr d => uptoBulk d + 1
  | .slice elems spare => uptoBulkAll elems + uptoBulkAll spare + 1
  | .agg parts => uptoBulkAll parts + 1
  | .iface _ d => uptoBulk d + 1
  | .map entries => uptoBulkEntries entries + 1
  | .held _ => 1
def uptoBulkAll {H : Type} : List (DataW H) → Nat
  | [] => 0
  | d :: r => uptoBulk d + uptoBulkAll r
def uptoBulkEntries {H : Type} : List (Lit × DataW H) → Nat
  | [] => 0
  | x :: r => uptoBulkEntry x + uptoBulkEntries r
def uptoBulkEntry {H : Type} : Lit × DataW H → Nat
  | (.string bytes, d) => bytes.length + uptoBulk d + 1
  | (_, d) => uptoBulk d + 1
 end
def uptoSmall : (H : Type) → List (DataW H) → Bool := fun _ ds => decide (uptoBulkAll ds ≤ 1048576)
def OpenSpec.upto (s : _root_.Go.ChangeSpec) : _root_.Go.OpenSpec := { _root_.Go.OpenSpec.ofChange s with cond := some uptoSmall }

/-- 'waybilllaw23.SessionFinds', WHERE WHAT IT READS IS OF BULK AT MOST 1048576: true; the input reads as it did. -/
def sessionFindsUptoRow : OpenClaim := { program := "ythfjgfldmkdlnaa", sum := "4f2a18c82fbb8c238cc0025b9fbba80570ae2604867b4a4d25aa996d4fd204b9", func := "waybill/waybilllaw23.SessionFinds", spec := "sessionFinds", unfollowed := true, recurses := true, apart := false, narrowed := true }
def SessionFindsUptoSaid : Prop := sessionFindsUptoRow.holds Try.pinned (OpenSpec.upto sessionFindsSpec)

/-- 'waybilllaw23.SessionExpires', WHERE WHAT IT READS IS OF BULK AT MOST 1048576: true; the input reads as it did. -/
def sessionExpiresUptoRow : OpenClaim := { program := "ythfjgfldmkdlnaa", sum := "4f2a18c82fbb8c238cc0025b9fbba80570ae2604867b4a4d25aa996d4fd204b9", func := "waybill/waybilllaw23.SessionExpires", spec := "sessionExpires", unfollowed := true, recurses := true, apart := false, narrowed := true }
def SessionExpiresUptoSaid : Prop := sessionExpiresUptoRow.holds Try.pinned (OpenSpec.upto sessionExpiresSpec)

/-- 'waybilllaw23.SessionFull', WHERE WHAT IT READS IS OF BULK AT MOST 1048576: true; the input reads as it did. -/
def sessionFullUptoRow : OpenClaim := { program := "ythfjgfldmkdlnaa", sum := "4f2a18c82fbb8c238cc0025b9fbba80570ae2604867b4a4d25aa996d4fd204b9", func := "waybill/waybilllaw23.SessionFull", spec := "sessionFull", unfollowed := true, recurses := true, apart := false, narrowed := true }
def SessionFullUptoSaid : Prop := sessionFullUptoRow.holds Try.pinned (OpenSpec.upto sessionFullSpec)

/-- 'waybilllaw23.SessionOwn', WHERE WHAT IT READS IS OF BULK AT MOST 1048576: true; the input reads as it did. -/
def sessionOwnUptoRow : OpenClaim := { program := "ythfjgfldmkdlnaa", sum := "4f2a18c82fbb8c238cc0025b9fbba80570ae2604867b4a4d25aa996d4fd204b9", func := "waybill/waybilllaw23.SessionOwn", spec := "sessionOwn", unfollowed := true, recurses := true, apart := false, narrowed := true }
def SessionOwnUptoSaid : Prop := sessionOwnUptoRow.holds Try.pinned (OpenSpec.upto sessionOwnSpec)

/-- 'waybilllaw23.SessionNever', WHERE WHAT IT READS IS OF BULK AT MOST 1048576: true; the input reads as it did. -/
def sessionNeverUptoRow : OpenClaim := { program := "ythfjgfldmkdlnaa", sum := "4f2a18c82fbb8c238cc0025b9fbba80570ae2604867b4a4d25aa996d4fd204b9", func := "waybill/waybilllaw23.SessionNever", spec := "sessionNever", unfollowed := true, recurses := true, apart := false, narrowed := true }
def SessionNeverUptoSaid : Prop := sessionNeverUptoRow.holds Try.pinned (OpenSpec.upto sessionNeverSpec)

/-- 'waybilllaw23.SessionTells', WHERE WHAT IT READS IS OF BULK AT MOST 1048576: true; the input reads as it did. -/
def sessionTellsUptoRow : OpenClaim := { program := "ythfjgfldmkdlnaa", sum := "4f2a18c82fbb8c238cc0025b9fbba80570ae2604867b4a4d25aa996d4fd204b9", func := "waybill/waybilllaw23.SessionTells", spec := "sessionTells", unfollowed := true, recurses := true, apart := false, narrowed := true }
def SessionTellsUptoSaid : Prop := sessionTellsUptoRow.holds Try.pinned (OpenSpec.upto sessionTellsSpec)

end Rows
end Go.Proofs.Ythfjgfldmkdlnaa
