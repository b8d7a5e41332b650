/- MessageTellsUpto: texts of this claim, packed: what the kit's print has written for it and own texts, without what its proof does not reach. -/
import Derived.Test.YtkddlhcpplkpbaaKMessageTellsUpto0
import Derived.Test.YtkddlhcpplkpbaaKMessageTellsUpto6
set_option linter.unusedVariables false
set_option linter.unusedSimpArgs false
set_option linter.unusedSectionVars false
section
namespace WB
open Go Go.RowKit
theorem strs_eq (l m : List Int) (hl : octetsOk l = true) (hm : octetsOk m = true) : ((strOfNums l).toList == (strOfNums m).toList) = decide (l = m) := by
 rw [ByteArray.toList_eq, ByteArray.toList_eq, strOfNums_data, strOfNums_data]
 rw [Bool.eq_iff_iff, beq_iff_eq, decide_eq_true_iff]
 refine ⟨?_, fun h => by rw [h]⟩
 induction l generalizing m with
 | nil =>
  intro h
  cases m with
  | nil => rfl
  | cons b m => simp at h
 | cons a l ih =>
  intro h
  cases m with
  | nil => simp at h
  | cons b m =>
   simp only [octetsOk, List.all_cons, Bool.and_eq_true, decide_eq_true_iff] at hl hm
   simp only [List.map_cons, List.cons.injEq] at h
   have h1 := congrArg UInt8.toNat h.1
   rw [UInt8.toNat_ofNat', UInt8.toNat_ofNat'] at h1
   have := ih m hl.2 hm.2 h.2
   rw [this, show a = b by omega]
end WB
end
