/- Small words for this seat's walks: comparisons of texts as the functions' texts tell them; no condition. -/
import Derived.Test.YthclofmcinknlaaWMore
import Derived.Test.YthclofmcinknlaaPlain
import Derived.WalkKit
import Derived.Laws.Cover1
namespace Go.Proofs.Ythclofmcinknlaa.My
open Go.RowKit Go.Proofs.YthclofmcinknlaaW.PrintWords

theorem ret_isEmpty (l : List UInt8) : Ending.returned (.bool (!l.isEmpty)) = Ending.returned (.bool (l != [])) := by cases l <;> rfl

theorem binOp_gtr_flip (t : TypeId) (a b : ByteArray) : binOp .gtr t (.string a) (.string b) = pure (.bool (Op.bytesLess b.toList a.toList)) := by
  rw [binOp_string_gtr]
  by_cases e : a.toList = b.toList
  · simp [e, Plain.bytesLess_irrefl]
  · rw [Plain.bytesLess_total _ _ e, beq_eq_false_iff_ne.2 e]
    simp

end Go.Proofs.Ythclofmcinknlaa.My
