/- The families (bulk, copy, comparison) of the law FnExactInsText over plain data; no condition. -/
import Derived.Test.YthclofmcinknlaaDoorFam
import Derived.Test.YthclofmcinknlaaDoorGoalFnExactInsText
set_option linter.unusedVariables false
namespace Go.Proofs.YthclofmcinknlaaDoor.FamFnExactInsText
open Go.RowKit Go.Proofs.YthclofmcinknlaaDoor.QFnExactInsText Go.Proofs.YthclofmcinknlaaDoorW.PrintWords Go.Proofs.YthclofmcinknlaaDoorW.PrintLast Go.Proofs.YthclofmcinknlaaDoor.GoalFnExactInsText Go.Proofs.YthclofmcinknlaaDoor Go.Proofs.YthclofmcinknlaaDoor.Fam

def Sm_Value (a0_0 : Int) (a0_1 : Int) (a0_2 : ByteArray) : Prop := a0_2.size ≤ 1048576 ∧ True
theorem sz_Value (a0_0 : Int) (a0_1 : Int) (a0_2 : ByteArray) (h_a0_2 : a0_2.size ≤ maxLen) : Szs (fun k v => laws_szValue.f a0_0 a0_1 a0_2 v) (Sm_Value a0_0 a0_1 a0_2) := by
  unfold laws_szValue.f Sm_Value
  exact (Szs.cut a0_2.size (Nat.le_trans h_a0_2 (by decide)) Szs.done)

def Sm_Ins (a0_0 : Int) (a0_1 : Int) (a0_2 : Int) (a0_3 : ByteArray) (a0_4 : Int) (a0_5 : Int) (a0_6 : ByteArray) : Prop := a0_3.size ≤ 1048576 ∧ Sm_Value a0_4 a0_5 a0_6 ∧ True
theorem sz_Ins (a0_0 : Int) (a0_1 : Int) (a0_2 : Int) (a0_3 : ByteArray) (a0_4 : Int) (a0_5 : Int) (a0_6 : ByteArray) (h_a0_3 : a0_3.size ≤ maxLen) (h_a0_6 : a0_6.size ≤ maxLen) : Szs (fun k v => laws_szIns.f a0_0 a0_1 a0_2 a0_3 a0_4 a0_5 a0_6 v) (Sm_Ins a0_0 a0_1 a0_2 a0_3 a0_4 a0_5 a0_6) := by
  unfold laws_szIns.f Sm_Ins
  exact (Szs.cut a0_3.size (Nat.le_trans h_a0_3 (by decide)) (Szs.seq (sz_Value a0_4 a0_5 a0_6 h_a0_6) Szs.done))

def g_Value (a0_0 : Int) (a0_1 : Int) (a0_2 : ByteArray) : Int × Int × ByteArray := (a0_0, a0_1, a0_2)
theorem to_Value (a0_0 : Int) (a0_1 : Int) (a0_2 : ByteArray) (hs : Sm_Value a0_0 a0_1 a0_2) : Tos (fun k => laws_toValue.f a0_0 a0_1 a0_2) (g_Value a0_0 a0_1 a0_2) := by
  unfold laws_toValue.f
  exact (Tos.pure _)

def g_Ins (a0_0 : Int) (a0_1 : Int) (a0_2 : Int) (a0_3 : ByteArray) (a0_4 : Int) (a0_5 : Int) (a0_6 : ByteArray) : Int × Int × Int × ByteArray × Int × Int × ByteArray := let bt162 := g_Value a0_4 a0_5 a0_6; (a0_0, a0_1, a0_2, a0_3, bt162.1, bt162.2.1, bt162.2.2)
theorem to_Ins (a0_0 : Int) (a0_1 : Int) (a0_2 : Int) (a0_3 : ByteArray) (a0_4 : Int) (a0_5 : Int) (a0_6 : ByteArray) (hs : Sm_Ins a0_0 a0_1 a0_2 a0_3 a0_4 a0_5 a0_6) : Tos (fun k => laws_toIns.f a0_0 a0_1 a0_2 a0_3 a0_4 a0_5 a0_6) (g_Ins a0_0 a0_1 a0_2 a0_3 a0_4 a0_5 a0_6) := by
  unfold laws_toIns.f
  exact (Tos.bind (to_Value a0_4 a0_5 a0_6 hs.2.1) (Tos.pure _))

end Go.Proofs.YthclofmcinknlaaDoor.FamFnExactInsText
