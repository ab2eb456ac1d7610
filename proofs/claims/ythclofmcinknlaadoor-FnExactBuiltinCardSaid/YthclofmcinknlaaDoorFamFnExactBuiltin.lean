/- The families (bulk, copy, comparison) of the law FnExactBuiltin over plain data; no condition. -/
import Derived.Test.YthclofmcinknlaaDoorFam
import Derived.Test.YthclofmcinknlaaDoorGoalFnExactBuiltin
set_option linter.unusedVariables false
namespace Go.Proofs.YthclofmcinknlaaDoor.FamFnExactBuiltin
open Go.RowKit Go.Proofs.YthclofmcinknlaaDoor.QFnExactBuiltin Go.Proofs.YthclofmcinknlaaDoorW.PrintWords Go.Proofs.YthclofmcinknlaaDoorW.PrintLast Go.Proofs.YthclofmcinknlaaDoor.GoalFnExactBuiltin Go.Proofs.YthclofmcinknlaaDoor Go.Proofs.YthclofmcinknlaaDoor.Fam

def Sm_Value (a0_0 : Int) (a0_1 : Int) (a0_2 : ByteArray) : Prop := a0_2.size ≤ 1048576 ∧ True
theorem sz_Value (a0_0 : Int) (a0_1 : Int) (a0_2 : ByteArray) (h_a0_2 : a0_2.size ≤ maxLen) : Szs (fun k v => laws_szValue.f a0_0 a0_1 a0_2 v) (Sm_Value a0_0 a0_1 a0_2) := by
  unfold laws_szValue.f Sm_Value
  exact (Szs.cut a0_2.size (Nat.le_trans h_a0_2 (by decide)) Szs.done)

def Sm_ValueS (l0 : List (S26)) : Prop := l0.length ≤ 1048576 ∧ ∀ x ∈ l0, Sm_Value x.f0 x.f1 x.f2
theorem sz_ValueS (l0 : List (S26)) (h : (l0.length ≤ maxLen ∧ ∀ y ∈ l0, G26 y)) : Szs (fun k v => laws_szValueS.f k l0 v) (Sm_ValueS l0) := Szs.list (l0 := laws_szValueS.l0) (fun k x v => laws_szValue.f x.f0 x.f1 x.f2 v) z26 l0 (Nat.le_trans h.1 (by decide)) (fun _ _ _ => rfl) (fun x hx => sz_Value x.f0 x.f1 x.f2 (h.2 x hx).2.2)

def g_Value (a0_0 : Int) (a0_1 : Int) (a0_2 : ByteArray) : Int × Int × ByteArray := (a0_0, a0_1, a0_2)
theorem to_Value (a0_0 : Int) (a0_1 : Int) (a0_2 : ByteArray) (hs : Sm_Value a0_0 a0_1 a0_2) : Tos (fun k => laws_toValue.f a0_0 a0_1 a0_2) (g_Value a0_0 a0_1 a0_2) := by
  unfold laws_toValue.f
  exact (Tos.pure _)

def g_ValueS (l0 : List (S26)) : List S29 := l0.map fun x => (fun bt263 => (⟨bt263.1, bt263.2.1, bt263.2.2⟩ : S29)) (g_Value x.f0 x.f1 x.f2)
theorem to_ValueS (l0 : List (S26)) (h : Sm_ValueS l0) : Tos (fun k => laws_toValueS.f k l0) (g_ValueS l0) := Tos.list (l0 := laws_toValueS.l0) (fun k x => laws_toValue.f x.f0 x.f1 x.f2) (fun x => g_Value x.f0 x.f1 x.f2) (fun bt263 => (⟨bt263.1, bt263.2.1, bt263.2.2⟩ : S29)) z26 z29 8796093022208 l0 h.1 (by decide) (fun _ _ _ => rfl) (fun x hx => to_Value x.f0 x.f1 x.f2 (h.2 x hx))

def EL_Value (a0_0 : Int) (a0_1 : Int) (a0_2 : ByteArray) : Prop := True
theorem eq_Value (a0_0 : Int) (a0_1 : Int) (a0_2 : ByteArray) (h : EL_Value a0_0 a0_1 a0_2) : Tos (fun k => laws_eqValue.f a0_0 a0_1 a0_2 a0_0 a0_1 a0_2) true := by
  unfold laws_eqValue.f
  exact (Tos.eq (Tos.eq (Tos.eq (Tos.pure true))))
theorem el_Value (a0_0 : Int) (a0_1 : Int) (a0_2 : ByteArray) (hs : Sm_Value a0_0 a0_1 a0_2) : EL_Value (g_Value a0_0 a0_1 a0_2).1 (g_Value a0_0 a0_1 a0_2).2.1 (g_Value a0_0 a0_1 a0_2).2.2 := trivial

def EL_ValueS (l : List (S29)) : Prop := l.length ≤ 2305843009213693952 ∧ ∀ x ∈ l, EL_Value x.f0 x.f1 x.f2
theorem eq_ValueS (l : List (S29)) (h : EL_ValueS l) : Tos (fun k => laws_eqValueS.f k l l) true := Tos.eqs (l0 := laws_eqValueS.l0) (fun k x => laws_eqValue.f x.f0 x.f1 x.f2 x.f0 x.f1 x.f2) z29 l h.1 (fun _ _ => rfl) (fun x hx => eq_Value x.f0 x.f1 x.f2 (h.2 x hx))
theorem el_ValueS (l : List S26) (h : Sm_ValueS l) : EL_ValueS (g_ValueS l) := ⟨by unfold g_ValueS; rw [List.length_map]; have := h.1; omega, fun y hy => by
  obtain ⟨x, hx, rfl⟩ := List.mem_map.mp hy
  exact el_Value x.f0 x.f1 x.f2 (h.2 x hx)⟩

end Go.Proofs.YthclofmcinknlaaDoor.FamFnExactBuiltin
