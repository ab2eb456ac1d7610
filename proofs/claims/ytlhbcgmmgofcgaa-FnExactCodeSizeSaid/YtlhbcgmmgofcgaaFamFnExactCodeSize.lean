/- The families (bulk, copy, comparison) of the law FnExactCodeSize over plain data; no condition. -/
import Derived.Test.YtlhbcgmmgofcgaaFam
import Derived.Test.YtlhbcgmmgofcgaaGoalFnExactCodeSize
set_option linter.unusedVariables false
namespace Go.Proofs.Ytlhbcgmmgofcgaa.FamFnExactCodeSize
open Go.RowKit Go.Proofs.Ytlhbcgmmgofcgaa.QFnExactProgramOK Go.Proofs.YtlhbcgmmgofcgaaW.PrintWords Go.Proofs.YtlhbcgmmgofcgaaW.PrintLast Go.Proofs.Ytlhbcgmmgofcgaa.GoalFnExactCodeSize Go.Proofs.Ytlhbcgmmgofcgaa Go.Proofs.Ytlhbcgmmgofcgaa.Fam

def Sm_Value (a0_0 : Int) (a0_1 : Int) (a0_2 : ByteArray) : Prop := a0_2.size ≤ 1048576 ∧ True
theorem sz_Value (a0_0 : Int) (a0_1 : Int) (a0_2 : ByteArray) (h_a0_2 : a0_2.size ≤ maxLen) : Szs (fun k v => laws_szValue.f a0_0 a0_1 a0_2 v) (Sm_Value a0_0 a0_1 a0_2) := by
  unfold laws_szValue.f Sm_Value
  exact (Szs.cut a0_2.size (Nat.le_trans h_a0_2 (by decide)) Szs.done)

def Sm_Ins (a0_0 : Int) (a0_1 : Int) (a0_2 : Int) (a0_3 : ByteArray) (a0_4 : Int) (a0_5 : Int) (a0_6 : ByteArray) : Prop := a0_3.size ≤ 1048576 ∧ Sm_Value a0_4 a0_5 a0_6 ∧ True
theorem sz_Ins (a0_0 : Int) (a0_1 : Int) (a0_2 : Int) (a0_3 : ByteArray) (a0_4 : Int) (a0_5 : Int) (a0_6 : ByteArray) (h_a0_3 : a0_3.size ≤ maxLen) (h_a0_6 : a0_6.size ≤ maxLen) : Szs (fun k v => laws_szIns.f a0_0 a0_1 a0_2 a0_3 a0_4 a0_5 a0_6 v) (Sm_Ins a0_0 a0_1 a0_2 a0_3 a0_4 a0_5 a0_6) := by
  unfold laws_szIns.f Sm_Ins
  exact (Szs.cut a0_3.size (Nat.le_trans h_a0_3 (by decide)) (Szs.seq (sz_Value a0_4 a0_5 a0_6 h_a0_6) Szs.done))

def Sm_InsS (l0 : List (S154)) : Prop := l0.length ≤ 1048576 ∧ ∀ x ∈ l0, Sm_Ins x.f0 x.f1 x.f2 x.f3 x.f4.f0 x.f4.f1 x.f4.f2
theorem sz_InsS (l0 : List (S154)) (h : (l0.length ≤ maxLen ∧ ∀ y ∈ l0, G154 y)) : Szs (fun k v => laws_szInsS.f k l0 v) (Sm_InsS l0) := Szs.list (l0 := laws_szInsS.l0) (fun k x v => laws_szIns.f x.f0 x.f1 x.f2 x.f3 x.f4.f0 x.f4.f1 x.f4.f2 v) z154 l0 (Nat.le_trans h.1 (by decide)) (fun _ _ _ => rfl) (fun x hx => sz_Ins x.f0 x.f1 x.f2 x.f3 x.f4.f0 x.f4.f1 x.f4.f2 (h.2 x hx).2.2.2.1 (h.2 x hx).2.2.2.2.2.2)

def Sm_Func (a0_0 : ByteArray) (a0_1 : Int) (a0_2 : Int) (l0_3 : List (S154)) : Prop := a0_0.size ≤ 1048576 ∧ Sm_InsS l0_3 ∧ True
theorem sz_Func (a0_0 : ByteArray) (a0_1 : Int) (a0_2 : Int) (l0_3 : List (S154)) (h_a0_0 : a0_0.size ≤ maxLen) (h_l0_3 : (l0_3.length ≤ maxLen ∧ ∀ y ∈ l0_3, G154 y)) : Szs (fun k v => laws_szFunc.f k a0_0 a0_1 a0_2 l0_3 v) (Sm_Func a0_0 a0_1 a0_2 l0_3) := by
  unfold laws_szFunc.f Sm_Func
  exact (Szs.cut a0_0.size (Nat.le_trans h_a0_0 (by decide)) (Szs.seq (sz_InsS l0_3 h_l0_3) Szs.done))

def Sm_FuncS (l0 : List (S93)) : Prop := l0.length ≤ 1048576 ∧ ∀ x ∈ l0, Sm_Func x.f0 x.f1 x.f2 x.f3
theorem sz_FuncS (l0 : List (S93)) (h : (l0.length ≤ maxLen ∧ ∀ y ∈ l0, G93 y)) : Szs (fun k v => laws_szFuncS.f k l0 v) (Sm_FuncS l0) := Szs.list (l0 := laws_szFuncS.l0) (fun k x v => laws_szFunc.f k x.f0 x.f1 x.f2 x.f3 v) z93 l0 (Nat.le_trans h.1 (by decide)) (fun _ _ _ => rfl) (fun x hx => sz_Func x.f0 x.f1 x.f2 x.f3 (h.2 x hx).1 (h.2 x hx).2.2.2)

def Sm_Program (l0_0 : List (S93)) : Prop := Sm_FuncS l0_0 ∧ True
theorem sz_Program (l0_0 : List (S93)) (h_l0_0 : (l0_0.length ≤ maxLen ∧ ∀ y ∈ l0_0, G93 y)) : Szs (fun k v => laws_szProgram.f k l0_0 v) (Sm_Program l0_0) := by
  unfold laws_szProgram.f Sm_Program
  exact (Szs.seq (sz_FuncS l0_0 h_l0_0) Szs.done)

def g_Value (a0_0 : Int) (a0_1 : Int) (a0_2 : ByteArray) : Int × Int × ByteArray := (a0_0, a0_1, a0_2)
theorem to_Value (a0_0 : Int) (a0_1 : Int) (a0_2 : ByteArray) (hs : Sm_Value a0_0 a0_1 a0_2) : Tos (fun k => laws_toValue.f a0_0 a0_1 a0_2) (g_Value a0_0 a0_1 a0_2) := by
  unfold laws_toValue.f
  exact (Tos.pure _)

def g_Ins (a0_0 : Int) (a0_1 : Int) (a0_2 : Int) (a0_3 : ByteArray) (a0_4 : Int) (a0_5 : Int) (a0_6 : ByteArray) : Int × Int × Int × ByteArray × Int × Int × ByteArray := let bt118 := g_Value a0_4 a0_5 a0_6; (a0_0, a0_1, a0_2, a0_3, bt118.1, bt118.2.1, bt118.2.2)
theorem to_Ins (a0_0 : Int) (a0_1 : Int) (a0_2 : Int) (a0_3 : ByteArray) (a0_4 : Int) (a0_5 : Int) (a0_6 : ByteArray) (hs : Sm_Ins a0_0 a0_1 a0_2 a0_3 a0_4 a0_5 a0_6) : Tos (fun k => laws_toIns.f a0_0 a0_1 a0_2 a0_3 a0_4 a0_5 a0_6) (g_Ins a0_0 a0_1 a0_2 a0_3 a0_4 a0_5 a0_6) := by
  unfold laws_toIns.f
  exact (Tos.bind (to_Value a0_4 a0_5 a0_6 hs.2.1) (Tos.pure _))

def g_InsS (l0 : List (S154)) : List S61 := l0.map fun x => (fun bt125 => (⟨bt125.1, bt125.2.1, bt125.2.2.1, bt125.2.2.2.1, (⟨bt125.2.2.2.2.1, bt125.2.2.2.2.2.1, bt125.2.2.2.2.2.2⟩ : S45)⟩ : S61)) (g_Ins x.f0 x.f1 x.f2 x.f3 x.f4.f0 x.f4.f1 x.f4.f2)
theorem to_InsS (l0 : List (S154)) (h : Sm_InsS l0) : Tos (fun k => laws_toInsS.f k l0) (g_InsS l0) := Tos.list (l0 := laws_toInsS.l0) (fun k x => laws_toIns.f x.f0 x.f1 x.f2 x.f3 x.f4.f0 x.f4.f1 x.f4.f2) (fun x => g_Ins x.f0 x.f1 x.f2 x.f3 x.f4.f0 x.f4.f1 x.f4.f2) (fun bt125 => (⟨bt125.1, bt125.2.1, bt125.2.2.1, bt125.2.2.2.1, (⟨bt125.2.2.2.2.1, bt125.2.2.2.2.2.1, bt125.2.2.2.2.2.2⟩ : S45)⟩ : S61)) z154 z61 3909374676536 l0 h.1 (by decide) (fun _ _ _ => rfl) (fun x hx => to_Ins x.f0 x.f1 x.f2 x.f3 x.f4.f0 x.f4.f1 x.f4.f2 (h.2 x hx))

def g_Func (a0_0 : ByteArray) (a0_1 : Int) (a0_2 : Int) (l0_3 : List (S154)) : ByteArray × Int × Int × (List (S61)) := let t136 := g_InsS l0_3; (a0_0, a0_1, a0_2, t136)
theorem to_Func (a0_0 : ByteArray) (a0_1 : Int) (a0_2 : Int) (l0_3 : List (S154)) (hs : Sm_Func a0_0 a0_1 a0_2 l0_3) : Tos (fun k => laws_toFunc.f k a0_0 a0_1 a0_2 l0_3) (g_Func a0_0 a0_1 a0_2 l0_3) := by
  unfold laws_toFunc.f
  exact (Tos.bind (to_InsS l0_3 hs.2.1) (Tos.pure _))

def g_FuncS (l0 : List (S93)) : List S57 := l0.map fun x => (fun bt143 => (⟨bt143.1, bt143.2.1, bt143.2.2.1, bt143.2.2.2⟩ : S57)) (g_Func x.f0 x.f1 x.f2 x.f3)
theorem to_FuncS (l0 : List (S93)) (h : Sm_FuncS l0) : Tos (fun k => laws_toFuncS.f k l0) (g_FuncS l0) := Tos.list (l0 := laws_toFuncS.l0) (fun k x => laws_toFunc.f k x.f0 x.f1 x.f2 x.f3) (fun x => g_Func x.f0 x.f1 x.f2 x.f3) (fun bt143 => (⟨bt143.1, bt143.2.1, bt143.2.2.1, bt143.2.2.2⟩ : S57)) z93 z57 5026338869833 l0 h.1 (by decide) (fun _ _ _ => rfl) (fun x hx => to_Func x.f0 x.f1 x.f2 x.f3 (h.2 x hx))

def g_Program (l0_0 : List (S93)) : (List (S57)) := let t153 := g_FuncS l0_0; t153
theorem to_Program (l0_0 : List (S93)) (hs : Sm_Program l0_0) : Tos (fun k => laws_toProgram.f k l0_0) (g_Program l0_0) := by
  unfold laws_toProgram.f
  exact (Tos.bind (to_FuncS l0_0 hs.1) (Tos.pure _))

def EL_Value (a0_0 : Int) (a0_1 : Int) (a0_2 : ByteArray) : Prop := True
theorem eq_Value (a0_0 : Int) (a0_1 : Int) (a0_2 : ByteArray) (h : EL_Value a0_0 a0_1 a0_2) : Tos (fun k => laws_eqValue.f a0_0 a0_1 a0_2 a0_0 a0_1 a0_2) true := by
  unfold laws_eqValue.f
  exact (Tos.eq (Tos.eq (Tos.eq (Tos.pure true))))
theorem el_Value (a0_0 : Int) (a0_1 : Int) (a0_2 : ByteArray) (hs : Sm_Value a0_0 a0_1 a0_2) : EL_Value (g_Value a0_0 a0_1 a0_2).1 (g_Value a0_0 a0_1 a0_2).2.1 (g_Value a0_0 a0_1 a0_2).2.2 := trivial

def EL_Ins (a0_0 : Int) (a0_1 : Int) (a0_2 : Int) (a0_3 : ByteArray) (a0_4 : Int) (a0_5 : Int) (a0_6 : ByteArray) : Prop := EL_Value a0_4 a0_5 a0_6 ∧ True
theorem eq_Ins (a0_0 : Int) (a0_1 : Int) (a0_2 : Int) (a0_3 : ByteArray) (a0_4 : Int) (a0_5 : Int) (a0_6 : ByteArray) (h : EL_Ins a0_0 a0_1 a0_2 a0_3 a0_4 a0_5 a0_6) : Tos (fun k => laws_eqIns.f a0_0 a0_1 a0_2 a0_3 a0_4 a0_5 a0_6 a0_0 a0_1 a0_2 a0_3 a0_4 a0_5 a0_6) true := by
  unfold laws_eqIns.f
  exact (Tos.eq (Tos.eq (Tos.eq (Tos.eq (Tos.yes (eq_Value a0_4 a0_5 a0_6 h.1) (Tos.pure true))))))
theorem el_Ins (a0_0 : Int) (a0_1 : Int) (a0_2 : Int) (a0_3 : ByteArray) (a0_4 : Int) (a0_5 : Int) (a0_6 : ByteArray) (hs : Sm_Ins a0_0 a0_1 a0_2 a0_3 a0_4 a0_5 a0_6) : EL_Ins (g_Ins a0_0 a0_1 a0_2 a0_3 a0_4 a0_5 a0_6).1 (g_Ins a0_0 a0_1 a0_2 a0_3 a0_4 a0_5 a0_6).2.1 (g_Ins a0_0 a0_1 a0_2 a0_3 a0_4 a0_5 a0_6).2.2.1 (g_Ins a0_0 a0_1 a0_2 a0_3 a0_4 a0_5 a0_6).2.2.2.1 (g_Ins a0_0 a0_1 a0_2 a0_3 a0_4 a0_5 a0_6).2.2.2.2.1 (g_Ins a0_0 a0_1 a0_2 a0_3 a0_4 a0_5 a0_6).2.2.2.2.2.1 (g_Ins a0_0 a0_1 a0_2 a0_3 a0_4 a0_5 a0_6).2.2.2.2.2.2 := ⟨el_Value a0_4 a0_5 a0_6 hs.2.1, trivial⟩

def EL_InsS (l : List (S61)) : Prop := l.length ≤ 2305843009213693952 ∧ ∀ x ∈ l, EL_Ins x.f0 x.f1 x.f2 x.f3 x.f4.f0 x.f4.f1 x.f4.f2
theorem eq_InsS (l : List (S61)) (h : EL_InsS l) : Tos (fun k => laws_eqInsS.f k l l) true := Tos.eqs (l0 := laws_eqInsS.l0) (fun k x => laws_eqIns.f x.f0 x.f1 x.f2 x.f3 x.f4.f0 x.f4.f1 x.f4.f2 x.f0 x.f1 x.f2 x.f3 x.f4.f0 x.f4.f1 x.f4.f2) z61 l h.1 (fun _ _ => rfl) (fun x hx => eq_Ins x.f0 x.f1 x.f2 x.f3 x.f4.f0 x.f4.f1 x.f4.f2 (h.2 x hx))
theorem el_InsS (l : List S154) (h : Sm_InsS l) : EL_InsS (g_InsS l) := ⟨by unfold g_InsS; rw [List.length_map]; have := h.1; omega, fun y hy => by
  obtain ⟨x, hx, rfl⟩ := List.mem_map.mp hy
  exact el_Ins x.f0 x.f1 x.f2 x.f3 x.f4.f0 x.f4.f1 x.f4.f2 (h.2 x hx)⟩

def EL_Func (a0_0 : ByteArray) (a0_1 : Int) (a0_2 : Int) (l0_3 : List (S61)) : Prop := EL_InsS l0_3 ∧ True
theorem eq_Func (a0_0 : ByteArray) (a0_1 : Int) (a0_2 : Int) (l0_3 : List (S61)) (h : EL_Func a0_0 a0_1 a0_2 l0_3) : Tos (fun k => laws_eqFunc.f k a0_0 a0_1 a0_2 l0_3 a0_0 a0_1 a0_2 l0_3) true := by
  unfold laws_eqFunc.f
  exact (Tos.eq (Tos.eq (Tos.eq (Tos.yes (eq_InsS l0_3 h.1) (Tos.pure true)))))
theorem el_Func (a0_0 : ByteArray) (a0_1 : Int) (a0_2 : Int) (l0_3 : List (S154)) (hs : Sm_Func a0_0 a0_1 a0_2 l0_3) : EL_Func (g_Func a0_0 a0_1 a0_2 l0_3).1 (g_Func a0_0 a0_1 a0_2 l0_3).2.1 (g_Func a0_0 a0_1 a0_2 l0_3).2.2.1 (g_Func a0_0 a0_1 a0_2 l0_3).2.2.2 := ⟨el_InsS l0_3 hs.2.1, trivial⟩

def EL_FuncS (l : List (S57)) : Prop := l.length ≤ 2305843009213693952 ∧ ∀ x ∈ l, EL_Func x.f0 x.f1 x.f2 x.f3
theorem eq_FuncS (l : List (S57)) (h : EL_FuncS l) : Tos (fun k => laws_eqFuncS.f k l l) true := Tos.eqs (l0 := laws_eqFuncS.l0) (fun k x => laws_eqFunc.f k x.f0 x.f1 x.f2 x.f3 x.f0 x.f1 x.f2 x.f3) z57 l h.1 (fun _ _ => rfl) (fun x hx => eq_Func x.f0 x.f1 x.f2 x.f3 (h.2 x hx))
theorem el_FuncS (l : List S93) (h : Sm_FuncS l) : EL_FuncS (g_FuncS l) := ⟨by unfold g_FuncS; rw [List.length_map]; have := h.1; omega, fun y hy => by
  obtain ⟨x, hx, rfl⟩ := List.mem_map.mp hy
  exact el_Func x.f0 x.f1 x.f2 x.f3 (h.2 x hx)⟩

def EL_Program (l0_0 : List (S57)) : Prop := EL_FuncS l0_0 ∧ True
theorem eq_Program (l0_0 : List (S57)) (h : EL_Program l0_0) : Tos (fun k => laws_eqProgram.f k l0_0 l0_0) true := by
  unfold laws_eqProgram.f
  exact (Tos.yes (eq_FuncS l0_0 h.1) (Tos.pure true))
theorem el_Program (l0_0 : List (S93)) (hs : Sm_Program l0_0) : EL_Program (g_Program l0_0) := ⟨el_FuncS l0_0 hs.1, trivial⟩

end Go.Proofs.Ytlhbcgmmgofcgaa.FamFnExactCodeSize
