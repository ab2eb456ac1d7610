/- The families (bulk, copy, comparison) of the law FnExactSameOutcome over plain data; no condition. -/
import Derived.Test.YthclofmcinknlaaFam
import Derived.Test.YthclofmcinknlaaGoalFnExactSameOutcome
set_option linter.unusedVariables false
namespace Go.Proofs.Ythclofmcinknlaa.FamFnExactSameOutcome
open Go.RowKit Go.Proofs.Ythclofmcinknlaa.QFnExactSameOutcome Go.Proofs.YthclofmcinknlaaW.PrintWords Go.Proofs.YthclofmcinknlaaW.PrintLast Go.Proofs.Ythclofmcinknlaa.GoalFnExactSameOutcome Go.Proofs.Ythclofmcinknlaa Go.Proofs.Ythclofmcinknlaa.Fam

def Sm_Value (a0_0 : Int) (a0_1 : Int) (a0_2 : ByteArray) : Prop := a0_2.size ≤ 1048576 ∧ True
theorem sz_Value (a0_0 : Int) (a0_1 : Int) (a0_2 : ByteArray) (h_a0_2 : a0_2.size ≤ maxLen) : Szs (fun k v => laws_szValue.f a0_0 a0_1 a0_2 v) (Sm_Value a0_0 a0_1 a0_2) := by
  unfold laws_szValue.f Sm_Value
  exact (Szs.cut a0_2.size (Nat.le_trans h_a0_2 (by decide)) Szs.done)

def Sm_Outcome (a0_0 : Int) (a0_1 : Int) (a0_2 : Int) (a0_3 : ByteArray) (a0_4 : Int) : Prop := Sm_Value a0_1 a0_2 a0_3 ∧ True
theorem sz_Outcome (a0_0 : Int) (a0_1 : Int) (a0_2 : Int) (a0_3 : ByteArray) (a0_4 : Int) (h_a0_3 : a0_3.size ≤ maxLen) : Szs (fun k v => laws_szOutcome.f a0_0 a0_1 a0_2 a0_3 a0_4 v) (Sm_Outcome a0_0 a0_1 a0_2 a0_3 a0_4) := by
  unfold laws_szOutcome.f Sm_Outcome
  exact (Szs.seq (sz_Value a0_1 a0_2 a0_3 h_a0_3) Szs.done)

def Sm_ValueS (l0 : List (S23)) : Prop := l0.length ≤ 1048576 ∧ ∀ x ∈ l0, Sm_Value x.f0 x.f1 x.f2
theorem sz_ValueS (l0 : List (S23)) (h : (l0.length ≤ maxLen ∧ ∀ y ∈ l0, G23 y)) : Szs (fun k v => laws_szValueS.f k l0 v) (Sm_ValueS l0) := Szs.list (l0 := laws_szValueS.l0) (fun k x v => laws_szValue.f x.f0 x.f1 x.f2 v) z23 l0 (Nat.le_trans h.1 (by decide)) (fun _ _ _ => rfl) (fun x hx => sz_Value x.f0 x.f1 x.f2 (h.2 x hx).2.2)

def Sm_TryS (l0 : List (S99)) : Prop := l0.length ≤ 1048576 ∧ True
theorem sz_TryS (l0 : List (S99)) (h : (l0.length ≤ maxLen ∧ ∀ y ∈ l0, G99 y)) : Szs (fun k v => laws_szTryS.f l0 v) (Sm_TryS l0) := Szs.cut l0.length (Nat.le_trans h.1 (by decide)) Szs.done

def Sm_CallFrame (a0_0 : Int) (a0_1 : Int) (l0_2 : List (S23)) (l0_3 : List (S23)) (l0_4 : List (S99)) : Prop := Sm_ValueS l0_2 ∧ Sm_ValueS l0_3 ∧ Sm_TryS l0_4 ∧ True
theorem sz_CallFrame (a0_0 : Int) (a0_1 : Int) (l0_2 : List (S23)) (l0_3 : List (S23)) (l0_4 : List (S99)) (h_l0_2 : (l0_2.length ≤ maxLen ∧ ∀ y ∈ l0_2, G23 y)) (h_l0_3 : (l0_3.length ≤ maxLen ∧ ∀ y ∈ l0_3, G23 y)) (h_l0_4 : (l0_4.length ≤ maxLen ∧ ∀ y ∈ l0_4, G99 y)) : Szs (fun k v => laws_szCallFrame.f k a0_0 a0_1 l0_2 l0_3 l0_4 v) (Sm_CallFrame a0_0 a0_1 l0_2 l0_3 l0_4) := by
  unfold laws_szCallFrame.f Sm_CallFrame
  exact (Szs.seq (sz_ValueS l0_2 h_l0_2) (Szs.seq (sz_ValueS l0_3 h_l0_3) (Szs.seq (sz_TryS l0_4 h_l0_4) Szs.done)))

def Sm_CallFrameS (l0 : List (S82)) : Prop := l0.length ≤ 1048576 ∧ ∀ x ∈ l0, Sm_CallFrame x.f0 x.f1 x.f2 x.f3 x.f4
theorem sz_CallFrameS (l0 : List (S82)) (h : (l0.length ≤ maxLen ∧ ∀ y ∈ l0, G82 y)) : Szs (fun k v => laws_szCallFrameS.f k l0 v) (Sm_CallFrameS l0) := Szs.list (l0 := laws_szCallFrameS.l0) (fun k x v => laws_szCallFrame.f k x.f0 x.f1 x.f2 x.f3 x.f4 v) z82 l0 (Nat.le_trans h.1 (by decide)) (fun _ _ _ => rfl) (fun x hx => sz_CallFrame x.f0 x.f1 x.f2 x.f3 x.f4 (h.2 x hx).2.2.1 (h.2 x hx).2.2.2.1 (h.2 x hx).2.2.2.2)

def Sm_Machine (l0_0 : List (S82)) (a0_1 : Int) (a0_2 : Int) (a0_3 : Int) (a0_4 : ByteArray) (a0_5 : Int) : Prop := Sm_CallFrameS l0_0 ∧ Sm_Value a0_2 a0_3 a0_4 ∧ True
theorem sz_Machine (l0_0 : List (S82)) (a0_1 : Int) (a0_2 : Int) (a0_3 : Int) (a0_4 : ByteArray) (a0_5 : Int) (h_l0_0 : (l0_0.length ≤ maxLen ∧ ∀ y ∈ l0_0, G82 y)) (h_a0_4 : a0_4.size ≤ maxLen) : Szs (fun k v => laws_szMachine.f k l0_0 a0_1 a0_2 a0_3 a0_4 a0_5 v) (Sm_Machine l0_0 a0_1 a0_2 a0_3 a0_4 a0_5) := by
  unfold laws_szMachine.f Sm_Machine
  exact (Szs.seq (sz_CallFrameS l0_0 h_l0_0) (Szs.seq (sz_Value a0_2 a0_3 a0_4 h_a0_4) Szs.done))

def g_Value (a0_0 : Int) (a0_1 : Int) (a0_2 : ByteArray) : Int × Int × ByteArray := (a0_0, a0_1, a0_2)
theorem to_Value (a0_0 : Int) (a0_1 : Int) (a0_2 : ByteArray) (hs : Sm_Value a0_0 a0_1 a0_2) : Tos (fun k => laws_toValue.f a0_0 a0_1 a0_2) (g_Value a0_0 a0_1 a0_2) := by
  unfold laws_toValue.f
  exact (Tos.pure _)

def g_Outcome (a0_0 : Int) (a0_1 : Int) (a0_2 : Int) (a0_3 : ByteArray) (a0_4 : Int) : Int × Int × Int × ByteArray × Int := let bt124 := g_Value a0_1 a0_2 a0_3; (a0_0, bt124.1, bt124.2.1, bt124.2.2, a0_4)
theorem to_Outcome (a0_0 : Int) (a0_1 : Int) (a0_2 : Int) (a0_3 : ByteArray) (a0_4 : Int) (hs : Sm_Outcome a0_0 a0_1 a0_2 a0_3 a0_4) : Tos (fun k => laws_toOutcome.f a0_0 a0_1 a0_2 a0_3 a0_4) (g_Outcome a0_0 a0_1 a0_2 a0_3 a0_4) := by
  unfold laws_toOutcome.f
  exact (Tos.bind (to_Value a0_1 a0_2 a0_3 hs.1) (Tos.pure _))

def g_ValueS (l0 : List (S23)) : List S27 := l0.map fun x => (fun bt131 => (⟨bt131.1, bt131.2.1, bt131.2.2⟩ : S27)) (g_Value x.f0 x.f1 x.f2)
theorem to_ValueS (l0 : List (S23)) (h : Sm_ValueS l0) : Tos (fun k => laws_toValueS.f k l0) (g_ValueS l0) := Tos.list (l0 := laws_toValueS.l0) (fun k x => laws_toValue.f x.f0 x.f1 x.f2) (fun x => g_Value x.f0 x.f1 x.f2) (fun bt131 => (⟨bt131.1, bt131.2.1, bt131.2.2⟩ : S27)) z23 z27 8796093022208 l0 h.1 (by decide) (fun _ _ _ => rfl) (fun x hx => to_Value x.f0 x.f1 x.f2 (h.2 x hx))

def g_Try (a0_0 : Int) (a0_1 : Int) : Int × Int := (a0_0, a0_1)
theorem to_Try (a0_0 : Int) (a0_1 : Int) : Tos (fun k => laws_toTry.f a0_0 a0_1) (g_Try a0_0 a0_1) := by
  unfold laws_toTry.f
  exact (Tos.pure _)

def g_TryS (l0 : List (S99)) : List S97 := l0.map fun x => (fun bt142 => (⟨bt142.1, bt142.2⟩ : S97)) (g_Try x.f0 x.f1)
theorem to_TryS (l0 : List (S99)) (h : Sm_TryS l0) : Tos (fun k => laws_toTryS.f k l0) (g_TryS l0) := Tos.list (l0 := laws_toTryS.l0) (fun k x => laws_toTry.f x.f0 x.f1) (fun x => g_Try x.f0 x.f1) (fun bt142 => (⟨bt142.1, bt142.2⟩ : S97)) z99 z97 17592186044416 l0 h.1 (by decide) (fun _ _ _ => rfl) (fun x hx => to_Try x.f0 x.f1)

def g_CallFrame (a0_0 : Int) (a0_1 : Int) (l0_2 : List (S23)) (l0_3 : List (S23)) (l0_4 : List (S99)) : Int × Int × (List (S27)) × (List (S27)) × (List (S97)) := let t148 := g_ValueS l0_2; let t151 := g_ValueS l0_3; let t154 := g_TryS l0_4; (a0_0, a0_1, t148, t151, t154)
theorem to_CallFrame (a0_0 : Int) (a0_1 : Int) (l0_2 : List (S23)) (l0_3 : List (S23)) (l0_4 : List (S99)) (hs : Sm_CallFrame a0_0 a0_1 l0_2 l0_3 l0_4) : Tos (fun k => laws_toCallFrame.f k a0_0 a0_1 l0_2 l0_3 l0_4) (g_CallFrame a0_0 a0_1 l0_2 l0_3 l0_4) := by
  unfold laws_toCallFrame.f
  exact (Tos.bind (to_ValueS l0_2 hs.1) (Tos.bind (to_ValueS l0_3 hs.2.1) (Tos.bind (to_TryS l0_4 hs.2.2.1) (Tos.pure _))))

def g_CallFrameS (l0 : List (S82)) : List S86 := l0.map fun x => (fun bt161 => (⟨bt161.1, bt161.2.1, bt161.2.2.1, bt161.2.2.2.1, bt161.2.2.2.2⟩ : S86)) (g_CallFrame x.f0 x.f1 x.f2 x.f3 x.f4)
theorem to_CallFrameS (l0 : List (S82)) (h : Sm_CallFrameS l0) : Tos (fun k => laws_toCallFrameS.f k l0) (g_CallFrameS l0) := Tos.list (l0 := laws_toCallFrameS.l0) (fun k x => laws_toCallFrame.f k x.f0 x.f1 x.f2 x.f3 x.f4) (fun x => g_CallFrame x.f0 x.f1 x.f2 x.f3 x.f4) (fun bt161 => (⟨bt161.1, bt161.2.1, bt161.2.2.1, bt161.2.2.2.1, bt161.2.2.2.2⟩ : S86)) z82 z86 3198579280802 l0 h.1 (by decide) (fun _ _ _ => rfl) (fun x hx => to_CallFrame x.f0 x.f1 x.f2 x.f3 x.f4 (h.2 x hx))

def g_Machine (l0_0 : List (S82)) (a0_1 : Int) (a0_2 : Int) (a0_3 : Int) (a0_4 : ByteArray) (a0_5 : Int) : (List (S86)) × Int × Int × Int × ByteArray × Int := let t176 := g_CallFrameS l0_0; let bt179 := g_Value a0_2 a0_3 a0_4; (t176, a0_1, bt179.1, bt179.2.1, bt179.2.2, a0_5)
theorem to_Machine (l0_0 : List (S82)) (a0_1 : Int) (a0_2 : Int) (a0_3 : Int) (a0_4 : ByteArray) (a0_5 : Int) (hs : Sm_Machine l0_0 a0_1 a0_2 a0_3 a0_4 a0_5) : Tos (fun k => laws_toMachine.f k l0_0 a0_1 a0_2 a0_3 a0_4 a0_5) (g_Machine l0_0 a0_1 a0_2 a0_3 a0_4 a0_5) := by
  unfold laws_toMachine.f
  exact (Tos.bind (to_CallFrameS l0_0 hs.1) (Tos.bind (to_Value a0_2 a0_3 a0_4 hs.2.1) (Tos.pure _)))

def EL_Value (a0_0 : Int) (a0_1 : Int) (a0_2 : ByteArray) : Prop := True
theorem eq_Value (a0_0 : Int) (a0_1 : Int) (a0_2 : ByteArray) (h : EL_Value a0_0 a0_1 a0_2) : Tos (fun k => laws_eqValue.f a0_0 a0_1 a0_2 a0_0 a0_1 a0_2) true := by
  unfold laws_eqValue.f
  exact (Tos.eq (Tos.eq (Tos.eq (Tos.pure true))))
theorem el_Value (a0_0 : Int) (a0_1 : Int) (a0_2 : ByteArray) (hs : Sm_Value a0_0 a0_1 a0_2) : EL_Value (g_Value a0_0 a0_1 a0_2).1 (g_Value a0_0 a0_1 a0_2).2.1 (g_Value a0_0 a0_1 a0_2).2.2 := trivial

def EL_ValueS (l : List (S27)) : Prop := l.length ≤ 2305843009213693952 ∧ ∀ x ∈ l, EL_Value x.f0 x.f1 x.f2
theorem eq_ValueS (l : List (S27)) (h : EL_ValueS l) : Tos (fun k => laws_eqValueS.f k l l) true := Tos.eqs (l0 := laws_eqValueS.l0) (fun k x => laws_eqValue.f x.f0 x.f1 x.f2 x.f0 x.f1 x.f2) z27 l h.1 (fun _ _ => rfl) (fun x hx => eq_Value x.f0 x.f1 x.f2 (h.2 x hx))
theorem el_ValueS (l : List S23) (h : Sm_ValueS l) : EL_ValueS (g_ValueS l) := ⟨by unfold g_ValueS; rw [List.length_map]; have := h.1; omega, fun y hy => by
  obtain ⟨x, hx, rfl⟩ := List.mem_map.mp hy
  exact el_Value x.f0 x.f1 x.f2 (h.2 x hx)⟩

def EL_Try (a0_0 : Int) (a0_1 : Int) : Prop := True
theorem eq_Try (a0_0 : Int) (a0_1 : Int) (h : EL_Try a0_0 a0_1) : Tos (fun k => laws_eqTry.f a0_0 a0_1 a0_0 a0_1) true := by
  unfold laws_eqTry.f
  exact (Tos.eq (Tos.eq (Tos.pure true)))
theorem el_Try (a0_0 : Int) (a0_1 : Int) : EL_Try (g_Try a0_0 a0_1).1 (g_Try a0_0 a0_1).2 := trivial

def EL_TryS (l : List (S97)) : Prop := l.length ≤ 2305843009213693952 ∧ ∀ x ∈ l, EL_Try x.f0 x.f1
theorem eq_TryS (l : List (S97)) (h : EL_TryS l) : Tos (fun k => laws_eqTryS.f k l l) true := Tos.eqs (l0 := laws_eqTryS.l0) (fun k x => laws_eqTry.f x.f0 x.f1 x.f0 x.f1) z97 l h.1 (fun _ _ => rfl) (fun x hx => eq_Try x.f0 x.f1 (h.2 x hx))
theorem el_TryS (l : List S99) (h : Sm_TryS l) : EL_TryS (g_TryS l) := ⟨by unfold g_TryS; rw [List.length_map]; have := h.1; omega, fun y hy => by
  obtain ⟨x, hx, rfl⟩ := List.mem_map.mp hy
  exact el_Try x.f0 x.f1⟩

def EL_CallFrame (a0_0 : Int) (a0_1 : Int) (l0_2 : List (S27)) (l0_3 : List (S27)) (l0_4 : List (S97)) : Prop := EL_ValueS l0_2 ∧ EL_ValueS l0_3 ∧ EL_TryS l0_4 ∧ True
theorem eq_CallFrame (a0_0 : Int) (a0_1 : Int) (l0_2 : List (S27)) (l0_3 : List (S27)) (l0_4 : List (S97)) (h : EL_CallFrame a0_0 a0_1 l0_2 l0_3 l0_4) : Tos (fun k => laws_eqCallFrame.f k a0_0 a0_1 l0_2 l0_3 l0_4 a0_0 a0_1 l0_2 l0_3 l0_4) true := by
  unfold laws_eqCallFrame.f
  exact (Tos.eq (Tos.eq (Tos.yes (eq_ValueS l0_2 h.1) (Tos.yes (eq_ValueS l0_3 h.2.1) (Tos.yes (eq_TryS l0_4 h.2.2.1) (Tos.pure true))))))
theorem el_CallFrame (a0_0 : Int) (a0_1 : Int) (l0_2 : List (S23)) (l0_3 : List (S23)) (l0_4 : List (S99)) (hs : Sm_CallFrame a0_0 a0_1 l0_2 l0_3 l0_4) : EL_CallFrame (g_CallFrame a0_0 a0_1 l0_2 l0_3 l0_4).1 (g_CallFrame a0_0 a0_1 l0_2 l0_3 l0_4).2.1 (g_CallFrame a0_0 a0_1 l0_2 l0_3 l0_4).2.2.1 (g_CallFrame a0_0 a0_1 l0_2 l0_3 l0_4).2.2.2.1 (g_CallFrame a0_0 a0_1 l0_2 l0_3 l0_4).2.2.2.2 := ⟨el_ValueS l0_2 hs.1, el_ValueS l0_3 hs.2.1, el_TryS l0_4 hs.2.2.1, trivial⟩

def EL_CallFrameS (l : List (S86)) : Prop := l.length ≤ 2305843009213693952 ∧ ∀ x ∈ l, EL_CallFrame x.f0 x.f1 x.f2 x.f3 x.f4
theorem eq_CallFrameS (l : List (S86)) (h : EL_CallFrameS l) : Tos (fun k => laws_eqCallFrameS.f k l l) true := Tos.eqs (l0 := laws_eqCallFrameS.l0) (fun k x => laws_eqCallFrame.f k x.f0 x.f1 x.f2 x.f3 x.f4 x.f0 x.f1 x.f2 x.f3 x.f4) z86 l h.1 (fun _ _ => rfl) (fun x hx => eq_CallFrame x.f0 x.f1 x.f2 x.f3 x.f4 (h.2 x hx))
theorem el_CallFrameS (l : List S82) (h : Sm_CallFrameS l) : EL_CallFrameS (g_CallFrameS l) := ⟨by unfold g_CallFrameS; rw [List.length_map]; have := h.1; omega, fun y hy => by
  obtain ⟨x, hx, rfl⟩ := List.mem_map.mp hy
  exact el_CallFrame x.f0 x.f1 x.f2 x.f3 x.f4 (h.2 x hx)⟩

def EL_Machine (l0_0 : List (S86)) (a0_1 : Int) (a0_2 : Int) (a0_3 : Int) (a0_4 : ByteArray) (a0_5 : Int) : Prop := EL_CallFrameS l0_0 ∧ EL_Value a0_2 a0_3 a0_4 ∧ True
theorem eq_Machine (l0_0 : List (S86)) (a0_1 : Int) (a0_2 : Int) (a0_3 : Int) (a0_4 : ByteArray) (a0_5 : Int) (h : EL_Machine l0_0 a0_1 a0_2 a0_3 a0_4 a0_5) : Tos (fun k => laws_eqMachine.f k l0_0 a0_1 a0_2 a0_3 a0_4 a0_5 l0_0 a0_1 a0_2 a0_3 a0_4 a0_5) true := by
  unfold laws_eqMachine.f
  exact (Tos.yes (eq_CallFrameS l0_0 h.1) (Tos.eq (Tos.yes (eq_Value a0_2 a0_3 a0_4 h.2.1) (Tos.eq (Tos.pure true)))))
theorem el_Machine (l0_0 : List (S82)) (a0_1 : Int) (a0_2 : Int) (a0_3 : Int) (a0_4 : ByteArray) (a0_5 : Int) (hs : Sm_Machine l0_0 a0_1 a0_2 a0_3 a0_4 a0_5) : EL_Machine (g_Machine l0_0 a0_1 a0_2 a0_3 a0_4 a0_5).1 (g_Machine l0_0 a0_1 a0_2 a0_3 a0_4 a0_5).2.1 (g_Machine l0_0 a0_1 a0_2 a0_3 a0_4 a0_5).2.2.1 (g_Machine l0_0 a0_1 a0_2 a0_3 a0_4 a0_5).2.2.2.1 (g_Machine l0_0 a0_1 a0_2 a0_3 a0_4 a0_5).2.2.2.2.1 (g_Machine l0_0 a0_1 a0_2 a0_3 a0_4 a0_5).2.2.2.2.2 := ⟨el_CallFrameS l0_0 hs.1, el_Value a0_2 a0_3 a0_4 hs.2.1, trivial⟩

end Go.Proofs.Ythclofmcinknlaa.FamFnExactSameOutcome
