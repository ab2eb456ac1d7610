/- The families (bulk, copy, comparison) of the law FnExactJobReply over plain data; no condition. -/
import Derived.Test.YthclofmcinknlaaDoorFam
import Derived.Test.YthclofmcinknlaaDoorGoalFnExactJobReply
set_option linter.unusedVariables false
namespace Go.Proofs.YthclofmcinknlaaDoor.FamFnExactJobReply
open Go.RowKit Go.Proofs.YthclofmcinknlaaDoor.QFnExactJobReply Go.Proofs.YthclofmcinknlaaDoorW.PrintWords Go.Proofs.YthclofmcinknlaaDoorW.PrintLast Go.Proofs.YthclofmcinknlaaDoor.GoalFnExactJobReply Go.Proofs.YthclofmcinknlaaDoor Go.Proofs.YthclofmcinknlaaDoor.Fam

def Sm_Value (a0_0 : Int) (a0_1 : Int) (a0_2 : ByteArray) : Prop := a0_2.size ≤ 1048576 ∧ True
theorem sz_Value (a0_0 : Int) (a0_1 : Int) (a0_2 : ByteArray) (h_a0_2 : a0_2.size ≤ maxLen) : Szs (fun k v => laws_szValue.f a0_0 a0_1 a0_2 v) (Sm_Value a0_0 a0_1 a0_2) := by
  unfold laws_szValue.f Sm_Value
  exact (Szs.cut a0_2.size (Nat.le_trans h_a0_2 (by decide)) Szs.done)

def Sm_ValueS (l0 : List (S26)) : Prop := l0.length ≤ 1048576 ∧ ∀ x ∈ l0, Sm_Value x.f0 x.f1 x.f2
theorem sz_ValueS (l0 : List (S26)) (h : (l0.length ≤ maxLen ∧ ∀ y ∈ l0, G26 y)) : Szs (fun k v => laws_szValueS.f k l0 v) (Sm_ValueS l0) := Szs.list (l0 := laws_szValueS.l0) (fun k x v => laws_szValue.f x.f0 x.f1 x.f2 v) z26 l0 (Nat.le_trans h.1 (by decide)) (fun _ _ _ => rfl) (fun x hx => sz_Value x.f0 x.f1 x.f2 (h.2 x hx).2.2)

def Sm_TryS (l0 : List (S127)) : Prop := l0.length ≤ 1048576 ∧ True
theorem sz_TryS (l0 : List (S127)) (h : (l0.length ≤ maxLen ∧ ∀ y ∈ l0, G127 y)) : Szs (fun k v => laws_szTryS.f l0 v) (Sm_TryS l0) := Szs.cut l0.length (Nat.le_trans h.1 (by decide)) Szs.done

def Sm_CallFrame (a0_0 : Int) (a0_1 : Int) (l0_2 : List (S26)) (l0_3 : List (S26)) (l0_4 : List (S127)) : Prop := Sm_ValueS l0_2 ∧ Sm_ValueS l0_3 ∧ Sm_TryS l0_4 ∧ True
theorem sz_CallFrame (a0_0 : Int) (a0_1 : Int) (l0_2 : List (S26)) (l0_3 : List (S26)) (l0_4 : List (S127)) (h_l0_2 : (l0_2.length ≤ maxLen ∧ ∀ y ∈ l0_2, G26 y)) (h_l0_3 : (l0_3.length ≤ maxLen ∧ ∀ y ∈ l0_3, G26 y)) (h_l0_4 : (l0_4.length ≤ maxLen ∧ ∀ y ∈ l0_4, G127 y)) : Szs (fun k v => laws_szCallFrame.f k a0_0 a0_1 l0_2 l0_3 l0_4 v) (Sm_CallFrame a0_0 a0_1 l0_2 l0_3 l0_4) := by
  unfold laws_szCallFrame.f Sm_CallFrame
  exact (Szs.seq (sz_ValueS l0_2 h_l0_2) (Szs.seq (sz_ValueS l0_3 h_l0_3) (Szs.seq (sz_TryS l0_4 h_l0_4) Szs.done)))

def Sm_CallFrameS (l0 : List (S110)) : Prop := l0.length ≤ 1048576 ∧ ∀ x ∈ l0, Sm_CallFrame x.f0 x.f1 x.f2 x.f3 x.f4
theorem sz_CallFrameS (l0 : List (S110)) (h : (l0.length ≤ maxLen ∧ ∀ y ∈ l0, G110 y)) : Szs (fun k v => laws_szCallFrameS.f k l0 v) (Sm_CallFrameS l0) := Szs.list (l0 := laws_szCallFrameS.l0) (fun k x v => laws_szCallFrame.f k x.f0 x.f1 x.f2 x.f3 x.f4 v) z110 l0 (Nat.le_trans h.1 (by decide)) (fun _ _ _ => rfl) (fun x hx => sz_CallFrame x.f0 x.f1 x.f2 x.f3 x.f4 (h.2 x hx).2.2.1 (h.2 x hx).2.2.2.1 (h.2 x hx).2.2.2.2)

def Sm_Machine (l0_0 : List (S110)) (a0_1 : Int) (a0_2 : Int) (a0_3 : Int) (a0_4 : ByteArray) (a0_5 : Int) : Prop := Sm_CallFrameS l0_0 ∧ Sm_Value a0_2 a0_3 a0_4 ∧ True
theorem sz_Machine (l0_0 : List (S110)) (a0_1 : Int) (a0_2 : Int) (a0_3 : Int) (a0_4 : ByteArray) (a0_5 : Int) (h_l0_0 : (l0_0.length ≤ maxLen ∧ ∀ y ∈ l0_0, G110 y)) (h_a0_4 : a0_4.size ≤ maxLen) : Szs (fun k v => laws_szMachine.f k l0_0 a0_1 a0_2 a0_3 a0_4 a0_5 v) (Sm_Machine l0_0 a0_1 a0_2 a0_3 a0_4 a0_5) := by
  unfold laws_szMachine.f Sm_Machine
  exact (Szs.seq (sz_CallFrameS l0_0 h_l0_0) (Szs.seq (sz_Value a0_2 a0_3 a0_4 h_a0_4) Szs.done))

def Sm_Job (a0_0 : Int) (a0_1 : Int) (a0_2 : Int) (a0_3 : ByteArray) (a0_4 : Int) (a0_5 : Bool) (l0_6 : List (S110)) (a0_7 : Int) (a0_8 : Int) (a0_9 : Int) (a0_10 : ByteArray) (a0_11 : Int) : Prop := a0_3.size ≤ 1048576 ∧ Sm_Machine l0_6 a0_7 a0_8 a0_9 a0_10 a0_11 ∧ True
theorem sz_Job (a0_0 : Int) (a0_1 : Int) (a0_2 : Int) (a0_3 : ByteArray) (a0_4 : Int) (a0_5 : Bool) (l0_6 : List (S110)) (a0_7 : Int) (a0_8 : Int) (a0_9 : Int) (a0_10 : ByteArray) (a0_11 : Int) (h_a0_3 : a0_3.size ≤ maxLen) (h_l0_6 : (l0_6.length ≤ maxLen ∧ ∀ y ∈ l0_6, G110 y)) (h_a0_10 : a0_10.size ≤ maxLen) : Szs (fun k v => laws_szJob.f k a0_0 a0_1 a0_2 a0_3 a0_4 a0_5 l0_6 a0_7 a0_8 a0_9 a0_10 a0_11 v) (Sm_Job a0_0 a0_1 a0_2 a0_3 a0_4 a0_5 l0_6 a0_7 a0_8 a0_9 a0_10 a0_11) := by
  unfold laws_szJob.f Sm_Job
  exact (Szs.cut a0_3.size (Nat.le_trans h_a0_3 (by decide)) (Szs.seq (sz_Machine l0_6 a0_7 a0_8 a0_9 a0_10 a0_11 h_l0_6 h_a0_10) Szs.done))

def g_Value (a0_0 : Int) (a0_1 : Int) (a0_2 : ByteArray) : Int × Int × ByteArray := (a0_0, a0_1, a0_2)
theorem to_Value (a0_0 : Int) (a0_1 : Int) (a0_2 : ByteArray) (hs : Sm_Value a0_0 a0_1 a0_2) : Tos (fun k => laws_toValue.f a0_0 a0_1 a0_2) (g_Value a0_0 a0_1 a0_2) := by
  unfold laws_toValue.f
  exact (Tos.pure _)

def g_ValueS (l0 : List (S26)) : List S29 := l0.map fun x => (fun bt144 => (⟨bt144.1, bt144.2.1, bt144.2.2⟩ : S29)) (g_Value x.f0 x.f1 x.f2)
theorem to_ValueS (l0 : List (S26)) (h : Sm_ValueS l0) : Tos (fun k => laws_toValueS.f k l0) (g_ValueS l0) := Tos.list (l0 := laws_toValueS.l0) (fun k x => laws_toValue.f x.f0 x.f1 x.f2) (fun x => g_Value x.f0 x.f1 x.f2) (fun bt144 => (⟨bt144.1, bt144.2.1, bt144.2.2⟩ : S29)) z26 z29 8796093022208 l0 h.1 (by decide) (fun _ _ _ => rfl) (fun x hx => to_Value x.f0 x.f1 x.f2 (h.2 x hx))

def g_Try (a0_0 : Int) (a0_1 : Int) : Int × Int := (a0_0, a0_1)
theorem to_Try (a0_0 : Int) (a0_1 : Int) : Tos (fun k => laws_toTry.f a0_0 a0_1) (g_Try a0_0 a0_1) := by
  unfold laws_toTry.f
  exact (Tos.pure _)

def g_TryS (l0 : List (S127)) : List S125 := l0.map fun x => (fun bt155 => (⟨bt155.1, bt155.2⟩ : S125)) (g_Try x.f0 x.f1)
theorem to_TryS (l0 : List (S127)) (h : Sm_TryS l0) : Tos (fun k => laws_toTryS.f k l0) (g_TryS l0) := Tos.list (l0 := laws_toTryS.l0) (fun k x => laws_toTry.f x.f0 x.f1) (fun x => g_Try x.f0 x.f1) (fun bt155 => (⟨bt155.1, bt155.2⟩ : S125)) z127 z125 17592186044416 l0 h.1 (by decide) (fun _ _ _ => rfl) (fun x hx => to_Try x.f0 x.f1)

def g_CallFrame (a0_0 : Int) (a0_1 : Int) (l0_2 : List (S26)) (l0_3 : List (S26)) (l0_4 : List (S127)) : Int × Int × (List (S29)) × (List (S29)) × (List (S125)) := let t161 := g_ValueS l0_2; let t164 := g_ValueS l0_3; let t167 := g_TryS l0_4; (a0_0, a0_1, t161, t164, t167)
theorem to_CallFrame (a0_0 : Int) (a0_1 : Int) (l0_2 : List (S26)) (l0_3 : List (S26)) (l0_4 : List (S127)) (hs : Sm_CallFrame a0_0 a0_1 l0_2 l0_3 l0_4) : Tos (fun k => laws_toCallFrame.f k a0_0 a0_1 l0_2 l0_3 l0_4) (g_CallFrame a0_0 a0_1 l0_2 l0_3 l0_4) := by
  unfold laws_toCallFrame.f
  exact (Tos.bind (to_ValueS l0_2 hs.1) (Tos.bind (to_ValueS l0_3 hs.2.1) (Tos.bind (to_TryS l0_4 hs.2.2.1) (Tos.pure _))))

def g_CallFrameS (l0 : List (S110)) : List S113 := l0.map fun x => (fun bt174 => (⟨bt174.1, bt174.2.1, bt174.2.2.1, bt174.2.2.2.1, bt174.2.2.2.2⟩ : S113)) (g_CallFrame x.f0 x.f1 x.f2 x.f3 x.f4)
theorem to_CallFrameS (l0 : List (S110)) (h : Sm_CallFrameS l0) : Tos (fun k => laws_toCallFrameS.f k l0) (g_CallFrameS l0) := Tos.list (l0 := laws_toCallFrameS.l0) (fun k x => laws_toCallFrame.f k x.f0 x.f1 x.f2 x.f3 x.f4) (fun x => g_CallFrame x.f0 x.f1 x.f2 x.f3 x.f4) (fun bt174 => (⟨bt174.1, bt174.2.1, bt174.2.2.1, bt174.2.2.2.1, bt174.2.2.2.2⟩ : S113)) z110 z113 3198579280802 l0 h.1 (by decide) (fun _ _ _ => rfl) (fun x hx => to_CallFrame x.f0 x.f1 x.f2 x.f3 x.f4 (h.2 x hx))

def g_Machine (l0_0 : List (S110)) (a0_1 : Int) (a0_2 : Int) (a0_3 : Int) (a0_4 : ByteArray) (a0_5 : Int) : (List (S113)) × Int × Int × Int × ByteArray × Int := let t189 := g_CallFrameS l0_0; let bt192 := g_Value a0_2 a0_3 a0_4; (t189, a0_1, bt192.1, bt192.2.1, bt192.2.2, a0_5)
theorem to_Machine (l0_0 : List (S110)) (a0_1 : Int) (a0_2 : Int) (a0_3 : Int) (a0_4 : ByteArray) (a0_5 : Int) (hs : Sm_Machine l0_0 a0_1 a0_2 a0_3 a0_4 a0_5) : Tos (fun k => laws_toMachine.f k l0_0 a0_1 a0_2 a0_3 a0_4 a0_5) (g_Machine l0_0 a0_1 a0_2 a0_3 a0_4 a0_5) := by
  unfold laws_toMachine.f
  exact (Tos.bind (to_CallFrameS l0_0 hs.1) (Tos.bind (to_Value a0_2 a0_3 a0_4 hs.2.1) (Tos.pure _)))

def g_Job (a0_0 : Int) (a0_1 : Int) (a0_2 : Int) (a0_3 : ByteArray) (a0_4 : Int) (a0_5 : Bool) (l0_6 : List (S110)) (a0_7 : Int) (a0_8 : Int) (a0_9 : Int) (a0_10 : ByteArray) (a0_11 : Int) : Int × Int × Int × ByteArray × Int × Bool × (List (S113)) × Int × Int × Int × ByteArray × Int := let bt198 := g_Machine l0_6 a0_7 a0_8 a0_9 a0_10 a0_11; (a0_0, a0_1, a0_2, a0_3, a0_4, a0_5, bt198.1, bt198.2.1, bt198.2.2.1, bt198.2.2.2.1, bt198.2.2.2.2.1, bt198.2.2.2.2.2)
theorem to_Job (a0_0 : Int) (a0_1 : Int) (a0_2 : Int) (a0_3 : ByteArray) (a0_4 : Int) (a0_5 : Bool) (l0_6 : List (S110)) (a0_7 : Int) (a0_8 : Int) (a0_9 : Int) (a0_10 : ByteArray) (a0_11 : Int) (hs : Sm_Job a0_0 a0_1 a0_2 a0_3 a0_4 a0_5 l0_6 a0_7 a0_8 a0_9 a0_10 a0_11) : Tos (fun k => laws_toJob.f k a0_0 a0_1 a0_2 a0_3 a0_4 a0_5 l0_6 a0_7 a0_8 a0_9 a0_10 a0_11) (g_Job a0_0 a0_1 a0_2 a0_3 a0_4 a0_5 l0_6 a0_7 a0_8 a0_9 a0_10 a0_11) := by
  unfold laws_toJob.f
  exact (Tos.bind (to_Machine l0_6 a0_7 a0_8 a0_9 a0_10 a0_11 hs.2.1) (Tos.pure _))

def EL_Value (a0_0 : Int) (a0_1 : Int) (a0_2 : ByteArray) : Prop := True
theorem eq_Value (a0_0 : Int) (a0_1 : Int) (a0_2 : ByteArray) (h : EL_Value a0_0 a0_1 a0_2) : Tos (fun k => laws_eqValue.f a0_0 a0_1 a0_2 a0_0 a0_1 a0_2) true := by
  unfold laws_eqValue.f
  exact (Tos.eq (Tos.eq (Tos.eq (Tos.pure true))))
theorem el_Value (a0_0 : Int) (a0_1 : Int) (a0_2 : ByteArray) (hs : Sm_Value a0_0 a0_1 a0_2) : EL_Value (g_Value a0_0 a0_1 a0_2).1 (g_Value a0_0 a0_1 a0_2).2.1 (g_Value a0_0 a0_1 a0_2).2.2 := trivial

def EL_ValueS (l : List (S29)) : Prop := l.length ≤ 2305843009213693952 ∧ ∀ x ∈ l, EL_Value x.f0 x.f1 x.f2
theorem eq_ValueS (l : List (S29)) (h : EL_ValueS l) : Tos (fun k => laws_eqValueS.f k l l) true := Tos.eqs (l0 := laws_eqValueS.l0) (fun k x => laws_eqValue.f x.f0 x.f1 x.f2 x.f0 x.f1 x.f2) z29 l h.1 (fun _ _ => rfl) (fun x hx => eq_Value x.f0 x.f1 x.f2 (h.2 x hx))
theorem el_ValueS (l : List S26) (h : Sm_ValueS l) : EL_ValueS (g_ValueS l) := ⟨by unfold g_ValueS; rw [List.length_map]; have := h.1; omega, fun y hy => by
  obtain ⟨x, hx, rfl⟩ := List.mem_map.mp hy
  exact el_Value x.f0 x.f1 x.f2 (h.2 x hx)⟩

def EL_Try (a0_0 : Int) (a0_1 : Int) : Prop := True
theorem eq_Try (a0_0 : Int) (a0_1 : Int) (h : EL_Try a0_0 a0_1) : Tos (fun k => laws_eqTry.f a0_0 a0_1 a0_0 a0_1) true := by
  unfold laws_eqTry.f
  exact (Tos.eq (Tos.eq (Tos.pure true)))
theorem el_Try (a0_0 : Int) (a0_1 : Int) : EL_Try (g_Try a0_0 a0_1).1 (g_Try a0_0 a0_1).2 := trivial

def EL_TryS (l : List (S125)) : Prop := l.length ≤ 2305843009213693952 ∧ ∀ x ∈ l, EL_Try x.f0 x.f1
theorem eq_TryS (l : List (S125)) (h : EL_TryS l) : Tos (fun k => laws_eqTryS.f k l l) true := Tos.eqs (l0 := laws_eqTryS.l0) (fun k x => laws_eqTry.f x.f0 x.f1 x.f0 x.f1) z125 l h.1 (fun _ _ => rfl) (fun x hx => eq_Try x.f0 x.f1 (h.2 x hx))
theorem el_TryS (l : List S127) (h : Sm_TryS l) : EL_TryS (g_TryS l) := ⟨by unfold g_TryS; rw [List.length_map]; have := h.1; omega, fun y hy => by
  obtain ⟨x, hx, rfl⟩ := List.mem_map.mp hy
  exact el_Try x.f0 x.f1⟩

def EL_CallFrame (a0_0 : Int) (a0_1 : Int) (l0_2 : List (S29)) (l0_3 : List (S29)) (l0_4 : List (S125)) : Prop := EL_ValueS l0_2 ∧ EL_ValueS l0_3 ∧ EL_TryS l0_4 ∧ True
theorem eq_CallFrame (a0_0 : Int) (a0_1 : Int) (l0_2 : List (S29)) (l0_3 : List (S29)) (l0_4 : List (S125)) (h : EL_CallFrame a0_0 a0_1 l0_2 l0_3 l0_4) : Tos (fun k => laws_eqCallFrame.f k a0_0 a0_1 l0_2 l0_3 l0_4 a0_0 a0_1 l0_2 l0_3 l0_4) true := by
  unfold laws_eqCallFrame.f
  exact (Tos.eq (Tos.eq (Tos.yes (eq_ValueS l0_2 h.1) (Tos.yes (eq_ValueS l0_3 h.2.1) (Tos.yes (eq_TryS l0_4 h.2.2.1) (Tos.pure true))))))
theorem el_CallFrame (a0_0 : Int) (a0_1 : Int) (l0_2 : List (S26)) (l0_3 : List (S26)) (l0_4 : List (S127)) (hs : Sm_CallFrame a0_0 a0_1 l0_2 l0_3 l0_4) : EL_CallFrame (g_CallFrame a0_0 a0_1 l0_2 l0_3 l0_4).1 (g_CallFrame a0_0 a0_1 l0_2 l0_3 l0_4).2.1 (g_CallFrame a0_0 a0_1 l0_2 l0_3 l0_4).2.2.1 (g_CallFrame a0_0 a0_1 l0_2 l0_3 l0_4).2.2.2.1 (g_CallFrame a0_0 a0_1 l0_2 l0_3 l0_4).2.2.2.2 := ⟨el_ValueS l0_2 hs.1, el_ValueS l0_3 hs.2.1, el_TryS l0_4 hs.2.2.1, trivial⟩

def EL_CallFrameS (l : List (S113)) : Prop := l.length ≤ 2305843009213693952 ∧ ∀ x ∈ l, EL_CallFrame x.f0 x.f1 x.f2 x.f3 x.f4
theorem eq_CallFrameS (l : List (S113)) (h : EL_CallFrameS l) : Tos (fun k => laws_eqCallFrameS.f k l l) true := Tos.eqs (l0 := laws_eqCallFrameS.l0) (fun k x => laws_eqCallFrame.f k x.f0 x.f1 x.f2 x.f3 x.f4 x.f0 x.f1 x.f2 x.f3 x.f4) z113 l h.1 (fun _ _ => rfl) (fun x hx => eq_CallFrame x.f0 x.f1 x.f2 x.f3 x.f4 (h.2 x hx))
theorem el_CallFrameS (l : List S110) (h : Sm_CallFrameS l) : EL_CallFrameS (g_CallFrameS l) := ⟨by unfold g_CallFrameS; rw [List.length_map]; have := h.1; omega, fun y hy => by
  obtain ⟨x, hx, rfl⟩ := List.mem_map.mp hy
  exact el_CallFrame x.f0 x.f1 x.f2 x.f3 x.f4 (h.2 x hx)⟩

def EL_Machine (l0_0 : List (S113)) (a0_1 : Int) (a0_2 : Int) (a0_3 : Int) (a0_4 : ByteArray) (a0_5 : Int) : Prop := EL_CallFrameS l0_0 ∧ EL_Value a0_2 a0_3 a0_4 ∧ True
theorem eq_Machine (l0_0 : List (S113)) (a0_1 : Int) (a0_2 : Int) (a0_3 : Int) (a0_4 : ByteArray) (a0_5 : Int) (h : EL_Machine l0_0 a0_1 a0_2 a0_3 a0_4 a0_5) : Tos (fun k => laws_eqMachine.f k l0_0 a0_1 a0_2 a0_3 a0_4 a0_5 l0_0 a0_1 a0_2 a0_3 a0_4 a0_5) true := by
  unfold laws_eqMachine.f
  exact (Tos.yes (eq_CallFrameS l0_0 h.1) (Tos.eq (Tos.yes (eq_Value a0_2 a0_3 a0_4 h.2.1) (Tos.eq (Tos.pure true)))))
theorem el_Machine (l0_0 : List (S110)) (a0_1 : Int) (a0_2 : Int) (a0_3 : Int) (a0_4 : ByteArray) (a0_5 : Int) (hs : Sm_Machine l0_0 a0_1 a0_2 a0_3 a0_4 a0_5) : EL_Machine (g_Machine l0_0 a0_1 a0_2 a0_3 a0_4 a0_5).1 (g_Machine l0_0 a0_1 a0_2 a0_3 a0_4 a0_5).2.1 (g_Machine l0_0 a0_1 a0_2 a0_3 a0_4 a0_5).2.2.1 (g_Machine l0_0 a0_1 a0_2 a0_3 a0_4 a0_5).2.2.2.1 (g_Machine l0_0 a0_1 a0_2 a0_3 a0_4 a0_5).2.2.2.2.1 (g_Machine l0_0 a0_1 a0_2 a0_3 a0_4 a0_5).2.2.2.2.2 := ⟨el_CallFrameS l0_0 hs.1, el_Value a0_2 a0_3 a0_4 hs.2.1, trivial⟩

def EL_Job (a0_0 : Int) (a0_1 : Int) (a0_2 : Int) (a0_3 : ByteArray) (a0_4 : Int) (a0_5 : Bool) (l0_6 : List (S113)) (a0_7 : Int) (a0_8 : Int) (a0_9 : Int) (a0_10 : ByteArray) (a0_11 : Int) : Prop := EL_Machine l0_6 a0_7 a0_8 a0_9 a0_10 a0_11 ∧ True
theorem eq_Job (a0_0 : Int) (a0_1 : Int) (a0_2 : Int) (a0_3 : ByteArray) (a0_4 : Int) (a0_5 : Bool) (l0_6 : List (S113)) (a0_7 : Int) (a0_8 : Int) (a0_9 : Int) (a0_10 : ByteArray) (a0_11 : Int) (h : EL_Job a0_0 a0_1 a0_2 a0_3 a0_4 a0_5 l0_6 a0_7 a0_8 a0_9 a0_10 a0_11) : Tos (fun k => laws_eqJob.f k a0_0 a0_1 a0_2 a0_3 a0_4 a0_5 l0_6 a0_7 a0_8 a0_9 a0_10 a0_11 a0_0 a0_1 a0_2 a0_3 a0_4 a0_5 l0_6 a0_7 a0_8 a0_9 a0_10 a0_11) true := by
  unfold laws_eqJob.f
  exact (Tos.eq (Tos.eq (Tos.eq (Tos.eq (Tos.eq (Tos.ne (Tos.yes (eq_Machine l0_6 a0_7 a0_8 a0_9 a0_10 a0_11 h.1) (Tos.pure true))))))))
theorem el_Job (a0_0 : Int) (a0_1 : Int) (a0_2 : Int) (a0_3 : ByteArray) (a0_4 : Int) (a0_5 : Bool) (l0_6 : List (S110)) (a0_7 : Int) (a0_8 : Int) (a0_9 : Int) (a0_10 : ByteArray) (a0_11 : Int) (hs : Sm_Job a0_0 a0_1 a0_2 a0_3 a0_4 a0_5 l0_6 a0_7 a0_8 a0_9 a0_10 a0_11) : EL_Job (g_Job a0_0 a0_1 a0_2 a0_3 a0_4 a0_5 l0_6 a0_7 a0_8 a0_9 a0_10 a0_11).1 (g_Job a0_0 a0_1 a0_2 a0_3 a0_4 a0_5 l0_6 a0_7 a0_8 a0_9 a0_10 a0_11).2.1 (g_Job a0_0 a0_1 a0_2 a0_3 a0_4 a0_5 l0_6 a0_7 a0_8 a0_9 a0_10 a0_11).2.2.1 (g_Job a0_0 a0_1 a0_2 a0_3 a0_4 a0_5 l0_6 a0_7 a0_8 a0_9 a0_10 a0_11).2.2.2.1 (g_Job a0_0 a0_1 a0_2 a0_3 a0_4 a0_5 l0_6 a0_7 a0_8 a0_9 a0_10 a0_11).2.2.2.2.1 (g_Job a0_0 a0_1 a0_2 a0_3 a0_4 a0_5 l0_6 a0_7 a0_8 a0_9 a0_10 a0_11).2.2.2.2.2.1 (g_Job a0_0 a0_1 a0_2 a0_3 a0_4 a0_5 l0_6 a0_7 a0_8 a0_9 a0_10 a0_11).2.2.2.2.2.2.1 (g_Job a0_0 a0_1 a0_2 a0_3 a0_4 a0_5 l0_6 a0_7 a0_8 a0_9 a0_10 a0_11).2.2.2.2.2.2.2.1 (g_Job a0_0 a0_1 a0_2 a0_3 a0_4 a0_5 l0_6 a0_7 a0_8 a0_9 a0_10 a0_11).2.2.2.2.2.2.2.2.1 (g_Job a0_0 a0_1 a0_2 a0_3 a0_4 a0_5 l0_6 a0_7 a0_8 a0_9 a0_10 a0_11).2.2.2.2.2.2.2.2.2.1 (g_Job a0_0 a0_1 a0_2 a0_3 a0_4 a0_5 l0_6 a0_7 a0_8 a0_9 a0_10 a0_11).2.2.2.2.2.2.2.2.2.2.1 (g_Job a0_0 a0_1 a0_2 a0_3 a0_4 a0_5 l0_6 a0_7 a0_8 a0_9 a0_10 a0_11).2.2.2.2.2.2.2.2.2.2.2 := ⟨el_Machine l0_6 a0_7 a0_8 a0_9 a0_10 a0_11 hs.2.1, trivial⟩

end Go.Proofs.YthclofmcinknlaaDoor.FamFnExactJobReply
