/- The law FnExactSameOutcome: what its arguments are, read as plain values; the pure statement. No condition beyond what every such argument meets. -/
import Derived.Test.YthclofmcinknlaaQFnExactSameOutcomex6
import Derived.Test.YthclofmcinknlaaOpens
namespace Go.Proofs.Ythclofmcinknlaa.GoalFnExactSameOutcome
open Go.RowKit Go.Proofs.Ythclofmcinknlaa.QFnExactSameOutcome Go.Proofs.YthclofmcinknlaaW.PrintWords Go.Proofs.YthclofmcinknlaaW.PrintLast Go.Proofs.Ythclofmcinknlaa

/-- What holds of a value of type 23. -/
def G23 (x : S23) : Prop := (Lit.int .i64 x.f0).wf = true ∧ (Lit.int .i64 x.f1).wf = true ∧ x.f2.size ≤ maxLen
theorem opens23 : Opn.Opens Try.prog k23 23 G23 := Opn.opens_iso (fun x : S23 => (x.f0, x.f1, x.f2)) (fun y => ⟨y.1, y.2.1, y.2.2⟩) (fun _ => rfl) (Opn.opens_struct Try.underlying23 (by kernel_rfl) (Opn.opensF_cons rfl (Opn.opens_int Try.underlying3 (by kernel_rfl)) (Opn.opensF_cons rfl (Opn.opens_int Try.underlying3 (by kernel_rfl)) (Opn.opensF_one rfl (Opn.opens_string Try.underlying9 (by kernel_rfl))))))

/-- What holds of a value of type 99. -/
def G99 (x : S99) : Prop := (Lit.int .i64 x.f0).wf = true ∧ (Lit.int .i64 x.f1).wf = true
theorem opens99 : Opn.Opens Try.prog k99 99 G99 := Opn.opens_iso (fun x : S99 => (x.f0, x.f1)) (fun y => ⟨y.1, y.2⟩) (fun _ => rfl) (Opn.opens_struct Try.underlying99 (by kernel_rfl) (Opn.opensF_cons rfl (Opn.opens_int Try.underlying3 (by kernel_rfl)) (Opn.opensF_one rfl (Opn.opens_int Try.underlying3 (by kernel_rfl)))))

/-- What holds of a value of type 82. -/
def G82 (x : S82) : Prop := (Lit.int .i64 x.f0).wf = true ∧ (Lit.int .i64 x.f1).wf = true ∧ (x.f2.length ≤ maxLen ∧ ∀ y ∈ x.f2, G23 y) ∧ (x.f3.length ≤ maxLen ∧ ∀ y ∈ x.f3, G23 y) ∧ (x.f4.length ≤ maxLen ∧ ∀ y ∈ x.f4, G99 y)
theorem opens82 : Opn.Opens Try.prog k82 82 G82 := Opn.opens_iso (fun x : S82 => (x.f0, x.f1, x.f2, x.f3, x.f4)) (fun y => ⟨y.1, y.2.1, y.2.2.1, y.2.2.2.1, y.2.2.2.2⟩) (fun _ => rfl) (Opn.opens_struct Try.underlying82 (by kernel_rfl) (Opn.opensF_cons rfl (Opn.opens_int Try.underlying3 (by kernel_rfl)) (Opn.opensF_cons rfl (Opn.opens_int Try.underlying3 (by kernel_rfl)) (Opn.opensF_cons rfl (Opn.opens_slice Try.underlying79 (by kernel_rfl) opens23) (Opn.opensF_cons rfl (Opn.opens_slice Try.underlying79 (by kernel_rfl) opens23) (Opn.opensF_one rfl (Opn.opens_slice Try.underlying80 (by kernel_rfl) opens99)))))))

/-- The pure statement. -/
def Pure : Prop := ∀ (a0_0 : Int) (a0_1 : Int) (a0_2 : Int) (a0_3 : ByteArray) (a0_4 : Int) (l1_0 : List S82) (a1_1 : Int) (a1_2 : Int) (a1_3 : Int) (a1_4 : ByteArray) (a1_5 : Int), (Lit.int .i64 a0_0).wf = true → (Lit.int .i64 a0_1).wf = true → (Lit.int .i64 a0_2).wf = true → a0_3.size ≤ maxLen → (Lit.int .i64 a0_4).wf = true → (l1_0.length ≤ maxLen ∧ ∀ y ∈ l1_0, G82 y) → (Lit.int .i64 a1_1).wf = true → (Lit.int .i64 a1_2).wf = true → (Lit.int .i64 a1_3).wf = true → a1_4.size ≤ maxLen → (Lit.int .i64 a1_5).wf = true → ∃ k, laws_FnExactSameOutcome.f k a0_0 a0_1 a0_2 a0_3 a0_4 l1_0 a1_1 a1_2 a1_3 a1_4 a1_5 = some true

end Go.Proofs.Ythclofmcinknlaa.GoalFnExactSameOutcome
