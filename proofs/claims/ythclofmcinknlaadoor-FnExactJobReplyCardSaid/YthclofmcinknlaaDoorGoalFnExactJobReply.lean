/- The law FnExactJobReply: what its arguments are, read as plain values; the pure statement. No condition beyond what every such argument meets. -/
import Derived.Test.YthclofmcinknlaaDoorQFnExactJobReplyx8
import Derived.Test.YthclofmcinknlaaDoorOpens
namespace Go.Proofs.YthclofmcinknlaaDoor.GoalFnExactJobReply
open Go.RowKit Go.Proofs.YthclofmcinknlaaDoor.QFnExactJobReply Go.Proofs.YthclofmcinknlaaDoorW.PrintWords Go.Proofs.YthclofmcinknlaaDoorW.PrintLast Go.Proofs.YthclofmcinknlaaDoor

/-- What holds of a value of type 26. -/
def G26 (x : S26) : Prop := (Lit.int .i64 x.f0).wf = true ∧ (Lit.int .i64 x.f1).wf = true ∧ x.f2.size ≤ maxLen
theorem opens26 : Opn.Opens Tryd.prog k26 26 G26 := Opn.opens_iso (fun x : S26 => (x.f0, x.f1, x.f2)) (fun y => ⟨y.1, y.2.1, y.2.2⟩) (fun _ => rfl) (Opn.opens_struct Tryd.underlying26 (by kernel_rfl) (Opn.opensF_cons rfl (Opn.opens_int Tryd.underlying3 (by kernel_rfl)) (Opn.opensF_cons rfl (Opn.opens_int Tryd.underlying3 (by kernel_rfl)) (Opn.opensF_one rfl (Opn.opens_string Tryd.underlying9 (by kernel_rfl))))))

/-- What holds of a value of type 127. -/
def G127 (x : S127) : Prop := (Lit.int .i64 x.f0).wf = true ∧ (Lit.int .i64 x.f1).wf = true
theorem opens127 : Opn.Opens Tryd.prog k127 127 G127 := Opn.opens_iso (fun x : S127 => (x.f0, x.f1)) (fun y => ⟨y.1, y.2⟩) (fun _ => rfl) (Opn.opens_struct Tryd.underlying127 (by kernel_rfl) (Opn.opensF_cons rfl (Opn.opens_int Tryd.underlying3 (by kernel_rfl)) (Opn.opensF_one rfl (Opn.opens_int Tryd.underlying3 (by kernel_rfl)))))

/-- What holds of a value of type 110. -/
def G110 (x : S110) : Prop := (Lit.int .i64 x.f0).wf = true ∧ (Lit.int .i64 x.f1).wf = true ∧ (x.f2.length ≤ maxLen ∧ ∀ y ∈ x.f2, G26 y) ∧ (x.f3.length ≤ maxLen ∧ ∀ y ∈ x.f3, G26 y) ∧ (x.f4.length ≤ maxLen ∧ ∀ y ∈ x.f4, G127 y)
theorem opens110 : Opn.Opens Tryd.prog k110 110 G110 := Opn.opens_iso (fun x : S110 => (x.f0, x.f1, x.f2, x.f3, x.f4)) (fun y => ⟨y.1, y.2.1, y.2.2.1, y.2.2.2.1, y.2.2.2.2⟩) (fun _ => rfl) (Opn.opens_struct Tryd.underlying110 (by kernel_rfl) (Opn.opensF_cons rfl (Opn.opens_int Tryd.underlying3 (by kernel_rfl)) (Opn.opensF_cons rfl (Opn.opens_int Tryd.underlying3 (by kernel_rfl)) (Opn.opensF_cons rfl (Opn.opens_slice Tryd.underlying48 (by kernel_rfl) opens26) (Opn.opensF_cons rfl (Opn.opens_slice Tryd.underlying48 (by kernel_rfl) opens26) (Opn.opensF_one rfl (Opn.opens_slice Tryd.underlying108 (by kernel_rfl) opens127)))))))

/-- The pure statement. -/
def Pure : Prop := ∀ (a0_0 : Int) (a0_1 : Int) (a0_2 : Int) (a0_3 : ByteArray) (a0_4 : Int) (a0_5 : Bool) (l0_6 : List S110) (a0_7 : Int) (a0_8 : Int) (a0_9 : Int) (a0_10 : ByteArray) (a0_11 : Int), (Lit.int .i64 a0_0).wf = true → (Lit.int .i64 a0_1).wf = true → (Lit.int .i64 a0_2).wf = true → a0_3.size ≤ maxLen → (Lit.int .i64 a0_4).wf = true → (l0_6.length ≤ maxLen ∧ ∀ y ∈ l0_6, G110 y) → (Lit.int .i64 a0_7).wf = true → (Lit.int .i64 a0_8).wf = true → (Lit.int .i64 a0_9).wf = true → a0_10.size ≤ maxLen → (Lit.int .i64 a0_11).wf = true → ∃ k, laws_FnExactJobReply.f k a0_0 a0_1 a0_2 a0_3 a0_4 a0_5 l0_6 a0_7 a0_8 a0_9 a0_10 a0_11 = some true

end Go.Proofs.YthclofmcinknlaaDoor.GoalFnExactJobReply
