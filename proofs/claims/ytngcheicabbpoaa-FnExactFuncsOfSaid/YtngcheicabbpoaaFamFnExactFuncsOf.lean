/- The families (bulk, copy, comparison) of the law FnExactFuncsOf over plain data; no condition. -/
import Derived.Test.YtngcheicabbpoaaFam
import Derived.Test.YtngcheicabbpoaaGoalFnExactFuncsOf
set_option linter.unusedVariables false
namespace Go.Proofs.Ytngcheicabbpoaa.FamFnExactFuncsOf
open Go.RowKit Go.Proofs.Ytngcheicabbpoaa.QFnExactFuncsOf Go.Proofs.YtngcheicabbpoaaW.PrintWords Go.Proofs.YtngcheicabbpoaaW.PrintLast Go.Proofs.Ytngcheicabbpoaa.GoalFnExactFuncsOf Go.Proofs.Ytngcheicabbpoaa Go.Proofs.Ytngcheicabbpoaa.Fam

def Sm_StringS (l0 : List ByteArray) : Prop := l0.length ≤ 1048576 ∧ ∀ x ∈ l0, x.size ≤ 1048576 ∧ True
theorem sz_StringS (l0 : List ByteArray) (h : (l0.length ≤ maxLen ∧ ∀ y ∈ l0, y.size ≤ maxLen)) : Szs (fun k v => laws_szStringS.f k l0 v) (Sm_StringS l0) := Szs.texts (l0 := laws_szStringS.l0) l0 ⟨Nat.le_trans h.1 (by decide), fun x hx => Nat.le_trans (h.2 x hx) (by decide)⟩ (fun _ _ _ => rfl)

def Sm_IntS (l0 : List Int) : Prop := l0.length ≤ 1048576 ∧ True
theorem sz_IntS (l0 : List Int) (h : (l0.length ≤ maxLen ∧ ∀ y ∈ l0, (Lit.int .i64 y).wf = true)) : Szs (fun k v => laws_szIntS.f l0 v) (Sm_IntS l0) := Szs.cut l0.length (Nat.le_trans h.1 (by decide)) Szs.done

def Sm_Node (a0_0 : Int) (a0_1 : Int) (a0_2 : ByteArray) (l0_3 : List ByteArray) (l0_4 : List Int) : Prop := a0_2.size ≤ 1048576 ∧ Sm_StringS l0_3 ∧ Sm_IntS l0_4 ∧ True
theorem sz_Node (a0_0 : Int) (a0_1 : Int) (a0_2 : ByteArray) (l0_3 : List ByteArray) (l0_4 : List Int) (h_a0_2 : a0_2.size ≤ maxLen) (h_l0_3 : (l0_3.length ≤ maxLen ∧ ∀ y ∈ l0_3, y.size ≤ maxLen)) (h_l0_4 : (l0_4.length ≤ maxLen ∧ ∀ y ∈ l0_4, (Lit.int .i64 y).wf = true)) : Szs (fun k v => laws_szNode.f k a0_0 a0_1 a0_2 l0_3 l0_4 v) (Sm_Node a0_0 a0_1 a0_2 l0_3 l0_4) := by
  unfold laws_szNode.f Sm_Node
  exact (Szs.cut a0_2.size (Nat.le_trans h_a0_2 (by decide)) (Szs.seq (sz_StringS l0_3 h_l0_3) (Szs.seq (sz_IntS l0_4 h_l0_4) Szs.done)))

def Sm_NodeS (l0 : List (S65)) : Prop := l0.length ≤ 1048576 ∧ ∀ x ∈ l0, Sm_Node x.f0 x.f1 x.f2 x.f3 x.f4
theorem sz_NodeS (l0 : List (S65)) (h : (l0.length ≤ maxLen ∧ ∀ y ∈ l0, G65 y)) : Szs (fun k v => laws_szNodeS.f k l0 v) (Sm_NodeS l0) := Szs.list (l0 := laws_szNodeS.l0) (fun k x v => laws_szNode.f k x.f0 x.f1 x.f2 x.f3 x.f4 v) z65 l0 (Nat.le_trans h.1 (by decide)) (fun _ _ _ => rfl) (fun x hx => sz_Node x.f0 x.f1 x.f2 x.f3 x.f4 (h.2 x hx).2.2.1 (h.2 x hx).2.2.2.1 (h.2 x hx).2.2.2.2)

def Sm_Tree (l0_0 : List (S65)) (a0_1 : Int) : Prop := Sm_NodeS l0_0 ∧ True
theorem sz_Tree (l0_0 : List (S65)) (a0_1 : Int) (h_l0_0 : (l0_0.length ≤ maxLen ∧ ∀ y ∈ l0_0, G65 y)) : Szs (fun k v => laws_szTree.f k l0_0 a0_1 v) (Sm_Tree l0_0 a0_1) := by
  unfold laws_szTree.f Sm_Tree
  exact (Szs.seq (sz_NodeS l0_0 h_l0_0) Szs.done)

def g_StringS (l0 : List ByteArray) : List ByteArray := l0.map fun x => x
theorem to_StringS (l0 : List ByteArray) (h : Sm_StringS l0) : Tos (fun k => laws_toStringS.f k l0) (g_StringS l0) := Tos.list (l0 := laws_toStringS.l0) (fun _ x => some x) (fun x => x) (fun x => x) ByteArray.empty (⟨#[]⟩ : ByteArray) 17592186044416 l0 h.1 (by decide) (fun _ _ _ => rfl) (fun x _ => Tos.pure x)

def g_IntS (l0 : List Int) : List Int := l0.map fun x => x
theorem to_IntS (l0 : List Int) (h : Sm_IntS l0) : Tos (fun k => laws_toIntS.f k l0) (g_IntS l0) := Tos.list (l0 := laws_toIntS.l0) (fun _ x => some x) (fun x => x) (fun x => x) (0 : Int) 0 35184372088832 l0 h.1 (by decide) (fun _ _ _ => rfl) (fun x _ => Tos.pure x)

def g_Node (a0_0 : Int) (a0_1 : Int) (a0_2 : ByteArray) (l0_3 : List ByteArray) (l0_4 : List Int) : Int × Int × ByteArray × List ByteArray × List Int := let t122 := g_StringS l0_3; let t125 := g_IntS l0_4; (a0_0, a0_1, a0_2, t122, t125)
theorem to_Node (a0_0 : Int) (a0_1 : Int) (a0_2 : ByteArray) (l0_3 : List ByteArray) (l0_4 : List Int) (hs : Sm_Node a0_0 a0_1 a0_2 l0_3 l0_4) : Tos (fun k => laws_toNode.f k a0_0 a0_1 a0_2 l0_3 l0_4) (g_Node a0_0 a0_1 a0_2 l0_3 l0_4) := by
  unfold laws_toNode.f
  exact (Tos.bind (to_StringS l0_3 hs.2.1) (Tos.bind (to_IntS l0_4 hs.2.2.1) (Tos.pure _)))

def g_NodeS (l0 : List (S65)) : List S52 := l0.map fun x => (fun bt132 => (⟨bt132.1, bt132.2.1, bt132.2.2.1, bt132.2.2.2.1, bt132.2.2.2.2⟩ : S52)) (g_Node x.f0 x.f1 x.f2 x.f3 x.f4)
theorem to_NodeS (l0 : List (S65)) (h : Sm_NodeS l0) : Tos (fun k => laws_toNodeS.f k l0) (g_NodeS l0) := Tos.list (l0 := laws_toNodeS.l0) (fun k x => laws_toNode.f k x.f0 x.f1 x.f2 x.f3 x.f4) (fun x => g_Node x.f0 x.f1 x.f2 x.f3 x.f4) (fun bt132 => (⟨bt132.1, bt132.2.1, bt132.2.2.1, bt132.2.2.2.1, bt132.2.2.2.2⟩ : S52)) z65 z52 3518437208883 l0 h.1 (by decide) (fun _ _ _ => rfl) (fun x hx => to_Node x.f0 x.f1 x.f2 x.f3 x.f4 (h.2 x hx))

def g_Tree (l0_0 : List (S65)) (a0_1 : Int) : (List (S52)) × Int := let t145 := g_NodeS l0_0; (t145, a0_1)
theorem to_Tree (l0_0 : List (S65)) (a0_1 : Int) (hs : Sm_Tree l0_0 a0_1) : Tos (fun k => laws_toTree.f k l0_0 a0_1) (g_Tree l0_0 a0_1) := by
  unfold laws_toTree.f
  exact (Tos.bind (to_NodeS l0_0 hs.1) (Tos.pure _))

def EL_StringS (l : List ByteArray) : Prop := l.length ≤ 2305843009213693952 ∧ True
theorem eq_StringS (l : List ByteArray) (h : EL_StringS l) : Tos (fun k => laws_eqStringS.f k l l) true := Tos.eqsPlain (l0 := laws_eqStringS.l0) ByteArray.toList ByteArray.empty l h.1 (fun _ _ => rfl)
theorem el_StringS (l : List ByteArray) (h : Sm_StringS l) : EL_StringS (g_StringS l) := ⟨by unfold g_StringS; rw [List.length_map]; have := h.1; omega, trivial⟩

def EL_IntS (l : List Int) : Prop := l.length ≤ 2305843009213693952 ∧ True
theorem eq_IntS (l : List Int) (h : EL_IntS l) : Tos (fun k => laws_eqIntS.f k l l) true := Tos.eqsPlain (l0 := laws_eqIntS.l0) (fun x => x) (0 : Int) l h.1 (fun _ _ => rfl)
theorem el_IntS (l : List Int) (h : Sm_IntS l) : EL_IntS (g_IntS l) := ⟨by unfold g_IntS; rw [List.length_map]; have := h.1; omega, trivial⟩

def EL_Node (a0_0 : Int) (a0_1 : Int) (a0_2 : ByteArray) (l0_3 : List ByteArray) (l0_4 : List Int) : Prop := EL_StringS l0_3 ∧ EL_IntS l0_4 ∧ True
theorem eq_Node (a0_0 : Int) (a0_1 : Int) (a0_2 : ByteArray) (l0_3 : List ByteArray) (l0_4 : List Int) (h : EL_Node a0_0 a0_1 a0_2 l0_3 l0_4) : Tos (fun k => laws_eqNode.f k a0_0 a0_1 a0_2 l0_3 l0_4 a0_0 a0_1 a0_2 l0_3 l0_4) true := by
  unfold laws_eqNode.f
  exact (Tos.eq (Tos.eq (Tos.eq (Tos.yes (eq_StringS l0_3 h.1) (Tos.yes (eq_IntS l0_4 h.2.1) (Tos.pure true))))))
theorem el_Node (a0_0 : Int) (a0_1 : Int) (a0_2 : ByteArray) (l0_3 : List ByteArray) (l0_4 : List Int) (hs : Sm_Node a0_0 a0_1 a0_2 l0_3 l0_4) : EL_Node (g_Node a0_0 a0_1 a0_2 l0_3 l0_4).1 (g_Node a0_0 a0_1 a0_2 l0_3 l0_4).2.1 (g_Node a0_0 a0_1 a0_2 l0_3 l0_4).2.2.1 (g_Node a0_0 a0_1 a0_2 l0_3 l0_4).2.2.2.1 (g_Node a0_0 a0_1 a0_2 l0_3 l0_4).2.2.2.2 := ⟨el_StringS l0_3 hs.2.1, el_IntS l0_4 hs.2.2.1, trivial⟩

def EL_NodeS (l : List (S52)) : Prop := l.length ≤ 2305843009213693952 ∧ ∀ x ∈ l, EL_Node x.f0 x.f1 x.f2 x.f3 x.f4
theorem eq_NodeS (l : List (S52)) (h : EL_NodeS l) : Tos (fun k => laws_eqNodeS.f k l l) true := Tos.eqs (l0 := laws_eqNodeS.l0) (fun k x => laws_eqNode.f k x.f0 x.f1 x.f2 x.f3 x.f4 x.f0 x.f1 x.f2 x.f3 x.f4) z52 l h.1 (fun _ _ => rfl) (fun x hx => eq_Node x.f0 x.f1 x.f2 x.f3 x.f4 (h.2 x hx))
theorem el_NodeS (l : List S65) (h : Sm_NodeS l) : EL_NodeS (g_NodeS l) := ⟨by unfold g_NodeS; rw [List.length_map]; have := h.1; omega, fun y hy => by
  obtain ⟨x, hx, rfl⟩ := List.mem_map.mp hy
  exact el_Node x.f0 x.f1 x.f2 x.f3 x.f4 (h.2 x hx)⟩

def EL_Tree (l0_0 : List (S52)) (a0_1 : Int) : Prop := EL_NodeS l0_0 ∧ True
theorem eq_Tree (l0_0 : List (S52)) (a0_1 : Int) (h : EL_Tree l0_0 a0_1) : Tos (fun k => laws_eqTree.f k l0_0 a0_1 l0_0 a0_1) true := by
  unfold laws_eqTree.f
  exact (Tos.yes (eq_NodeS l0_0 h.1) (Tos.eq (Tos.pure true)))
theorem el_Tree (l0_0 : List (S65)) (a0_1 : Int) (hs : Sm_Tree l0_0 a0_1) : EL_Tree (g_Tree l0_0 a0_1).1 (g_Tree l0_0 a0_1).2 := ⟨el_NodeS l0_0 hs.1, trivial⟩

end Go.Proofs.Ytngcheicabbpoaa.FamFnExactFuncsOf
