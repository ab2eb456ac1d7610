/- Small words for this seat's walks: comparisons of texts as the functions' texts tell them; no condition. -/
import Derived.Lib.Bytealg
import Derived.Test.YtlhbcgmmgofcgaaWMore
import Derived.Test.YtlhbcgmmgofcgaaPlain
import Derived.WalkKit
import Derived.Laws.Cover1
import Derived.Lib.Hide
import Derived.Shelf.Abstract
import Derived.Lib.ConvBytes
namespace Go.Proofs.Ytlhbcgmmgofcgaa.My
open Go.RowKit Go.Proofs.YtlhbcgmmgofcgaaW.PrintWords

theorem ret_isEmpty (l : List UInt8) : Ending.returned (.bool (!l.isEmpty)) = Ending.returned (.bool (l != [])) := by cases l <;> rfl

theorem binOp_gtr_flip (t : TypeId) (a b : ByteArray) : binOp .gtr t (.string a) (.string b) = pure (.bool (Op.bytesLess b.toList a.toList)) := by
  rw [binOp_string_gtr]
  by_cases e : a.toList = b.toList
  · simp [e, Plain.bytesLess_irrefl]
  · rw [Plain.bytesLess_total _ _ e, beq_eq_false_iff_ne.2 e]
    simp

theorem below_drawn {B : Nat} {w W w' : World} (hb : Below B w W) (hd : Drawn0 W w') : Below B w w' := by
  obtain ⟨n, rfl⟩ := hd.out
  exact pw_below_drewN hb n

theorem bytesWorld_below {B : Nat} (w : World) (e : TypeId) (s : ByteArray) (hB : B ≤ w.heap.size) : Below B w (Lib.bytesWorld w e s) := by
  refine ⟨rfl, rfl, rfl, ?_, fun j hj => Lib.bytesWorld_at_old w e s j (by omega)⟩
  rw [Lib.bytesWorld_size]
  omega

theorem grown_block {w w1 : World} {row : Option Nat} {g : Nat} (h : w.grownBy w1 row) (hg : g < w.heap.size) (hn : row = some g → False) : w1.heap[g]? = w.heap[g]? :=
  h.block g hg (fun e => hn e.symm)
theorem grown_size {w w1 : World} {row : Option Nat} (h : w.grownBy w1 row) : w.heap.size ≤ w1.heap.size := h.size
theorem cell_of_block {w w1 : World} {g : Nat} (h : w1.heap[g]? = w.heap[g]?) (j : Nat) : w1.cell? ⟨g, j, none⟩ = w.cell? ⟨g, j, none⟩ := by simp [World.cell?, h]
theorem bt_cell (s : ByteArray) (j : Nat) (h : j < s.size) : some (Value.int .u8 (s.data.toList.getD j 0).toNat) = some (Value.int .u8 (bt s (j : Int))) := by
  unfold bt
  simp [h, List.getD]
  rfl

/-- How far bytes from j on meet p, of d. -/
def runFrom (p : Int → Bool) (s : ByteArray) : Nat → Nat → Nat
  | 0, j => j
  | d + 1, j => if p (bt s (j : Int)) = true then runFrom p s d (j + 1) else j

theorem bt_at (s : ByteArray) (j : Nat) (h : j < s.size) : bt s (j : Int) = ((s[j]'h).toNat : Int) := by
  unfold bt
  simp [h]

end Go.Proofs.Ytlhbcgmmgofcgaa.My
