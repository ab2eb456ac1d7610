/- A struct behind a pointer and the row of one of its slices, both written by a call: all else stays; no condition. -/
import Derived.Test.YtlhbcgmmgofcgaaWMore
import Derived.WalkKit
namespace Go.Proofs.Ytlhbcgmmgofcgaa.Hd
open Go.RowKit Go.Proofs.YtlhbcgmmgofcgaaW.PrintWords

/-- Two blocks apart, what was there is as it was. -/
structure Moved (g b : Nat) (w w' : World) : Prop where
  os : w'.os = w.os
  tape : w'.tape = w.tape
  output : w'.output = w.output
  size : w.heap.size ≤ w'.heap.size
  block : ∀ i, i < w.heap.size → i ≠ g → i ≠ b → w'.heap[i]? = w.heap[i]?

theorem Moved.refl (g b : Nat) (w : World) : Moved g b w w := ⟨rfl, rfl, rfl, Nat.le_refl _, fun _ _ _ _ => rfl⟩
theorem Moved.trans {g b : Nat} {w w1 w2 : World} (h : Moved g b w w1) (k : Moved g b w1 w2) : Moved g b w w2 :=
  ⟨k.os.trans h.os, k.tape.trans h.tape, k.output.trans h.output, Nat.le_trans h.size k.size, fun i hi h1 h2 => (k.block i (Nat.lt_of_lt_of_le hi h.size) h1 h2).trans (h.block i hi h1 h2)⟩
theorem Moved.of_below {g b : Nat} {w w' : World} (h : Below w.heap.size w w') : Moved g b w w' := ⟨h.os, h.tape, h.output, h.size, fun i hi _ _ => h.block i hi⟩
theorem Moved.step {g b : Nat} {w w1 w2 : World} (h : Moved g b w w1) (k : Below w1.heap.size w1 w2) : Moved g b w w2 := h.trans (Moved.of_below k)
theorem Moved.alloc {g b : Nat} {w w1 : World} (h : Moved g b w w1) (o : Obj) : Moved g b w (w1.alloc o) := h.step (below_alloc (Below.refl _ _) o)
theorem Moved.drewN {g b : Nat} {w w1 : World} (h : Moved g b w w1) (n : Nat) : Moved g b w (w1.drewN n) := ⟨h.os, h.tape, h.output, h.size, h.block⟩
theorem Moved.drew {g b : Nat} {w w1 : World} (h : Moved g b w w1) : Moved g b w w1.drew := ⟨h.os, h.tape, h.output, h.size, h.block⟩
theorem Moved.set {g b : Nat} {w w1 : World} (h : Moved g b w w1) (p : Addr) (u : Value) (hp : p.block = g ∨ p.block = b ∨ w.heap.size ≤ p.block) : Moved g b w (w1.setCell p u) :=
  ⟨h.os, h.tape, h.output, by have := h.size; simpa using this, fun i hi h1 h2 => (Below.heap_setCell w1 p u i (by omega)).trans (h.block i hi h1 h2)⟩
theorem Moved.below {g b B : Nat} {w0 w w' : World} (hb : Below B w0 w) (h : Moved g b w w') (hB : B ≤ w.heap.size) (hg : B ≤ g) (hb' : B ≤ b) : Below B w0 w' :=
  hb.trans ⟨h.os, h.tape, h.output, h.size, fun k hk => h.block k (by omega) (by omega) (by omega)⟩
theorem Moved.blk {g b i : Nat} {w w' : World} {o : Obj} (h : Moved g b w w') (hi : w.heap[i]? = some o) (h1 : i ≠ g) (h2 : i ≠ b) : w'.heap[i]? = some o := (h.block i (blk_lt hi) h1 h2).trans hi

theorem at_alloc (w : World) (o : Obj) (n : Nat) (h : n = w.heap.size) : (w.alloc o).heap[n]? = some o := by
  subst h
  exact blk_new w o
theorem size_alloc (w : World) (o : Obj) : (w.alloc o).heap.size = w.heap.size + 1 := by
  show (w.heap.push o).size = _
  simp
theorem cell_below {w w1 : World} (h : Below w.heap.size w w1) {a : Addr} {v : Value} (hc : w.cell? a = some v) : w1.cell? a = some v := (h.cell (World.block_lt_of_cell? w a hc)).trans hc
theorem end_ret {P : Program} {fn : Func} {R : Ending → World → Prop} {a : Act} {w : World} (hn : fn.results = #[]) (hd : a.defers = []) (h : R (.returned (.tuple #[])) w) : bodyPost P fn R .ret a w :=
  bodyPost_ret (results_none hn _ _ _) hd h

/-- A row of truth values in one block. -/
theorem bools_get (l : List Bool) (k : Int) (h : k.toNat < l.length) : (bools l).toArray[k.toNat]? = some (.bool (rdOf false l k)) := by
  rw [List.getElem?_toArray]
  unfold bools rdOf
  rw [List.getElem?_map, List.getD_eq_getElem?_getD, List.getElem?_eq_getElem h]
  rfl
theorem bools_set (l : List Bool) (k : Nat) (v : Bool) : (bools l).toArray.setIfInBounds k (.bool v) = (bools (l.set k v)).toArray := by
  unfold bools
  rw [List.map_set]
  simp
theorem made_bools (n : Nat) : madeCells (Value.bool false).cells n = (bools (List.replicate n false)).toArray := by
  unfold madeCells bools
  apply Array.ext
  · simp
  · intro i h1 h2
    simp [Value.cells, Nat.mod_one]
theorem row_cell {w : World} {b : Nat} {l : List Bool} {t : TypeId} (h : w.heap[b]? = some (.cells (bools l).toArray t (0, 0))) (k : Int) (hk : k.toNat < l.length) : w.cell? ⟨b, k.toNat, none⟩ = some (.bool (rdOf false l k)) := (blk_cell h k.toNat).trans (bools_get l k hk)
theorem row_set {w : World} {b : Nat} {l : List Bool} {t : TypeId} (h : w.heap[b]? = some (.cells (bools l).toArray t (0, 0))) (k : Nat) (v : Bool) : (w.setCell ⟨b, k, none⟩ (.bool v)).heap[b]? = some (.cells (bools (l.set k v)).toArray t (0, 0)) := by
  rw [blk_set h, bools_set]

theorem row_reads {w : World} {b : Nat} {l : List Bool} {t : TypeId} (h : w.heap[b]? = some (.cells (bools l).toArray t (0, 0))) (hl : l.length ≤ 9223372036854775807) : Kd.C Kd.bool w (some ⟨b, 0, none⟩) l.length l :=
  ⟨rfl, hl, fun _ => ⟨_, rfl, fun j p hj => ⟨[.bool p], rfl, rfl, fun i u hu => by
    obtain ⟨hlt, _⟩ := List.getElem?_eq_some_iff.1 hu
    have hi : i = 0 := by simpa using hlt
    subst hi
    have hu' : Value.bool p = u := by simpa using hu
    subst hu'
    show w.cell? ((⟨b, 0, none⟩ : Addr).add (j * 1 + 0)) = _
    rw [add_plain, show j * 1 + 0 = j by omega, blk_cell h]
    unfold bools
    rw [List.getElem?_toArray, List.getElem?_map, hj]
    rfl⟩⟩⟩

end Go.Proofs.Ytlhbcgmmgofcgaa.Hd
