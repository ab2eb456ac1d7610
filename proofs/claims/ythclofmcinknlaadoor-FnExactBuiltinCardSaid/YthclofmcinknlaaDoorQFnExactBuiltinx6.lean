/- Functions that the law uses, as Lean functions with the same answers, and the walks that show it: by this session's program, after the form of the kit's print. No condition. -/
import Derived.Test.YthclofmcinknlaaDoorQFnExactBuiltinx0
import Derived.Test.YthclofmcinknlaaDoorQFnExactBuiltinx4
import Derived.Test.YthclofmcinknlaaDoorQFnExactBuiltinx5
namespace Go.Proofs.YthclofmcinknlaaDoor.QFnExactBuiltin
open Go.RowKit Go.Proofs.YthclofmcinknlaaDoorW.PrintWords Go.Proofs.YthclofmcinknlaaDoorW.PrintLast Go.Proofs.YthclofmcinknlaaDoorW.PrintMore
attribute [local go_sem] max2_int min2_int max_two min_two max_three min_three max_four min_four   -- for this text's walks alone
open Go.Proofs.YthclofmcinknlaaDoor
attribute [local go_sem high] My.binOp_gtr_flip
set_option linter.unusedVariables false
set_option linter.unusedSimpArgs false

/-! ### spec_l01Builtin: function 61 -/
mutual
def spec_l01Builtin.j0 : Nat → ByteArray → List (S29) → Bool → Int → Int → ByteArray → Option (Int × Int × ByteArray × Int)
  | 0, _, _, _, _, _, _ => none
  | k + 1, x0, x1, x26, x212000, x212001, x212002 => if x26 = true then (if x212000 = 3 then (if (x1.length : Int) > 1 then (if 1 < (x1.length : Int) then (if ((rd_T29 x1 1).f0) = 1 then (if (x1.length : Int) > 2 then (if 2 < (x1.length : Int) then (spec_l01Builtin.j1 k x0 x1 (((rd_T29 x1 2).f0) != 1) x212000 x212001 x212002) else (none)) else (spec_l01Builtin.j1 k x0 x1 false x212000 x212001 x212002)) else (spec_l01Builtin.j1 k x0 x1 true x212000 x212001 x212002)) else (none)) else (if (x1.length : Int) > 2 then (if 2 < (x1.length : Int) then (spec_l01Builtin.j1 k x0 x1 (((rd_T29 x1 2).f0) != 1) x212000 x212001 x212002) else (none)) else (spec_l01Builtin.j1 k x0 x1 false x212000 x212001 x212002))) else (spec_l01Builtin.j1 k x0 x1 true x212000 x212001 x212002)) else (if x212000 = 1 then (if (x1.length : Int) > 1 then (if 1 < (x1.length : Int) then (spec_l01Builtin.j2 k x0 x1 (((rd_T29 x1 1).f0) != 1) x212000 x212001 x212002) else (none)) else (spec_l01Builtin.j2 k x0 x1 false x212000 x212001 x212002)) else (spec_l01Builtin.j2 k x0 x1 true x212000 x212001 x212002))
def spec_l01Builtin.j1 : Nat → ByteArray → List (S29) → Bool → Int → Int → ByteArray → Option (Int × Int × ByteArray × Int)
  | 0, _, _, _, _, _, _ => none
  | k + 1, x0, x1, x53, x212000, x212001, x212002 => if x53 = true then (some (0, 0, (⟨#[]⟩ : ByteArray), 8)) else (if x0.toList = ([108, 101, 110] : List UInt8) then ((spec_l01Int.f (x212002.size : Int)).bind fun bt219 => (some (bt219.1, bt219.2.1, bt219.2.2, 0))) else (if x0.toList = ([97, 116] : List UInt8) then (if 1 < (x1.length : Int) then ((spec_l01In.f ((rd_T29 x1 1).f1) 0 (wrap64 ((x212002.size : Int) - 1))).bind fun t223 => (if t223 = true then (if 0 ≤ ((rd_T29 x1 1).f1) then (if ((rd_T29 x1 1).f1) < (x212002.size : Int) then ((spec_l01Int.f (wrap64 (bt x212002 ((rd_T29 x1 1).f1)))).bind fun bt225 => (some (bt225.1, bt225.2.1, bt225.2.2, 0))) else (none)) else (none)) else (some (0, 0, (⟨#[]⟩ : ByteArray), 4)))) else (none)) else (if 1 < (x1.length : Int) then (if 2 < (x1.length : Int) then ((spec_l01In.f ((rd_T29 x1 1).f1) 0 (x212002.size : Int)).bind fun t230 => (if t230 = true then ((spec_l01In.f ((rd_T29 x1 2).f1) ((rd_T29 x1 1).f1) (x212002.size : Int)).bind fun t231 => (if t231 = true then (if 0 ≤ ((rd_T29 x1 1).f1) then (if ((rd_T29 x1 1).f1) ≤ ((rd_T29 x1 2).f1) then (if ((rd_T29 x1 2).f1) ≤ (x212002.size : Int) then ((spec_l01Text.f (x212002.extract (((rd_T29 x1 1).f1) : Int).toNat (((rd_T29 x1 2).f1) : Int).toNat)).bind fun bt232 => (some (bt232.1, bt232.2.1, bt232.2.2, 0))) else (none)) else (none)) else (none)) else (some (0, 0, (⟨#[]⟩ : ByteArray), 4)))) else (some (0, 0, (⟨#[]⟩ : ByteArray), 4)))) else (none)) else (none))))
def spec_l01Builtin.j2 : Nat → ByteArray → List (S29) → Bool → Int → Int → ByteArray → Option (Int × Int × ByteArray × Int)
  | 0, _, _, _, _, _, _ => none
  | k + 1, x0, x1, x128, x212000, x212001, x212002 => if x128 = true then (some (0, 0, (⟨#[]⟩ : ByteArray), 8)) else (if x0.toList = ([97, 98, 115] : List UInt8) then ((spec_l01Fit.f (mx x212001 (wrap64 (-x212001)))).bind fun bt236 => (some (bt236.1, bt236.2.1, bt236.2.2.1, bt236.2.2.2))) else (if x0.toList = ([109, 97, 120] : List UInt8) then (if 1 < (x1.length : Int) then ((spec_l01Int.f (mx x212001 ((rd_T29 x1 1).f1))).bind fun bt241 => (some (bt241.1, bt241.2.1, bt241.2.2, 0))) else (none)) else (if 1 < (x1.length : Int) then ((spec_l01Int.f (mn x212001 ((rd_T29 x1 1).f1))).bind fun bt245 => (some (bt245.1, bt245.2.1, bt245.2.2, 0))) else (none))))
end
def spec_l01Builtin.f (k : Nat) (a0 : ByteArray) (l1 : List (S29)) : Option (Int × Int × ByteArray × Int) := if 0 < (l1.length : Int) then (if a0.toList = ([115, 116, 114] : List UInt8) then ((spec_l01ValueText.f k ((rd_T29 l1 0).f0) ((rd_T29 l1 0).f1) ((rd_T29 l1 0).f2)).bind fun t212 => ((spec_l01Text.f t212).bind fun bt213 => (some (bt213.1, bt213.2.1, bt213.2.2, 0)))) else (if a0.toList = ([108, 101, 110] : List UInt8) then (spec_l01Builtin.j0 k a0 l1 true ((rd_T29 l1 0).f0) ((rd_T29 l1 0).f1) ((rd_T29 l1 0).f2)) else (if a0.toList = ([97, 116] : List UInt8) then (spec_l01Builtin.j0 k a0 l1 true ((rd_T29 l1 0).f0) ((rd_T29 l1 0).f1) ((rd_T29 l1 0).f2)) else (spec_l01Builtin.j0 k a0 l1 (a0.toList == ([99, 117, 116] : List UInt8)) ((rd_T29 l1 0).f0) ((rd_T29 l1 0).f1) ((rd_T29 l1 0).f2))))) else (none)
theorem spec_l01Builtin.mono_l : ∀ k, (∀ y0 y1 y2 y3 y4 y5, LeO (spec_l01Builtin.j0 k y0 y1 y2 y3 y4 y5) (spec_l01Builtin.j0 (k + 1) y0 y1 y2 y3 y4 y5)) ∧ (∀ y0 y1 y2 y3 y4 y5, LeO (spec_l01Builtin.j1 k y0 y1 y2 y3 y4 y5) (spec_l01Builtin.j1 (k + 1) y0 y1 y2 y3 y4 y5)) ∧ (∀ y0 y1 y2 y3 y4 y5, LeO (spec_l01Builtin.j2 k y0 y1 y2 y3 y4 y5) (spec_l01Builtin.j2 (k + 1) y0 y1 y2 y3 y4 y5))
  | 0 => ⟨fun _ _ _ _ _ _ r h => by simp [spec_l01Builtin.j0] at h, fun _ _ _ _ _ _ r h => by simp [spec_l01Builtin.j1] at h, fun _ _ _ _ _ _ r h => by simp [spec_l01Builtin.j2] at h⟩
  | k + 1 => by
    obtain ⟨ih0, ih1, ih2⟩ := spec_l01Builtin.mono_l k
    refine ⟨?_, ?_, ?_⟩
    · intro y0 y1 y2 y3 y4 y5
      unfold spec_l01Builtin.j0
      repeat' first
      | (with_reducible exact ih0 _ _ _ _ _ _)
      | (with_reducible exact ih1 _ _ _ _ _ _)
      | (with_reducible exact ih2 _ _ _ _ _ _)
      | (with_reducible exact spec_l01ValueText.mono _ _ _ _)
      | (with_reducible exact LeO.refl _)
      | (with_reducible exact LeO.none _)
      | (with_reducible refine LeO.ite ?_ ?_)
      | (with_reducible refine LeO.bind ?_ (fun _ => ?_))
      | exact ih0 _ _ _ _ _ _
      | exact ih1 _ _ _ _ _ _
      | exact ih2 _ _ _ _ _ _
      | exact spec_l01ValueText.mono _ _ _ _
      | exact LeO.none _
      | refine LeO.ite ?_ ?_
      | refine LeO.bind ?_ (fun _ => ?_)
    · intro y0 y1 y2 y3 y4 y5
      unfold spec_l01Builtin.j1
      repeat' first
      | (with_reducible exact ih0 _ _ _ _ _ _)
      | (with_reducible exact ih1 _ _ _ _ _ _)
      | (with_reducible exact ih2 _ _ _ _ _ _)
      | (with_reducible exact spec_l01ValueText.mono _ _ _ _)
      | (with_reducible exact LeO.refl _)
      | (with_reducible exact LeO.none _)
      | (with_reducible refine LeO.ite ?_ ?_)
      | (with_reducible refine LeO.bind ?_ (fun _ => ?_))
      | exact ih0 _ _ _ _ _ _
      | exact ih1 _ _ _ _ _ _
      | exact ih2 _ _ _ _ _ _
      | exact spec_l01ValueText.mono _ _ _ _
      | exact LeO.none _
      | refine LeO.ite ?_ ?_
      | refine LeO.bind ?_ (fun _ => ?_)
    · intro y0 y1 y2 y3 y4 y5
      unfold spec_l01Builtin.j2
      repeat' first
      | (with_reducible exact ih0 _ _ _ _ _ _)
      | (with_reducible exact ih1 _ _ _ _ _ _)
      | (with_reducible exact ih2 _ _ _ _ _ _)
      | (with_reducible exact spec_l01ValueText.mono _ _ _ _)
      | (with_reducible exact LeO.refl _)
      | (with_reducible exact LeO.none _)
      | (with_reducible refine LeO.ite ?_ ?_)
      | (with_reducible refine LeO.bind ?_ (fun _ => ?_))
      | exact ih0 _ _ _ _ _ _
      | exact ih1 _ _ _ _ _ _
      | exact ih2 _ _ _ _ _ _
      | exact spec_l01ValueText.mono _ _ _ _
      | exact LeO.none _
      | refine LeO.ite ?_ ?_
      | refine LeO.bind ?_ (fun _ => ?_)
theorem spec_l01Builtin.mono : ∀ a0 a1 k, LeO (spec_l01Builtin.f k a0 a1) (spec_l01Builtin.f (k + 1) a0 a1) := by
  intro a0 a1 k
  obtain ⟨ih0, ih1, ih2⟩ := spec_l01Builtin.mono_l k
  unfold spec_l01Builtin.f
  repeat' first
      | (with_reducible exact ih0 _ _ _ _ _ _)
      | (with_reducible exact ih1 _ _ _ _ _ _)
      | (with_reducible exact ih2 _ _ _ _ _ _)
      | (with_reducible exact spec_l01ValueText.mono _ _ _ _)
      | (with_reducible exact LeO.refl _)
      | (with_reducible exact LeO.none _)
      | (with_reducible refine LeO.ite ?_ ?_)
      | (with_reducible refine LeO.bind ?_ (fun _ => ?_))
      | exact ih0 _ _ _ _ _ _
      | exact ih1 _ _ _ _ _ _
      | exact ih2 _ _ _ _ _ _
      | exact spec_l01ValueText.mono _ _ _ _
      | exact LeO.none _
      | refine LeO.ite ?_ ?_
      | refine LeO.bind ?_ (fun _ => ?_)
def spec_l01Builtin.T11 : Bool × List (List Nat × List Nat) := (true, [([], []), ([0], [0]), ([1], [1]), ([2], [2]), ([], []), ([4], [4]), ([5], [5]), ([6], [6]), ([3, 7], [3, 7]), ([8], [8])])
def spec_l01Builtin.B11 : List Nat := [0, 1, 3, 7, 0, 16, 48, 112, 255, 511]
theorem spec_l01Builtin.tab11 : rtab .any (opsOf Tryd.f61 11) = spec_l01Builtin.T11 := by kernel_rfl
theorem spec_l01Builtin.bits11 : waitsOk spec_l01Builtin.T11.2 spec_l01Builtin.B11 = true := by kernel_rfl
def spec_l01Builtin.T13 : Bool × List (List Nat × List Nat) := (true, [([], []), ([0], [0]), ([], []), ([2], [2]), ([3], [3]), ([4], [4]), ([1, 5], [1, 5]), ([6], [6]), ([7], [7]), ([8, 8, 0, 1, 2, 3, 4, 5, 6, 7, 8], [8]), ([9, 0, 1, 2, 3, 4, 5, 6, 7, 8, 9], [])])
def spec_l01Builtin.B13 : List Nat := [0, 1, 0, 4, 12, 28, 63, 127, 255, 511, 1023]
theorem spec_l01Builtin.tab13 : rtab .any (opsOf Tryd.f61 13) = spec_l01Builtin.T13 := by kernel_rfl
theorem spec_l01Builtin.bits13 : waitsOk spec_l01Builtin.T13.2 spec_l01Builtin.B13 = true := by kernel_rfl
def spec_l01Builtin.T25 : Bool × List (List Nat × List Nat) := (true, [([], []), ([0], [0]), ([], []), ([2], [2]), ([3], [3]), ([4], [4]), ([1, 5], [1, 5]), ([6], [6]), ([7, 7, 0, 1, 2, 3, 4, 5, 6, 7], [7]), ([8, 0, 1, 2, 3, 4, 5, 6, 7, 8], [])])
def spec_l01Builtin.B25 : List Nat := [0, 1, 0, 4, 12, 28, 63, 127, 255, 511]
theorem spec_l01Builtin.tab25 : rtab .any (opsOf Tryd.f61 25) = spec_l01Builtin.T25 := by kernel_rfl
theorem spec_l01Builtin.bits25 : waitsOk spec_l01Builtin.T25.2 spec_l01Builtin.B25 = true := by kernel_rfl
def spec_l01Builtin.T26 : Bool × List (List Nat × List Nat) := (true, [([], []), ([0], [0]), ([], []), ([2], [2]), ([3], [3]), ([4], [4]), ([1, 5], [1, 5]), ([6], [6]), ([7, 7, 0, 1, 2, 3, 4, 5, 6, 7], [7]), ([8, 0, 1, 2, 3, 4, 5, 6, 7, 8], [])])
def spec_l01Builtin.B26 : List Nat := [0, 1, 0, 4, 12, 28, 63, 127, 255, 511]
theorem spec_l01Builtin.tab26 : rtab .any (opsOf Tryd.f61 26) = spec_l01Builtin.T26 := by kernel_rfl
theorem spec_l01Builtin.bits26 : waitsOk spec_l01Builtin.T26.2 spec_l01Builtin.B26 = true := by kernel_rfl
set_option maxHeartbeats 8000000 in
set_option maxRecDepth 100000 in
theorem spec_l01Builtin.calls (k : Nat) (a0 : ByteArray) (A1 : Option Addr) (c1 : Nat) (l1 : List (S29)) (r1 : Int) (r2 : Int) (r3 : ByteArray) (r4 : Int) (w : World) (hr1 : Kd.C k29 w A1 l1.length l1) (hc1 : l1.length ≤ c1) (h : spec_l01Builtin.f k a0 l1 = some (r1, r2, r3, r4)) :
    Calls Tryd.prog 61 #[.string a0, .slice A1 l1.length c1] w fun e w' => e = .returned (.tuple #[.agg #[.int .i64 r1, .int .i64 r2, .string r3], .int .i64 r4]) ∧ Below w.heap.size w w' := by
  have hu29 := Tryd.underlying29
  have HR1 := Aside0.mk hr1
  have HC1 := Aside0.mk hc1
  clear hr1 hc1
  have HB := Aside0.mk (Below.refl w.heap.size w)
  have H : (if 0 < (l1.length : Int) then (if a0.toList = ([115, 116, 114] : List UInt8) then ((spec_l01ValueText.f k ((rd_T29 l1 0).f0) ((rd_T29 l1 0).f1) ((rd_T29 l1 0).f2)).bind fun t212 => ((spec_l01Text.f t212).bind fun bt213 => (some (bt213.1, bt213.2.1, bt213.2.2, 0)))) else (if a0.toList = ([108, 101, 110] : List UInt8) then (spec_l01Builtin.j0 k a0 l1 true ((rd_T29 l1 0).f0) ((rd_T29 l1 0).f1) ((rd_T29 l1 0).f2)) else (if a0.toList = ([97, 116] : List UInt8) then (spec_l01Builtin.j0 k a0 l1 true ((rd_T29 l1 0).f0) ((rd_T29 l1 0).f1) ((rd_T29 l1 0).f2)) else (spec_l01Builtin.j0 k a0 l1 (a0.toList == ([99, 117, 116] : List UInt8)) ((rd_T29 l1 0).f0) ((rd_T29 l1 0).f1) ((rd_T29 l1 0).f2))))) else (none)) = some (r1, r2, r3, r4) := h
  clear h
  by_cases c3 : 0 < (l1.length : Int)
  · rw [if_pos c3] at H
    have c3b0 : decide (0 < (l1.length : Int)) = true := decide_eq_true c3
    have c3b1 : decide (0 < l1.length) = true := decide_eq_true (by omega)
    clear c3
    by_cases c4 : a0.toList = ([115, 116, 114] : List UInt8)
    · rw [if_pos c4] at H
      have c4b0 : (a0.toList == ([115, 116, 114] : List UInt8)) = true := beq_iff_eq.mpr c4
      have c4b1 : (a0.toList != ([115, 116, 114] : List UInt8)) = false := bne_eq_false_iff_eq.mpr c4
      clear c4
      replace H := Option.bind_eq_some_iff.mp H
      obtain ⟨t212, A50, H⟩ := H
      replace H : ((spec_l01Text.f t212).bind fun bt213 => (some (bt213.1, bt213.2.1, bt213.2.2, 0))) = some (r1, r2, r3, r4) := H
      have A5 := Aside0.mk A50
      clear A50
      replace H := Option.bind_eq_some_iff.mp H
      obtain ⟨⟨t213, t214, t215⟩, A60, H⟩ := H
      replace H : (some (t213, t214, t215, 0)) = some (r1, r2, r3, r4) := H
      have A6 := Aside0.mk A60
      clear A60
      simp only [Option.some.injEq, Prod.mk.injEq] at H
      obtain ⟨rfl, rfl, rfl, rfl⟩ := H
      go_enter Tryd.func61, Tryd.ntmps61
      go_wp2_with (first | ((with_reducible refine gate_dst (N := 4) rfl ?_); (try (refine gate_guard (by rfl) ?_; dsimp only)); refine box_event ?hg (N := 4) ?hd (cs := #[.int .i64 0, .int .i64 0, .string (⟨#[]⟩ : ByteArray)]) (t := 29) ?hr ?_; (case hd => rfl); (case hg => rfl); (case hr => first | (go_simp; done) | (go_simp; rfl)); intro gb209 hg w7 hbox hb; have n0_ := Aside0.mk (below_step (by repeat (first | (with_reducible first | exact HB.out | apply below_alloc | apply pw_below_drewN | apply below_drew1) | exact HB.out)) hb); have n1_ := Aside0.mk (hbox); have n2_ := Aside0.mk ((by rw [hg]; exact (below_size (by repeat (first | (with_reducible first | exact HB.out | apply below_alloc | apply pw_below_drewN | apply below_drew1) | exact HB.out))) : w.heap.size ≤ gb209)); have n3_ := Aside0.mk ((by rw [hg]; exact (below_size (by repeat (first | (with_reducible first | exact HB.out | apply below_alloc | apply pw_below_drewN | apply below_drew1) | exact HB.out))) : w.heap.size ≤ gb209)); clear HB; have HB := n0_; have BK209 := n1_; have GW209 := n2_; have GE209 := n3_; clear n0_ n1_ n2_ n3_; clear hb hbox hg; have p210 : 0 ≤ (0 : Int) := (by omega); have q210 : 0 < (l1.length : Int) := of_decide_eq_true (by first | (with_reducible assumption) | assumption); obtain ⟨ad210, e210, hx210_0, hx210_1, hx210_2⟩ := at_T29 HR1.out 0 p210 q210; cases e210; have qi210 : (0 < l1.length) = True := eq_true (by omega); (try rw [show ((0 : Int)).toNat = 0 from rfl] at hx210_0); (try rw [show 0 * 3 = 0 from rfl] at hx210_0); (try rw [Addr.add_zero'] at hx210_0); (try rw [show ((0 : Int)).toNat = 0 from rfl] at hx210_1); (try rw [show 0 * 3 = 0 from rfl] at hx210_1); (try rw [Addr.add_zero'] at hx210_1); (try rw [show ((0 : Int)).toNat = 0 from rfl] at hx210_2); (try rw [show 0 * 3 = 0 from rfl] at hx210_2); (try rw [Addr.add_zero'] at hx210_2); replace hx210_0 := (HB.out.cell (World.block_lt_of_cell? w _ hx210_0)).trans hx210_0; replace hx210_1 := (HB.out.cell (World.block_lt_of_cell? w _ hx210_1)).trans hx210_1; replace hx210_2 := (HB.out.cell (World.block_lt_of_cell? w _ hx210_2)).trans hx210_2; replace p210 := eq_true p210; replace q210 := eq_true q210) | ((with_reducible refine gate_dst (N := 6) rfl ?_); (try (refine gate_guard (by rfl) ?_; dsimp only)); refine box_event ?hg (N := 6) ?hd (cs := #[.int .i64 0, .int .i64 0, .string (⟨#[]⟩ : ByteArray)]) (t := 29) ?hr ?_; (case hd => rfl); (case hg => rfl); (case hr => first | (go_simp; done) | (go_simp; rfl)); intro gb211 hg w8 hbox hb; have n0_ := Aside0.mk (blk_below (g := gb209) (o := .cells #[.int .i64 0, .int .i64 0, .string (⟨#[]⟩ : ByteArray)] 29 (0, 0)) (by (with_reducible repeat (first | refine blk_drewN ?_ _ | refine blk_drew ?_ | refine blk_alloc ?_ _)); exact BK209.out) hb); have n1_ := Aside0.mk (below_step (by repeat (first | (with_reducible first | exact HB.out | apply below_alloc | apply pw_below_drewN | apply below_drew1 | refine below_set ?_ GE209.out) | exact HB.out)) hb); have n2_ := Aside0.mk (hbox); have n3_ := Aside0.mk ((by rw [hg]; exact (below_size (by repeat (first | (with_reducible first | exact HB.out | apply below_alloc | apply pw_below_drewN | apply below_drew1 | refine below_set ?_ GE209.out) | exact HB.out))) : w.heap.size ≤ gb211)); have n4_ := Aside0.mk ((by rw [hg]; exact (below_size (by repeat (first | (with_reducible first | exact HB.out | apply below_alloc | apply pw_below_drewN | apply below_drew1 | refine below_set ?_ GE209.out) | exact HB.out))) : w.heap.size ≤ gb211)); have n5_ := Aside0.mk ((by rw [hg]; exact Nat.ne_of_lt (blk_lt (g := gb209) (o := .cells #[.int .i64 0, .int .i64 0, .string (⟨#[]⟩ : ByteArray)] 29 (0, 0)) (by (with_reducible repeat (first | refine blk_drewN ?_ _ | refine blk_drew ?_ | refine blk_alloc ?_ _)); exact BK209.out)) : gb209 ≠ gb211)); have n6_ := Aside0.mk ((by rw [hg]; exact Nat.ne_of_gt (blk_lt (g := gb209) (o := .cells #[.int .i64 0, .int .i64 0, .string (⟨#[]⟩ : ByteArray)] 29 (0, 0)) (by (with_reducible repeat (first | refine blk_drewN ?_ _ | refine blk_drew ?_ | refine blk_alloc ?_ _)); exact BK209.out)) : gb211 ≠ gb209)); clear BK209; clear HB; have BK209 := n0_; have HB := n1_; have BK211 := n2_; have GW211 := n3_; have GE211 := n4_; have NB209_211 := n5_; have NB211_209 := n6_; clear n0_ n1_ n2_ n3_ n4_ n5_ n6_; clear hb hbox hg; have hnb9 := NB211_209.out; have hnc9 := NB209_211.out; have hcz10_0 : w8.cell? ⟨gb211, 0, none⟩ = some (.int .i64 0) := (blk_cell BK211.out 0).trans rfl; have hcz10_1 : w8.cell? ⟨gb211, 1, none⟩ = some (.int .i64 0) := (blk_cell BK211.out 1).trans rfl; have hcz10_2 : w8.cell? ⟨gb211, 2, none⟩ = some (.string (⟨#[]⟩ : ByteArray)) := (blk_cell BK211.out 2).trans rfl; have hfz10_0 := blk_frozen BK211.out 0; have hfz10_1 := blk_frozen BK211.out 1; have hfz10_2 := blk_frozen BK211.out 2) | ((with_reducible refine gate_callee (f := 45) rfl ?_); refine goesL_ (some 15) rfl rfl Tryd.func45 (by kernel_rfl) rfl #[.agg #[.int .i64 ((rd_T29 l1 0).f0), .int .i64 ((rd_T29 l1 0).f1), .string ((rd_T29 l1 0).f2)]] rfl (by (try simp only [List.map_toArray, List.map_cons, List.map_nil]); first | done | rfl | (simp only [List.length_drop, List.length_take]; rfl)) ?_; (with_reducible refine (spec_l01ValueText.calls k ((rd_T29 l1 0).f0) ((rd_T29 l1 0).f1) ((rd_T29 l1 0).f2) t212 _ A5.out).mono ?_); rintro e w11 ⟨rfl, hb⟩; refine ⟨_, rfl, ?_⟩; have n0_ := Aside0.mk (blk_below (g := gb209) (o := .cells #[.int .i64 0, .int .i64 0, .string (⟨#[]⟩ : ByteArray)] 29 (0, 0)) (by (with_reducible repeat (first | refine blk_drewN ?_ _ | refine blk_drew ?_ | refine blk_alloc ?_ _)); refine blk_far ?_ NB209_211.out _; (with_reducible repeat (first | refine blk_drewN ?_ _ | refine blk_drew ?_ | refine blk_alloc ?_ _)); refine blk_far ?_ NB209_211.out _; (with_reducible repeat (first | refine blk_drewN ?_ _ | refine blk_drew ?_ | refine blk_alloc ?_ _)); refine blk_far ?_ NB209_211.out _; (with_reducible repeat (first | refine blk_drewN ?_ _ | refine blk_drew ?_ | refine blk_alloc ?_ _)); exact BK209.out) hb); have n1_ := Aside0.mk (blk_below (g := gb211) (o := .cells #[.int .i64 ((rd_T29 l1 0).f0), .int .i64 ((rd_T29 l1 0).f1), .string ((rd_T29 l1 0).f2)] 29 (0, 0)) (by (with_reducible repeat (first | refine blk_drewN ?_ _ | refine blk_drew ?_ | refine blk_alloc ?_ _)); refine blk_put (cs := #[.int .i64 ((rd_T29 l1 0).f0), .int .i64 ((rd_T29 l1 0).f1), .string (⟨#[]⟩ : ByteArray)]) ?_ 2 _ rfl; (with_reducible repeat (first | refine blk_drewN ?_ _ | refine blk_drew ?_ | refine blk_alloc ?_ _)); refine blk_put (cs := #[.int .i64 ((rd_T29 l1 0).f0), .int .i64 0, .string (⟨#[]⟩ : ByteArray)]) ?_ 1 _ rfl; (with_reducible repeat (first | refine blk_drewN ?_ _ | refine blk_drew ?_ | refine blk_alloc ?_ _)); refine blk_put (cs := #[.int .i64 0, .int .i64 0, .string (⟨#[]⟩ : ByteArray)]) ?_ 0 _ rfl; (with_reducible repeat (first | refine blk_drewN ?_ _ | refine blk_drew ?_ | refine blk_alloc ?_ _)); exact BK211.out) hb); have n2_ := Aside0.mk (below_step (by repeat (first | (with_reducible first | exact HB.out | apply below_alloc | apply pw_below_drewN | apply below_drew1 | refine below_set ?_ GE209.out | refine below_set ?_ GE211.out) | exact HB.out)) hb); clear BK209; clear BK211; clear HB; have BK209 := n0_; have BK211 := n1_; have HB := n2_; clear n0_ n1_ n2_; (try clear hb); (try clear hb2); (try clear hk); (try clear hi)) | ((with_reducible refine gate_callee (f := 84) rfl ?_); refine goesL_ (some 16) rfl rfl Tryd.func84 (by kernel_rfl) rfl #[.string t212] rfl (by (try simp only [List.map_toArray, List.map_cons, List.map_nil]); first | done | rfl | (simp only [List.length_drop, List.length_take]; rfl)) ?_; (with_reducible refine (spec_l01Text.calls t212 t213 t214 t215 _ A6.out).mono ?_); rintro e w12 ⟨rfl, hb⟩; refine ⟨_, rfl, ?_⟩; have n0_ := Aside0.mk (blk_below (g := gb209) (o := .cells #[.int .i64 0, .int .i64 0, .string (⟨#[]⟩ : ByteArray)] 29 (0, 0)) (by (with_reducible repeat (first | refine blk_drewN ?_ _ | refine blk_drew ?_ | refine blk_alloc ?_ _)); exact BK209.out) hb); have n1_ := Aside0.mk (blk_below (g := gb211) (o := .cells #[.int .i64 ((rd_T29 l1 0).f0), .int .i64 ((rd_T29 l1 0).f1), .string ((rd_T29 l1 0).f2)] 29 (0, 0)) (by (with_reducible repeat (first | refine blk_drewN ?_ _ | refine blk_drew ?_ | refine blk_alloc ?_ _)); exact BK211.out) hb); have n2_ := Aside0.mk (below_step (by repeat (first | (with_reducible first | exact HB.out | apply below_alloc | apply pw_below_drewN | apply below_drew1 | refine below_set ?_ GE209.out | refine below_set ?_ GE211.out) | exact HB.out)) hb); clear BK209; clear BK211; clear HB; have BK209 := n0_; have BK211 := n1_; have HB := n2_; clear n0_ n1_ n2_; (try clear hb); (try clear hb2); (try clear hk); (try clear hi); have hcz13_0 : w12.cell? ⟨gb209, 0, none⟩ = some (.int .i64 0) := (blk_cell BK209.out 0).trans rfl; have hcz13_1 : w12.cell? ⟨gb209, 1, none⟩ = some (.int .i64 0) := (blk_cell BK209.out 1).trans rfl; have hcz13_2 : w12.cell? ⟨gb209, 2, none⟩ = some (.string (⟨#[]⟩ : ByteArray)) := (blk_cell BK209.out 2).trans rfl; have hfz13_0 := blk_frozen BK209.out 0; have hfz13_1 := blk_frozen BK209.out 1; have hfz13_2 := blk_frozen BK209.out 2))
      refine bodyPost_ret (results_ct rfl _ _ gb209 29 #[.int .i64 t213, .int .i64 t214, .string t215] (0, 0) _ rfl (by (with_reducible repeat (first | refine blk_drewN ?_ _ | refine blk_drew ?_ | refine blk_alloc ?_ _)); refine blk_put (cs := #[.int .i64 t213, .int .i64 t214, .string (⟨#[]⟩ : ByteArray)]) ?_ 2 _ rfl; (with_reducible repeat (first | refine blk_drewN ?_ _ | refine blk_drew ?_ | refine blk_alloc ?_ _)); refine blk_put (cs := #[.int .i64 t213, .int .i64 0, .string (⟨#[]⟩ : ByteArray)]) ?_ 1 _ rfl; (with_reducible repeat (first | refine blk_drewN ?_ _ | refine blk_drew ?_ | refine blk_alloc ?_ _)); refine blk_put (cs := #[.int .i64 0, .int .i64 0, .string (⟨#[]⟩ : ByteArray)]) ?_ 0 _ rfl; (with_reducible repeat (first | refine blk_drewN ?_ _ | refine blk_drew ?_ | refine blk_alloc ?_ _)); exact BK209.out) Tryd.underlying29 rfl (by kernel_rfl)) rfl ?_
      exact ⟨by first | rfl | exact My.ret_isEmpty _ | (simp [errW_none, errW_some] <;> rfl) | (simp [*, errW_none, errW_some] <;> rfl), by repeat (first | (with_reducible first | exact HB.out | apply below_alloc | apply pw_below_drewN | apply below_drew1 | refine below_set ?_ GE209.out | refine below_set ?_ GE211.out) | exact HB.out)⟩
    · rw [if_neg c4] at H
      have c4b0 : (a0.toList == ([115, 116, 114] : List UInt8)) = false := beq_eq_false_iff_ne.mpr c4
      have c4b1 : (a0.toList != ([115, 116, 114] : List UInt8)) = true := bne_iff_ne.mpr c4
      have HC14 := Aside0.mk H
      clear H
      go_enter Tryd.func61, Tryd.ntmps61
      go_upto_region 4 with (first | ((with_reducible refine gate_dst (N := 4) rfl ?_); (try (refine gate_guard (by rfl) ?_; dsimp only)); refine box_event ?hg (N := 4) ?hd (cs := #[.int .i64 0, .int .i64 0, .string (⟨#[]⟩ : ByteArray)]) (t := 29) ?hr ?_; (case hd => rfl); (case hg => rfl); (case hr => first | (go_simp; done) | (go_simp; rfl)); intro gb209 hg w15 hbox hb; have n0_ := Aside0.mk (below_step (by repeat (first | (with_reducible first | exact HB.out | apply below_alloc | apply pw_below_drewN | apply below_drew1) | exact HB.out)) hb); have n1_ := Aside0.mk (hbox); have n2_ := Aside0.mk ((by rw [hg]; exact (below_size (by repeat (first | (with_reducible first | exact HB.out | apply below_alloc | apply pw_below_drewN | apply below_drew1) | exact HB.out))) : w.heap.size ≤ gb209)); have n3_ := Aside0.mk ((by rw [hg]; exact (below_size (by repeat (first | (with_reducible first | exact HB.out | apply below_alloc | apply pw_below_drewN | apply below_drew1) | exact HB.out))) : w.heap.size ≤ gb209)); clear HB; have HB := n0_; have BK209 := n1_; have GW209 := n2_; have GE209 := n3_; clear n0_ n1_ n2_ n3_; clear hb hbox hg; have p210 : 0 ≤ (0 : Int) := (by omega); have q210 : 0 < (l1.length : Int) := of_decide_eq_true (by first | (with_reducible assumption) | assumption); obtain ⟨ad210, e210, hx210_0, hx210_1, hx210_2⟩ := at_T29 HR1.out 0 p210 q210; cases e210; have qi210 : (0 < l1.length) = True := eq_true (by omega); (try rw [show ((0 : Int)).toNat = 0 from rfl] at hx210_0); (try rw [show 0 * 3 = 0 from rfl] at hx210_0); (try rw [Addr.add_zero'] at hx210_0); (try rw [show ((0 : Int)).toNat = 0 from rfl] at hx210_1); (try rw [show 0 * 3 = 0 from rfl] at hx210_1); (try rw [Addr.add_zero'] at hx210_1); (try rw [show ((0 : Int)).toNat = 0 from rfl] at hx210_2); (try rw [show 0 * 3 = 0 from rfl] at hx210_2); (try rw [Addr.add_zero'] at hx210_2); replace hx210_0 := (HB.out.cell (World.block_lt_of_cell? w _ hx210_0)).trans hx210_0; replace hx210_1 := (HB.out.cell (World.block_lt_of_cell? w _ hx210_1)).trans hx210_1; replace hx210_2 := (HB.out.cell (World.block_lt_of_cell? w _ hx210_2)).trans hx210_2; replace p210 := eq_true p210; replace q210 := eq_true q210) | ((with_reducible refine gate_dst (N := 6) rfl ?_); (try (refine gate_guard (by rfl) ?_; dsimp only)); refine box_event ?hg (N := 6) ?hd (cs := #[.int .i64 0, .int .i64 0, .string (⟨#[]⟩ : ByteArray)]) (t := 29) ?hr ?_; (case hd => rfl); (case hg => rfl); (case hr => first | (go_simp; done) | (go_simp; rfl)); intro gb211 hg w16 hbox hb; have n0_ := Aside0.mk (blk_below (g := gb209) (o := .cells #[.int .i64 0, .int .i64 0, .string (⟨#[]⟩ : ByteArray)] 29 (0, 0)) (by (with_reducible repeat (first | refine blk_drewN ?_ _ | refine blk_drew ?_ | refine blk_alloc ?_ _)); exact BK209.out) hb); have n1_ := Aside0.mk (below_step (by repeat (first | (with_reducible first | exact HB.out | apply below_alloc | apply pw_below_drewN | apply below_drew1 | refine below_set ?_ GE209.out) | exact HB.out)) hb); have n2_ := Aside0.mk (hbox); have n3_ := Aside0.mk ((by rw [hg]; exact (below_size (by repeat (first | (with_reducible first | exact HB.out | apply below_alloc | apply pw_below_drewN | apply below_drew1 | refine below_set ?_ GE209.out) | exact HB.out))) : w.heap.size ≤ gb211)); have n4_ := Aside0.mk ((by rw [hg]; exact (below_size (by repeat (first | (with_reducible first | exact HB.out | apply below_alloc | apply pw_below_drewN | apply below_drew1 | refine below_set ?_ GE209.out) | exact HB.out))) : w.heap.size ≤ gb211)); have n5_ := Aside0.mk ((by rw [hg]; exact Nat.ne_of_lt (blk_lt (g := gb209) (o := .cells #[.int .i64 0, .int .i64 0, .string (⟨#[]⟩ : ByteArray)] 29 (0, 0)) (by (with_reducible repeat (first | refine blk_drewN ?_ _ | refine blk_drew ?_ | refine blk_alloc ?_ _)); exact BK209.out)) : gb209 ≠ gb211)); have n6_ := Aside0.mk ((by rw [hg]; exact Nat.ne_of_gt (blk_lt (g := gb209) (o := .cells #[.int .i64 0, .int .i64 0, .string (⟨#[]⟩ : ByteArray)] 29 (0, 0)) (by (with_reducible repeat (first | refine blk_drewN ?_ _ | refine blk_drew ?_ | refine blk_alloc ?_ _)); exact BK209.out)) : gb211 ≠ gb209)); clear BK209; clear HB; have BK209 := n0_; have HB := n1_; have BK211 := n2_; have GW211 := n3_; have GE211 := n4_; have NB209_211 := n5_; have NB211_209 := n6_; clear n0_ n1_ n2_ n3_ n4_ n5_ n6_; clear hb hbox hg; have hnb17 := NB211_209.out; have hnc17 := NB209_211.out; have hcz18_0 : w16.cell? ⟨gb211, 0, none⟩ = some (.int .i64 0) := (blk_cell BK211.out 0).trans rfl; have hcz18_1 : w16.cell? ⟨gb211, 1, none⟩ = some (.int .i64 0) := (blk_cell BK211.out 1).trans rfl; have hcz18_2 : w16.cell? ⟨gb211, 2, none⟩ = some (.string (⟨#[]⟩ : ByteArray)) := (blk_cell BK211.out 2).trans rfl; have hfz18_0 := blk_frozen BK211.out 0; have hfz18_1 := blk_frozen BK211.out 1; have hfz18_2 := blk_frozen BK211.out 2))
      (try simp only [Act.put, List.setIfInBounds_toArray, List.set_cons_zero, List.set_cons_succ])
      go_cut [26] (fun v26 wc => ∃ (kq : Nat) (x26_13 : Bool), v26 = .bool x26_13 ∧ Aside0 (spec_l01Builtin.j0 kq a0 l1 x26_13 ((rd_T29 l1 0).f0) ((rd_T29 l1 0).f1) ((rd_T29 l1 0).f2) = some (r1, r2, r3, r4)) ∧ Aside0 (kq ≤ k) ∧ Aside0 (wc.heap[gb209]? = some (.cells #[.int .i64 0, .int .i64 0, .string (⟨#[]⟩ : ByteArray)] 29 (0, 0))) ∧ Aside0 (wc.heap[gb211]? = some (.cells #[.int .i64 ((rd_T29 l1 0).f0), .int .i64 ((rd_T29 l1 0).f1), .string ((rd_T29 l1 0).f2)] 29 (0, 0))) ∧ Aside0 (Below w.heap.size w wc))
      case first =>
        have H := HC14.out
        clear HC14
        by_cases c19 : a0.toList = ([108, 101, 110] : List UInt8)
        · rw [if_pos c19] at H
          have c19b0 : (a0.toList == ([108, 101, 110] : List UInt8)) = true := beq_iff_eq.mpr c19
          have c19b1 : (a0.toList != ([108, 101, 110] : List UInt8)) = false := bne_eq_false_iff_eq.mpr c19
          clear c19
          (first | rw [c19b0] | (simp only [i64_w, i32_w]; rw [c19b0]) | skip)
          have H' := Aside0.mk H
          clear H
          go_wp2
          go_meet
          case rel => exact ⟨_, (true), (by first | rfl | (simp; done) | (simp [*]; done)), H', ⟨by first | omega | exact Nat.le_refl _⟩, ⟨by (with_reducible repeat (first | refine blk_drewN ?_ _ | refine blk_drew ?_ | refine blk_alloc ?_ _)); refine blk_far ?_ NB209_211.out _; (with_reducible repeat (first | refine blk_drewN ?_ _ | refine blk_drew ?_ | refine blk_alloc ?_ _)); refine blk_far ?_ NB209_211.out _; (with_reducible repeat (first | refine blk_drewN ?_ _ | refine blk_drew ?_ | refine blk_alloc ?_ _)); refine blk_far ?_ NB209_211.out _; (with_reducible repeat (first | refine blk_drewN ?_ _ | refine blk_drew ?_ | refine blk_alloc ?_ _)); exact BK209.out⟩, ⟨by (with_reducible repeat (first | refine blk_drewN ?_ _ | refine blk_drew ?_ | refine blk_alloc ?_ _)); refine blk_put (cs := #[.int .i64 ((rd_T29 l1 0).f0), .int .i64 ((rd_T29 l1 0).f1), .string (⟨#[]⟩ : ByteArray)]) ?_ 2 _ rfl; (with_reducible repeat (first | refine blk_drewN ?_ _ | refine blk_drew ?_ | refine blk_alloc ?_ _)); refine blk_put (cs := #[.int .i64 ((rd_T29 l1 0).f0), .int .i64 0, .string (⟨#[]⟩ : ByteArray)]) ?_ 1 _ rfl; (with_reducible repeat (first | refine blk_drewN ?_ _ | refine blk_drew ?_ | refine blk_alloc ?_ _)); refine blk_put (cs := #[.int .i64 0, .int .i64 0, .string (⟨#[]⟩ : ByteArray)]) ?_ 0 _ rfl; (with_reducible repeat (first | refine blk_drewN ?_ _ | refine blk_drew ?_ | refine blk_alloc ?_ _)); exact BK211.out⟩, ⟨by repeat (first | (with_reducible first | exact HB.out | apply below_alloc | apply pw_below_drewN | apply below_drew1 | refine below_set ?_ GE209.out | refine below_set ?_ GE211.out) | exact HB.out)⟩⟩
        · rw [if_neg c19] at H
          have c19b0 : (a0.toList == ([108, 101, 110] : List UInt8)) = false := beq_eq_false_iff_ne.mpr c19
          have c19b1 : (a0.toList != ([108, 101, 110] : List UInt8)) = true := bne_iff_ne.mpr c19
          (first | rw [c19b0] | (simp only [i64_w, i32_w]; rw [c19b0]) | skip)
          by_cases c20 : a0.toList = ([97, 116] : List UInt8)
          · rw [if_pos c20] at H
            have c20b0 : (a0.toList == ([97, 116] : List UInt8)) = true := beq_iff_eq.mpr c20
            have c20b1 : (a0.toList != ([97, 116] : List UInt8)) = false := bne_eq_false_iff_eq.mpr c20
            clear c20
            have H' := Aside0.mk H
            clear H
            go_wp2
            go_meet
            case rel => exact ⟨_, (true), (by first | rfl | (simp; done) | (simp [*]; done)), H', ⟨by first | omega | exact Nat.le_refl _⟩, ⟨by (with_reducible repeat (first | refine blk_drewN ?_ _ | refine blk_drew ?_ | refine blk_alloc ?_ _)); refine blk_far ?_ NB209_211.out _; (with_reducible repeat (first | refine blk_drewN ?_ _ | refine blk_drew ?_ | refine blk_alloc ?_ _)); refine blk_far ?_ NB209_211.out _; (with_reducible repeat (first | refine blk_drewN ?_ _ | refine blk_drew ?_ | refine blk_alloc ?_ _)); refine blk_far ?_ NB209_211.out _; (with_reducible repeat (first | refine blk_drewN ?_ _ | refine blk_drew ?_ | refine blk_alloc ?_ _)); exact BK209.out⟩, ⟨by (with_reducible repeat (first | refine blk_drewN ?_ _ | refine blk_drew ?_ | refine blk_alloc ?_ _)); refine blk_put (cs := #[.int .i64 ((rd_T29 l1 0).f0), .int .i64 ((rd_T29 l1 0).f1), .string (⟨#[]⟩ : ByteArray)]) ?_ 2 _ rfl; (with_reducible repeat (first | refine blk_drewN ?_ _ | refine blk_drew ?_ | refine blk_alloc ?_ _)); refine blk_put (cs := #[.int .i64 ((rd_T29 l1 0).f0), .int .i64 0, .string (⟨#[]⟩ : ByteArray)]) ?_ 1 _ rfl; (with_reducible repeat (first | refine blk_drewN ?_ _ | refine blk_drew ?_ | refine blk_alloc ?_ _)); refine blk_put (cs := #[.int .i64 0, .int .i64 0, .string (⟨#[]⟩ : ByteArray)]) ?_ 0 _ rfl; (with_reducible repeat (first | refine blk_drewN ?_ _ | refine blk_drew ?_ | refine blk_alloc ?_ _)); exact BK211.out⟩, ⟨by repeat (first | (with_reducible first | exact HB.out | apply below_alloc | apply pw_below_drewN | apply below_drew1 | refine below_set ?_ GE209.out | refine below_set ?_ GE211.out) | exact HB.out)⟩⟩
          · rw [if_neg c20] at H
            have c20b0 : (a0.toList == ([97, 116] : List UInt8)) = false := beq_eq_false_iff_ne.mpr c20
            have c20b1 : (a0.toList != ([97, 116] : List UInt8)) = true := bne_iff_ne.mpr c20
            have H' := Aside0.mk H
            clear H
            go_wp2
            go_meet
            case rel => exact ⟨_, ((a0.toList == ([99, 117, 116] : List UInt8))), (by first | rfl | (simp; done) | (simp [*]; done)), H', ⟨by first | omega | exact Nat.le_refl _⟩, ⟨by (with_reducible repeat (first | refine blk_drewN ?_ _ | refine blk_drew ?_ | refine blk_alloc ?_ _)); refine blk_far ?_ NB209_211.out _; (with_reducible repeat (first | refine blk_drewN ?_ _ | refine blk_drew ?_ | refine blk_alloc ?_ _)); refine blk_far ?_ NB209_211.out _; (with_reducible repeat (first | refine blk_drewN ?_ _ | refine blk_drew ?_ | refine blk_alloc ?_ _)); refine blk_far ?_ NB209_211.out _; (with_reducible repeat (first | refine blk_drewN ?_ _ | refine blk_drew ?_ | refine blk_alloc ?_ _)); exact BK209.out⟩, ⟨by (with_reducible repeat (first | refine blk_drewN ?_ _ | refine blk_drew ?_ | refine blk_alloc ?_ _)); refine blk_put (cs := #[.int .i64 ((rd_T29 l1 0).f0), .int .i64 ((rd_T29 l1 0).f1), .string (⟨#[]⟩ : ByteArray)]) ?_ 2 _ rfl; (with_reducible repeat (first | refine blk_drewN ?_ _ | refine blk_drew ?_ | refine blk_alloc ?_ _)); refine blk_put (cs := #[.int .i64 ((rd_T29 l1 0).f0), .int .i64 0, .string (⟨#[]⟩ : ByteArray)]) ?_ 1 _ rfl; (with_reducible repeat (first | refine blk_drewN ?_ _ | refine blk_drew ?_ | refine blk_alloc ?_ _)); refine blk_put (cs := #[.int .i64 0, .int .i64 0, .string (⟨#[]⟩ : ByteArray)]) ?_ 0 _ rfl; (with_reducible repeat (first | refine blk_drewN ?_ _ | refine blk_drew ?_ | refine blk_alloc ?_ _)); exact BK211.out⟩, ⟨by repeat (first | (with_reducible first | exact HB.out | apply below_alloc | apply pw_below_drewN | apply below_drew1 | refine below_set ?_ GE209.out | refine below_set ?_ GE211.out) | exact HB.out)⟩⟩
      case rest =>
        clear HC14
        try clear c1
        try clear c2
        try clear p2
        try clear q2
        try clear hx2
        try clear qi2
        try clear c3
        try clear c3b0
        try clear c3b1
        try clear c4
        try clear c4b0
        try clear c4b1
        try clear c6
        try clear c8
        try clear c9
        try clear c17
        try clear c19
        try clear c19b0
        try clear c19b1
        try clear c20
        try clear c20b0
        try clear c20b1
        try clear hcz10_0
        try clear hcz10_1
        try clear hcz10_2
        try clear hcz13_0
        try clear hcz13_1
        try clear hcz13_2
        try clear hcz18_0
        try clear hcz18_1
        try clear hcz18_2
        try clear hfz10_0
        try clear hfz10_1
        try clear hfz10_2
        try clear hfz13_0
        try clear hfz13_1
        try clear hfz13_2
        try clear hfz18_0
        try clear hfz18_1
        try clear hfz18_2
        try clear hx210_0
        try clear hx210_1
        try clear hx210_2
        try clear p210
        try clear q210
        obtain ⟨kq, x26_13, rfl, HA, HJ13, BK209, BK211, HB⟩ := hcut
        cases kq with
        | zero => exact absurd HA.out (by simp [spec_l01Builtin.j0])
        | succ kj13 =>
          have H := HA.out
          clear HA
          simp only [spec_l01Builtin.j0] at H
          by_cases c21 : x26_13 = true
          · subst c21
            have H1 : (if ((rd_T29 l1 0).f0) = 3 then (if (l1.length : Int) > 1 then (if 1 < (l1.length : Int) then (if ((rd_T29 l1 1).f0) = 1 then (if (l1.length : Int) > 2 then (if 2 < (l1.length : Int) then (spec_l01Builtin.j1 kj13 a0 l1 (((rd_T29 l1 2).f0) != 1) ((rd_T29 l1 0).f0) ((rd_T29 l1 0).f1) ((rd_T29 l1 0).f2)) else (none)) else (spec_l01Builtin.j1 kj13 a0 l1 false ((rd_T29 l1 0).f0) ((rd_T29 l1 0).f1) ((rd_T29 l1 0).f2))) else (spec_l01Builtin.j1 kj13 a0 l1 true ((rd_T29 l1 0).f0) ((rd_T29 l1 0).f1) ((rd_T29 l1 0).f2))) else (none)) else (if (l1.length : Int) > 2 then (if 2 < (l1.length : Int) then (spec_l01Builtin.j1 kj13 a0 l1 (((rd_T29 l1 2).f0) != 1) ((rd_T29 l1 0).f0) ((rd_T29 l1 0).f1) ((rd_T29 l1 0).f2)) else (none)) else (spec_l01Builtin.j1 kj13 a0 l1 false ((rd_T29 l1 0).f0) ((rd_T29 l1 0).f1) ((rd_T29 l1 0).f2)))) else (spec_l01Builtin.j1 kj13 a0 l1 true ((rd_T29 l1 0).f0) ((rd_T29 l1 0).f1) ((rd_T29 l1 0).f2))) = some (r1, r2, r3, r4) := by rw [if_pos rfl] at H; exact H
            clear H
            have H := H1
            clear H1
            have HC22 := Aside0.mk H
            clear H
            go_upto_region 5 with (fail)
            go_cut [53] (fun v53 wc => ∃ (kq : Nat) (x53_21 : Bool), v53 = .bool x53_21 ∧ Aside0 (spec_l01Builtin.j1 kq a0 l1 x53_21 ((rd_T29 l1 0).f0) ((rd_T29 l1 0).f1) ((rd_T29 l1 0).f2) = some (r1, r2, r3, r4)) ∧ Aside0 (kq ≤ kj13) ∧ Aside0 (wc.heap[gb209]? = some (.cells #[.int .i64 0, .int .i64 0, .string (⟨#[]⟩ : ByteArray)] 29 (0, 0))) ∧ Aside0 (wc.heap[gb211]? = some (.cells #[.int .i64 ((rd_T29 l1 0).f0), .int .i64 ((rd_T29 l1 0).f1), .string ((rd_T29 l1 0).f2)] 29 (0, 0))) ∧ Aside0 (Below w.heap.size w wc))
            case first =>
              have H := HC22.out
              clear HC22
              by_cases c23 : ((rd_T29 l1 0).f0) = 3
              · rw [if_pos c23] at H
                have c23b0 : (((rd_T29 l1 0).f0) == 3) = true := beq_iff_eq.mpr c23
                have c23b1 : (((rd_T29 l1 0).f0) != 3) = false := bne_eq_false_iff_eq.mpr c23
                clear c23
                (first | rw [c23b0] | (simp only [i64_w, i32_w]; rw [c23b0]) | skip)
                by_cases c24 : (l1.length : Int) > 1
                · rw [if_pos c24] at H
                  have c24b0 : decide (1 < (l1.length : Int)) = true := decide_eq_true c24
                  have c24b1 : decide (1 < l1.length) = true := decide_eq_true (by omega)
                  clear c24
                  by_cases c25 : 1 < (l1.length : Int)
                  · rw [if_pos c25] at H
                    have c25b0 : decide (1 < (l1.length : Int)) = true := decide_eq_true c25
                    have c25b1 : decide (1 < l1.length) = true := decide_eq_true (by omega)
                    clear c25
                    by_cases c26 : ((rd_T29 l1 1).f0) = 1
                    · rw [if_pos c26] at H
                      have c26b0 : (((rd_T29 l1 1).f0) == 1) = true := beq_iff_eq.mpr c26
                      have c26b1 : (((rd_T29 l1 1).f0) != 1) = false := bne_eq_false_iff_eq.mpr c26
                      clear c26
                      by_cases c27 : (l1.length : Int) > 2
                      · rw [if_pos c27] at H
                        have c27b0 : decide (2 < (l1.length : Int)) = true := decide_eq_true c27
                        have c27b1 : decide (2 < l1.length) = true := decide_eq_true (by omega)
                        clear c27
                        by_cases c28 : 2 < (l1.length : Int)
                        · rw [if_pos c28] at H
                          have c28b0 : decide (2 < (l1.length : Int)) = true := decide_eq_true c28
                          have c28b1 : decide (2 < l1.length) = true := decide_eq_true (by omega)
                          clear c28
                          have H' := Aside0.mk H
                          clear H
                          have hnb29 := NB211_209.out
                          have hnc29 := NB209_211.out
                          have hcz30_0 : wc.cell? ⟨gb211, 0, none⟩ = some (.int .i64 ((rd_T29 l1 0).f0)) := (blk_cell BK211.out 0).trans rfl
                          have hcz30_1 : wc.cell? ⟨gb211, 1, none⟩ = some (.int .i64 ((rd_T29 l1 0).f1)) := (blk_cell BK211.out 1).trans rfl
                          have hcz30_2 : wc.cell? ⟨gb211, 2, none⟩ = some (.string ((rd_T29 l1 0).f2)) := (blk_cell BK211.out 2).trans rfl
                          have hfz30_0 := blk_frozen BK211.out 0
                          have hfz30_1 := blk_frozen BK211.out 1
                          have hfz30_2 := blk_frozen BK211.out 2
                          have p216 : 0 ≤ (1 : Int) := (by omega)
                          have q216 : 1 < (l1.length : Int) := of_decide_eq_true (by first | (with_reducible assumption) | assumption)
                          obtain ⟨ad216, e216, hx216_0, hx216_1, hx216_2⟩ := at_T29 HR1.out 1 p216 q216
                          obtain rfl : ad210 = ad216 := (by injection e216)
                          (try simp only [show (1 : Int).toNat = 1 from rfl, Nat.reduceMul, Nat.reduceEqDiff, Go.Addr.add, ↓reduceIte] at hx216_0)
                          (try simp only [show (1 : Int).toNat = 1 from rfl, Nat.reduceMul, Nat.reduceEqDiff, Go.Addr.add, ↓reduceIte] at hx216_1)
                          (try simp only [show (1 : Int).toNat = 1 from rfl, Nat.reduceMul, Nat.reduceEqDiff, Go.Addr.add, ↓reduceIte] at hx216_2)
                          have qi216 : (1 < l1.length) = True := eq_true (by omega)
                          (try rw [show ((1 : Int)).toNat = 1 from rfl] at hx216_0)
                          (try rw [show 1 * 3 = 3 from rfl] at hx216_0)
                          (try rw [show ((1 : Int)).toNat = 1 from rfl] at hx216_1)
                          (try rw [show 1 * 3 = 3 from rfl] at hx216_1)
                          (try rw [show ((1 : Int)).toNat = 1 from rfl] at hx216_2)
                          (try rw [show 1 * 3 = 3 from rfl] at hx216_2)
                          replace hx216_0 := (HB.out.cell (World.block_lt_of_cell? w _ hx216_0)).trans hx216_0
                          replace hx216_1 := (HB.out.cell (World.block_lt_of_cell? w _ hx216_1)).trans hx216_1
                          replace hx216_2 := (HB.out.cell (World.block_lt_of_cell? w _ hx216_2)).trans hx216_2
                          replace p216 := eq_true p216
                          replace q216 := eq_true q216
                          have p217 : 0 ≤ (2 : Int) := (by omega)
                          have q217 : 2 < (l1.length : Int) := of_decide_eq_true (by first | (with_reducible assumption) | assumption)
                          obtain ⟨ad217, e217, hx217_0, hx217_1, hx217_2⟩ := at_T29 HR1.out 2 p217 q217
                          obtain rfl : ad210 = ad217 := (by injection e217)
                          (try simp only [show (2 : Int).toNat = 2 from rfl, Nat.reduceMul, Nat.reduceEqDiff, Go.Addr.add, ↓reduceIte] at hx217_0)
                          (try simp only [show (2 : Int).toNat = 2 from rfl, Nat.reduceMul, Nat.reduceEqDiff, Go.Addr.add, ↓reduceIte] at hx217_1)
                          (try simp only [show (2 : Int).toNat = 2 from rfl, Nat.reduceMul, Nat.reduceEqDiff, Go.Addr.add, ↓reduceIte] at hx217_2)
                          have qi217 : (2 < l1.length) = True := eq_true (by omega)
                          (try rw [show ((2 : Int)).toNat = 2 from rfl] at hx217_0)
                          (try rw [show 2 * 3 = 6 from rfl] at hx217_0)
                          (try rw [show ((2 : Int)).toNat = 2 from rfl] at hx217_1)
                          (try rw [show 2 * 3 = 6 from rfl] at hx217_1)
                          (try rw [show ((2 : Int)).toNat = 2 from rfl] at hx217_2)
                          (try rw [show 2 * 3 = 6 from rfl] at hx217_2)
                          replace hx217_0 := (HB.out.cell (World.block_lt_of_cell? w _ hx217_0)).trans hx217_0
                          replace hx217_1 := (HB.out.cell (World.block_lt_of_cell? w _ hx217_1)).trans hx217_1
                          replace hx217_2 := (HB.out.cell (World.block_lt_of_cell? w _ hx217_2)).trans hx217_2
                          replace p217 := eq_true p217
                          replace q217 := eq_true q217
                          go_wp2
                          go_meet
                          case rel => exact ⟨_, ((((rd_T29 l1 2).f0) != 1)), (by first | rfl | (simp; done) | (simp [*]; done)), H', ⟨by have := HJ13.out; first | omega | exact Nat.le_refl _⟩, ⟨by (with_reducible repeat (first | refine blk_drewN ?_ _ | refine blk_drew ?_ | refine blk_alloc ?_ _)); exact BK209.out⟩, ⟨by (with_reducible repeat (first | refine blk_drewN ?_ _ | refine blk_drew ?_ | refine blk_alloc ?_ _)); exact BK211.out⟩, ⟨by repeat (first | (with_reducible first | exact HB.out | apply below_alloc | apply pw_below_drewN | apply below_drew1 | refine below_set ?_ GE209.out | refine below_set ?_ GE211.out) | exact HB.out)⟩⟩
                        · rw [if_neg c28] at H
                          exact absurd H (by simp)
                      · rw [if_neg c27] at H
                        have c27b0 : decide (2 < (l1.length : Int)) = false := decide_eq_false c27
                        have c27b1 : decide (2 < l1.length) = false := decide_eq_false (by omega)
                        clear c27
                        have H' := Aside0.mk H
                        clear H
                        have hnb31 := NB211_209.out
                        have hnc31 := NB209_211.out
                        have hcz32_0 : wc.cell? ⟨gb211, 0, none⟩ = some (.int .i64 ((rd_T29 l1 0).f0)) := (blk_cell BK211.out 0).trans rfl
                        have hcz32_1 : wc.cell? ⟨gb211, 1, none⟩ = some (.int .i64 ((rd_T29 l1 0).f1)) := (blk_cell BK211.out 1).trans rfl
                        have hcz32_2 : wc.cell? ⟨gb211, 2, none⟩ = some (.string ((rd_T29 l1 0).f2)) := (blk_cell BK211.out 2).trans rfl
                        have hfz32_0 := blk_frozen BK211.out 0
                        have hfz32_1 := blk_frozen BK211.out 1
                        have hfz32_2 := blk_frozen BK211.out 2
                        have p216 : 0 ≤ (1 : Int) := (by omega)
                        have q216 : 1 < (l1.length : Int) := of_decide_eq_true (by first | (with_reducible assumption) | assumption)
                        obtain ⟨ad216, e216, hx216_0, hx216_1, hx216_2⟩ := at_T29 HR1.out 1 p216 q216
                        obtain rfl : ad210 = ad216 := (by injection e216)
                        (try simp only [show (1 : Int).toNat = 1 from rfl, Nat.reduceMul, Nat.reduceEqDiff, Go.Addr.add, ↓reduceIte] at hx216_0)
                        (try simp only [show (1 : Int).toNat = 1 from rfl, Nat.reduceMul, Nat.reduceEqDiff, Go.Addr.add, ↓reduceIte] at hx216_1)
                        (try simp only [show (1 : Int).toNat = 1 from rfl, Nat.reduceMul, Nat.reduceEqDiff, Go.Addr.add, ↓reduceIte] at hx216_2)
                        have qi216 : (1 < l1.length) = True := eq_true (by omega)
                        (try rw [show ((1 : Int)).toNat = 1 from rfl] at hx216_0)
                        (try rw [show 1 * 3 = 3 from rfl] at hx216_0)
                        (try rw [show ((1 : Int)).toNat = 1 from rfl] at hx216_1)
                        (try rw [show 1 * 3 = 3 from rfl] at hx216_1)
                        (try rw [show ((1 : Int)).toNat = 1 from rfl] at hx216_2)
                        (try rw [show 1 * 3 = 3 from rfl] at hx216_2)
                        replace hx216_0 := (HB.out.cell (World.block_lt_of_cell? w _ hx216_0)).trans hx216_0
                        replace hx216_1 := (HB.out.cell (World.block_lt_of_cell? w _ hx216_1)).trans hx216_1
                        replace hx216_2 := (HB.out.cell (World.block_lt_of_cell? w _ hx216_2)).trans hx216_2
                        replace p216 := eq_true p216
                        replace q216 := eq_true q216
                        go_wp2
                        go_meet
                        case rel => exact ⟨_, (false), (by first | rfl | (simp; done) | (simp [*]; done)), H', ⟨by have := HJ13.out; first | omega | exact Nat.le_refl _⟩, ⟨by (with_reducible repeat (first | refine blk_drewN ?_ _ | refine blk_drew ?_ | refine blk_alloc ?_ _)); exact BK209.out⟩, ⟨by (with_reducible repeat (first | refine blk_drewN ?_ _ | refine blk_drew ?_ | refine blk_alloc ?_ _)); exact BK211.out⟩, ⟨by repeat (first | (with_reducible first | exact HB.out | apply below_alloc | apply pw_below_drewN | apply below_drew1 | refine below_set ?_ GE209.out | refine below_set ?_ GE211.out) | exact HB.out)⟩⟩
                    · rw [if_neg c26] at H
                      have c26b0 : (((rd_T29 l1 1).f0) == 1) = false := beq_eq_false_iff_ne.mpr c26
                      have c26b1 : (((rd_T29 l1 1).f0) != 1) = true := bne_iff_ne.mpr c26
                      have H' := Aside0.mk H
                      clear H
                      have hnb33 := NB211_209.out
                      have hnc33 := NB209_211.out
                      have hcz34_0 : wc.cell? ⟨gb211, 0, none⟩ = some (.int .i64 ((rd_T29 l1 0).f0)) := (blk_cell BK211.out 0).trans rfl
                      have hcz34_1 : wc.cell? ⟨gb211, 1, none⟩ = some (.int .i64 ((rd_T29 l1 0).f1)) := (blk_cell BK211.out 1).trans rfl
                      have hcz34_2 : wc.cell? ⟨gb211, 2, none⟩ = some (.string ((rd_T29 l1 0).f2)) := (blk_cell BK211.out 2).trans rfl
                      have hfz34_0 := blk_frozen BK211.out 0
                      have hfz34_1 := blk_frozen BK211.out 1
                      have hfz34_2 := blk_frozen BK211.out 2
                      have p216 : 0 ≤ (1 : Int) := (by omega)
                      have q216 : 1 < (l1.length : Int) := of_decide_eq_true (by first | (with_reducible assumption) | assumption)
                      obtain ⟨ad216, e216, hx216_0, hx216_1, hx216_2⟩ := at_T29 HR1.out 1 p216 q216
                      obtain rfl : ad210 = ad216 := (by injection e216)
                      (try simp only [show (1 : Int).toNat = 1 from rfl, Nat.reduceMul, Nat.reduceEqDiff, Go.Addr.add, ↓reduceIte] at hx216_0)
                      (try simp only [show (1 : Int).toNat = 1 from rfl, Nat.reduceMul, Nat.reduceEqDiff, Go.Addr.add, ↓reduceIte] at hx216_1)
                      (try simp only [show (1 : Int).toNat = 1 from rfl, Nat.reduceMul, Nat.reduceEqDiff, Go.Addr.add, ↓reduceIte] at hx216_2)
                      have qi216 : (1 < l1.length) = True := eq_true (by omega)
                      (try rw [show ((1 : Int)).toNat = 1 from rfl] at hx216_0)
                      (try rw [show 1 * 3 = 3 from rfl] at hx216_0)
                      (try rw [show ((1 : Int)).toNat = 1 from rfl] at hx216_1)
                      (try rw [show 1 * 3 = 3 from rfl] at hx216_1)
                      (try rw [show ((1 : Int)).toNat = 1 from rfl] at hx216_2)
                      (try rw [show 1 * 3 = 3 from rfl] at hx216_2)
                      replace hx216_0 := (HB.out.cell (World.block_lt_of_cell? w _ hx216_0)).trans hx216_0
                      replace hx216_1 := (HB.out.cell (World.block_lt_of_cell? w _ hx216_1)).trans hx216_1
                      replace hx216_2 := (HB.out.cell (World.block_lt_of_cell? w _ hx216_2)).trans hx216_2
                      replace p216 := eq_true p216
                      replace q216 := eq_true q216
                      go_wp2
                      go_meet
                      case rel => exact ⟨_, (true), (by first | rfl | (simp; done) | (simp [*]; done)), H', ⟨by have := HJ13.out; first | omega | exact Nat.le_refl _⟩, ⟨by (with_reducible repeat (first | refine blk_drewN ?_ _ | refine blk_drew ?_ | refine blk_alloc ?_ _)); exact BK209.out⟩, ⟨by (with_reducible repeat (first | refine blk_drewN ?_ _ | refine blk_drew ?_ | refine blk_alloc ?_ _)); exact BK211.out⟩, ⟨by repeat (first | (with_reducible first | exact HB.out | apply below_alloc | apply pw_below_drewN | apply below_drew1 | refine below_set ?_ GE209.out | refine below_set ?_ GE211.out) | exact HB.out)⟩⟩
                  · rw [if_neg c25] at H
                    exact absurd H (by simp)
                · rw [if_neg c24] at H
                  have c24b0 : decide (1 < (l1.length : Int)) = false := decide_eq_false c24
                  have c24b1 : decide (1 < l1.length) = false := decide_eq_false (by omega)
                  clear c24
                  by_cases c35 : (l1.length : Int) > 2
                  · rw [if_pos c35] at H
                    have c35b0 : decide (2 < (l1.length : Int)) = true := decide_eq_true c35
                    have c35b1 : decide (2 < l1.length) = true := decide_eq_true (by omega)
                    clear c35
                    by_cases c36 : 2 < (l1.length : Int)
                    · rw [if_pos c36] at H
                      have c36b0 : decide (2 < (l1.length : Int)) = true := decide_eq_true c36
                      have c36b1 : decide (2 < l1.length) = true := decide_eq_true (by omega)
                      clear c36
                      have H' := Aside0.mk H
                      clear H
                      have hnb37 := NB211_209.out
                      have hnc37 := NB209_211.out
                      have hcz38_0 : wc.cell? ⟨gb211, 0, none⟩ = some (.int .i64 ((rd_T29 l1 0).f0)) := (blk_cell BK211.out 0).trans rfl
                      have hcz38_1 : wc.cell? ⟨gb211, 1, none⟩ = some (.int .i64 ((rd_T29 l1 0).f1)) := (blk_cell BK211.out 1).trans rfl
                      have hcz38_2 : wc.cell? ⟨gb211, 2, none⟩ = some (.string ((rd_T29 l1 0).f2)) := (blk_cell BK211.out 2).trans rfl
                      have hfz38_0 := blk_frozen BK211.out 0
                      have hfz38_1 := blk_frozen BK211.out 1
                      have hfz38_2 := blk_frozen BK211.out 2
                      have p218 : 0 ≤ (2 : Int) := (by omega)
                      have q218 : 2 < (l1.length : Int) := of_decide_eq_true (by first | (with_reducible assumption) | assumption)
                      obtain ⟨ad218, e218, hx218_0, hx218_1, hx218_2⟩ := at_T29 HR1.out 2 p218 q218
                      obtain rfl : ad210 = ad218 := (by injection e218)
                      (try simp only [show (2 : Int).toNat = 2 from rfl, Nat.reduceMul, Nat.reduceEqDiff, Go.Addr.add, ↓reduceIte] at hx218_0)
                      (try simp only [show (2 : Int).toNat = 2 from rfl, Nat.reduceMul, Nat.reduceEqDiff, Go.Addr.add, ↓reduceIte] at hx218_1)
                      (try simp only [show (2 : Int).toNat = 2 from rfl, Nat.reduceMul, Nat.reduceEqDiff, Go.Addr.add, ↓reduceIte] at hx218_2)
                      have qi218 : (2 < l1.length) = True := eq_true (by omega)
                      (try rw [show ((2 : Int)).toNat = 2 from rfl] at hx218_0)
                      (try rw [show 2 * 3 = 6 from rfl] at hx218_0)
                      (try rw [show ((2 : Int)).toNat = 2 from rfl] at hx218_1)
                      (try rw [show 2 * 3 = 6 from rfl] at hx218_1)
                      (try rw [show ((2 : Int)).toNat = 2 from rfl] at hx218_2)
                      (try rw [show 2 * 3 = 6 from rfl] at hx218_2)
                      replace hx218_0 := (HB.out.cell (World.block_lt_of_cell? w _ hx218_0)).trans hx218_0
                      replace hx218_1 := (HB.out.cell (World.block_lt_of_cell? w _ hx218_1)).trans hx218_1
                      replace hx218_2 := (HB.out.cell (World.block_lt_of_cell? w _ hx218_2)).trans hx218_2
                      replace p218 := eq_true p218
                      replace q218 := eq_true q218
                      go_wp2
                      go_meet
                      case rel => exact ⟨_, ((((rd_T29 l1 2).f0) != 1)), (by first | rfl | (simp; done) | (simp [*]; done)), H', ⟨by have := HJ13.out; first | omega | exact Nat.le_refl _⟩, ⟨by (with_reducible repeat (first | refine blk_drewN ?_ _ | refine blk_drew ?_ | refine blk_alloc ?_ _)); exact BK209.out⟩, ⟨by (with_reducible repeat (first | refine blk_drewN ?_ _ | refine blk_drew ?_ | refine blk_alloc ?_ _)); exact BK211.out⟩, ⟨by repeat (first | (with_reducible first | exact HB.out | apply below_alloc | apply pw_below_drewN | apply below_drew1 | refine below_set ?_ GE209.out | refine below_set ?_ GE211.out) | exact HB.out)⟩⟩
                    · rw [if_neg c36] at H
                      exact absurd H (by simp)
                  · rw [if_neg c35] at H
                    have c35b0 : decide (2 < (l1.length : Int)) = false := decide_eq_false c35
                    have c35b1 : decide (2 < l1.length) = false := decide_eq_false (by omega)
                    clear c35
                    have H' := Aside0.mk H
                    clear H
                    have hnb39 := NB211_209.out
                    have hnc39 := NB209_211.out
                    have hcz40_0 : wc.cell? ⟨gb211, 0, none⟩ = some (.int .i64 ((rd_T29 l1 0).f0)) := (blk_cell BK211.out 0).trans rfl
                    have hcz40_1 : wc.cell? ⟨gb211, 1, none⟩ = some (.int .i64 ((rd_T29 l1 0).f1)) := (blk_cell BK211.out 1).trans rfl
                    have hcz40_2 : wc.cell? ⟨gb211, 2, none⟩ = some (.string ((rd_T29 l1 0).f2)) := (blk_cell BK211.out 2).trans rfl
                    have hfz40_0 := blk_frozen BK211.out 0
                    have hfz40_1 := blk_frozen BK211.out 1
                    have hfz40_2 := blk_frozen BK211.out 2
                    go_wp2
                    go_meet
                    case rel => exact ⟨_, (false), (by first | rfl | (simp; done) | (simp [*]; done)), H', ⟨by have := HJ13.out; first | omega | exact Nat.le_refl _⟩, ⟨by (with_reducible repeat (first | refine blk_drewN ?_ _ | refine blk_drew ?_ | refine blk_alloc ?_ _)); exact BK209.out⟩, ⟨by (with_reducible repeat (first | refine blk_drewN ?_ _ | refine blk_drew ?_ | refine blk_alloc ?_ _)); exact BK211.out⟩, ⟨by repeat (first | (with_reducible first | exact HB.out | apply below_alloc | apply pw_below_drewN | apply below_drew1 | refine below_set ?_ GE209.out | refine below_set ?_ GE211.out) | exact HB.out)⟩⟩
              · rw [if_neg c23] at H
                have c23b0 : (((rd_T29 l1 0).f0) == 3) = false := beq_eq_false_iff_ne.mpr c23
                have c23b1 : (((rd_T29 l1 0).f0) != 3) = true := bne_iff_ne.mpr c23
                (first | rw [c23b0] | (simp only [i64_w, i32_w]; rw [c23b0]) | skip)
                have H' := Aside0.mk H
                clear H
                have hnb41 := NB211_209.out
                have hnc41 := NB209_211.out
                have hcz42_0 : wc.cell? ⟨gb211, 0, none⟩ = some (.int .i64 ((rd_T29 l1 0).f0)) := (blk_cell BK211.out 0).trans rfl
                have hcz42_1 : wc.cell? ⟨gb211, 1, none⟩ = some (.int .i64 ((rd_T29 l1 0).f1)) := (blk_cell BK211.out 1).trans rfl
                have hcz42_2 : wc.cell? ⟨gb211, 2, none⟩ = some (.string ((rd_T29 l1 0).f2)) := (blk_cell BK211.out 2).trans rfl
                have hfz42_0 := blk_frozen BK211.out 0
                have hfz42_1 := blk_frozen BK211.out 1
                have hfz42_2 := blk_frozen BK211.out 2
                go_wp2
                go_meet
                case rel => exact ⟨_, (true), (by first | rfl | (simp; done) | (simp [*]; done)), H', ⟨by have := HJ13.out; first | omega | exact Nat.le_refl _⟩, ⟨by (with_reducible repeat (first | refine blk_drewN ?_ _ | refine blk_drew ?_ | refine blk_alloc ?_ _)); exact BK209.out⟩, ⟨by (with_reducible repeat (first | refine blk_drewN ?_ _ | refine blk_drew ?_ | refine blk_alloc ?_ _)); exact BK211.out⟩, ⟨by repeat (first | (with_reducible first | exact HB.out | apply below_alloc | apply pw_below_drewN | apply below_drew1 | refine below_set ?_ GE209.out | refine below_set ?_ GE211.out) | exact HB.out)⟩⟩
            case rest =>
              clear HC22
              try clear c1
              try clear c2
              try clear p2
              try clear q2
              try clear hx2
              try clear qi2
              try clear c3
              try clear c3b0
              try clear c3b1
              try clear c4
              try clear c4b0
              try clear c4b1
              try clear c6
              try clear c8
              try clear c9
              try clear c17
              try clear c19
              try clear c19b0
              try clear c19b1
              try clear c20
              try clear c20b0
              try clear c20b1
              try clear c21
              try clear p21
              try clear q21
              try clear hx21
              try clear qi21
              try clear c23
              try clear c23b0
              try clear c23b1
              try clear c24
              try clear c24b0
              try clear c24b1
              try clear c25
              try clear c25b0
              try clear c25b1
              try clear c26
              try clear c26b0
              try clear c26b1
              try clear c27
              try clear c27b0
              try clear c27b1
              try clear c28
              try clear c28b0
              try clear c28b1
              try clear c29
              try clear c31
              try clear c33
              try clear c35
              try clear c35b0
              try clear c35b1
              try clear c36
              try clear c36b0
              try clear c36b1
              try clear c37
              try clear c39
              try clear c41
              try clear hcz10_0
              try clear hcz10_1
              try clear hcz10_2
              try clear hcz13_0
              try clear hcz13_1
              try clear hcz13_2
              try clear hcz18_0
              try clear hcz18_1
              try clear hcz18_2
              try clear hcz30_0
              try clear hcz30_1
              try clear hcz30_2
              try clear hcz32_0
              try clear hcz32_1
              try clear hcz32_2
              try clear hcz34_0
              try clear hcz34_1
              try clear hcz34_2
              try clear hcz38_0
              try clear hcz38_1
              try clear hcz38_2
              try clear hcz40_0
              try clear hcz40_1
              try clear hcz40_2
              try clear hcz42_0
              try clear hcz42_1
              try clear hcz42_2
              try clear hfz10_0
              try clear hfz10_1
              try clear hfz10_2
              try clear hfz13_0
              try clear hfz13_1
              try clear hfz13_2
              try clear hfz18_0
              try clear hfz18_1
              try clear hfz18_2
              try clear hfz30_0
              try clear hfz30_1
              try clear hfz30_2
              try clear hfz32_0
              try clear hfz32_1
              try clear hfz32_2
              try clear hfz34_0
              try clear hfz34_1
              try clear hfz34_2
              try clear hfz38_0
              try clear hfz38_1
              try clear hfz38_2
              try clear hfz40_0
              try clear hfz40_1
              try clear hfz40_2
              try clear hfz42_0
              try clear hfz42_1
              try clear hfz42_2
              try clear hx210_0
              try clear hx210_1
              try clear hx210_2
              try clear hx216_0
              try clear hx216_1
              try clear hx216_2
              try clear hx217_0
              try clear hx217_1
              try clear hx217_2
              try clear hx218_0
              try clear hx218_1
              try clear hx218_2
              try clear p2
              try clear p210
              try clear p216
              try clear p217
              try clear p218
              try clear q2
              try clear q210
              try clear q216
              try clear q217
              try clear q218
              obtain ⟨kq, x53_21, rfl, HA, HJ21, BK209, BK211, HB⟩ := hcut
              cases kq with
              | zero => exact absurd HA.out (by simp [spec_l01Builtin.j1])
              | succ kj21 =>
                have H := HA.out
                clear HA
                simp only [spec_l01Builtin.j1] at H
                by_cases c43 : x53_21 = true
                · subst c43
                  have H1 : (some (0, 0, (⟨#[]⟩ : ByteArray), 8)) = some (r1, r2, r3, r4) := by rw [if_pos rfl] at H; exact H
                  clear H
                  have H := H1
                  clear H1
                  simp only [Option.some.injEq, Prod.mk.injEq] at H
                  obtain ⟨rfl, rfl, rfl, rfl⟩ := H
                  have hnb44 := NB209_211.out
                  have hnc44 := NB211_209.out
                  have hcz45_0 : wc.cell? ⟨gb209, 0, none⟩ = some (.int .i64 0) := (blk_cell BK209.out 0).trans rfl
                  have hcz45_1 : wc.cell? ⟨gb209, 1, none⟩ = some (.int .i64 0) := (blk_cell BK209.out 1).trans rfl
                  have hcz45_2 : wc.cell? ⟨gb209, 2, none⟩ = some (.string (⟨#[]⟩ : ByteArray)) := (blk_cell BK209.out 2).trans rfl
                  have hfz45_0 := blk_frozen BK209.out 0
                  have hfz45_1 := blk_frozen BK209.out 1
                  have hfz45_2 := blk_frozen BK209.out 2
                  go_wp2
                  refine bodyPost_ret (results_ct rfl _ _ gb209 29 #[.int .i64 0, .int .i64 0, .string (⟨#[]⟩ : ByteArray)] (0, 0) _ rfl (by (with_reducible repeat (first | refine blk_drewN ?_ _ | refine blk_drew ?_ | refine blk_alloc ?_ _)); refine blk_put (cs := #[.int .i64 0, .int .i64 0, .string (⟨#[]⟩ : ByteArray)]) ?_ 2 _ rfl; (with_reducible repeat (first | refine blk_drewN ?_ _ | refine blk_drew ?_ | refine blk_alloc ?_ _)); refine blk_put (cs := #[.int .i64 0, .int .i64 0, .string (⟨#[]⟩ : ByteArray)]) ?_ 1 _ rfl; (with_reducible repeat (first | refine blk_drewN ?_ _ | refine blk_drew ?_ | refine blk_alloc ?_ _)); refine blk_put (cs := #[.int .i64 0, .int .i64 0, .string (⟨#[]⟩ : ByteArray)]) ?_ 0 _ rfl; (with_reducible repeat (first | refine blk_drewN ?_ _ | refine blk_drew ?_ | refine blk_alloc ?_ _)); exact BK209.out) Tryd.underlying29 rfl (by kernel_rfl)) rfl ?_
                  exact ⟨by first | rfl | exact My.ret_isEmpty _ | (simp [errW_none, errW_some] <;> rfl) | (simp [*, errW_none, errW_some] <;> rfl), by repeat (first | (with_reducible first | exact HB.out | apply below_alloc | apply pw_below_drewN | apply below_drew1 | refine below_set ?_ GE209.out | refine below_set ?_ GE211.out) | exact HB.out)⟩
                · replace c43 := Bool.eq_false_iff.mpr c43
                  subst c43
                  have H1 : (if a0.toList = ([108, 101, 110] : List UInt8) then ((spec_l01Int.f (((rd_T29 l1 0).f2).size : Int)).bind fun bt219 => (some (bt219.1, bt219.2.1, bt219.2.2, 0))) else (if a0.toList = ([97, 116] : List UInt8) then (if 1 < (l1.length : Int) then ((spec_l01In.f ((rd_T29 l1 1).f1) 0 (wrap64 ((((rd_T29 l1 0).f2).size : Int) - 1))).bind fun t223 => (if t223 = true then (if 0 ≤ ((rd_T29 l1 1).f1) then (if ((rd_T29 l1 1).f1) < (((rd_T29 l1 0).f2).size : Int) then ((spec_l01Int.f (wrap64 (bt ((rd_T29 l1 0).f2) ((rd_T29 l1 1).f1)))).bind fun bt225 => (some (bt225.1, bt225.2.1, bt225.2.2, 0))) else (none)) else (none)) else (some (0, 0, (⟨#[]⟩ : ByteArray), 4)))) else (none)) else (if 1 < (l1.length : Int) then (if 2 < (l1.length : Int) then ((spec_l01In.f ((rd_T29 l1 1).f1) 0 (((rd_T29 l1 0).f2).size : Int)).bind fun t230 => (if t230 = true then ((spec_l01In.f ((rd_T29 l1 2).f1) ((rd_T29 l1 1).f1) (((rd_T29 l1 0).f2).size : Int)).bind fun t231 => (if t231 = true then (if 0 ≤ ((rd_T29 l1 1).f1) then (if ((rd_T29 l1 1).f1) ≤ ((rd_T29 l1 2).f1) then (if ((rd_T29 l1 2).f1) ≤ (((rd_T29 l1 0).f2).size : Int) then ((spec_l01Text.f (((rd_T29 l1 0).f2).extract (((rd_T29 l1 1).f1) : Int).toNat (((rd_T29 l1 2).f1) : Int).toNat)).bind fun bt232 => (some (bt232.1, bt232.2.1, bt232.2.2, 0))) else (none)) else (none)) else (none)) else (some (0, 0, (⟨#[]⟩ : ByteArray), 4)))) else (some (0, 0, (⟨#[]⟩ : ByteArray), 4)))) else (none)) else (none)))) = some (r1, r2, r3, r4) := by rw [if_neg (show ¬ (false = true) by decide)] at H; exact H
                  clear H
                  have H := H1
                  clear H1
                  by_cases c46 : a0.toList = ([108, 101, 110] : List UInt8)
                  · rw [if_pos c46] at H
                    have c46b0 : (a0.toList == ([108, 101, 110] : List UInt8)) = true := beq_iff_eq.mpr c46
                    have c46b1 : (a0.toList != ([108, 101, 110] : List UInt8)) = false := bne_eq_false_iff_eq.mpr c46
                    clear c46
                    replace H := Option.bind_eq_some_iff.mp H
                    obtain ⟨⟨t219, t220, t221⟩, A470, H⟩ := H
                    replace H : (some (t219, t220, t221, 0)) = some (r1, r2, r3, r4) := H
                    have A47 := Aside0.mk A470
                    clear A470
                    simp only [Option.some.injEq, Prod.mk.injEq] at H
                    obtain ⟨rfl, rfl, rfl, rfl⟩ := H
                    have hnb48 := NB211_209.out
                    have hnc48 := NB209_211.out
                    have hcz49_0 : wc.cell? ⟨gb211, 0, none⟩ = some (.int .i64 ((rd_T29 l1 0).f0)) := (blk_cell BK211.out 0).trans rfl
                    have hcz49_1 : wc.cell? ⟨gb211, 1, none⟩ = some (.int .i64 ((rd_T29 l1 0).f1)) := (blk_cell BK211.out 1).trans rfl
                    have hcz49_2 : wc.cell? ⟨gb211, 2, none⟩ = some (.string ((rd_T29 l1 0).f2)) := (blk_cell BK211.out 2).trans rfl
                    have hfz49_0 := blk_frozen BK211.out 0
                    have hfz49_1 := blk_frozen BK211.out 1
                    have hfz49_2 := blk_frozen BK211.out 2
                    go_wp2_with (first | ((with_reducible refine gate_callee (f := 85) rfl ?_); refine goesL_ (some 61) rfl rfl Tryd.func85 (by kernel_rfl) rfl #[.int .i64 (((rd_T29 l1 0).f2).size : Int)] rfl (by (try simp only [List.map_toArray, List.map_cons, List.map_nil]); first | done | rfl | (simp only [List.length_drop, List.length_take]; rfl)) ?_; (with_reducible refine (spec_l01Int.calls (((rd_T29 l1 0).f2).size : Int) t219 t220 t221 _ A47.out).mono ?_); rintro e w50 ⟨rfl, hb⟩; refine ⟨_, rfl, ?_⟩; have n0_ := Aside0.mk (blk_below (g := gb209) (o := .cells #[.int .i64 0, .int .i64 0, .string (⟨#[]⟩ : ByteArray)] 29 (0, 0)) (by (with_reducible repeat (first | refine blk_drewN ?_ _ | refine blk_drew ?_ | refine blk_alloc ?_ _)); exact BK209.out) hb); have n1_ := Aside0.mk (blk_below (g := gb211) (o := .cells #[.int .i64 ((rd_T29 l1 0).f0), .int .i64 ((rd_T29 l1 0).f1), .string ((rd_T29 l1 0).f2)] 29 (0, 0)) (by (with_reducible repeat (first | refine blk_drewN ?_ _ | refine blk_drew ?_ | refine blk_alloc ?_ _)); exact BK211.out) hb); have n2_ := Aside0.mk (below_step (by repeat (first | (with_reducible first | exact HB.out | apply below_alloc | apply pw_below_drewN | apply below_drew1 | refine below_set ?_ GE209.out | refine below_set ?_ GE211.out) | exact HB.out)) hb); clear BK209; clear BK211; clear HB; have BK209 := n0_; have BK211 := n1_; have HB := n2_; clear n0_ n1_ n2_; (try clear hb); (try clear hb2); (try clear hk); (try clear hi); have hcz51_0 : w50.cell? ⟨gb209, 0, none⟩ = some (.int .i64 0) := (blk_cell BK209.out 0).trans rfl; have hcz51_1 : w50.cell? ⟨gb209, 1, none⟩ = some (.int .i64 0) := (blk_cell BK209.out 1).trans rfl; have hcz51_2 : w50.cell? ⟨gb209, 2, none⟩ = some (.string (⟨#[]⟩ : ByteArray)) := (blk_cell BK209.out 2).trans rfl; have hfz51_0 := blk_frozen BK209.out 0; have hfz51_1 := blk_frozen BK209.out 1; have hfz51_2 := blk_frozen BK209.out 2))
                    refine bodyPost_ret (results_ct rfl _ _ gb209 29 #[.int .i64 t219, .int .i64 t220, .string t221] (0, 0) _ rfl (by (with_reducible repeat (first | refine blk_drewN ?_ _ | refine blk_drew ?_ | refine blk_alloc ?_ _)); refine blk_put (cs := #[.int .i64 t219, .int .i64 t220, .string (⟨#[]⟩ : ByteArray)]) ?_ 2 _ rfl; (with_reducible repeat (first | refine blk_drewN ?_ _ | refine blk_drew ?_ | refine blk_alloc ?_ _)); refine blk_put (cs := #[.int .i64 t219, .int .i64 0, .string (⟨#[]⟩ : ByteArray)]) ?_ 1 _ rfl; (with_reducible repeat (first | refine blk_drewN ?_ _ | refine blk_drew ?_ | refine blk_alloc ?_ _)); refine blk_put (cs := #[.int .i64 0, .int .i64 0, .string (⟨#[]⟩ : ByteArray)]) ?_ 0 _ rfl; (with_reducible repeat (first | refine blk_drewN ?_ _ | refine blk_drew ?_ | refine blk_alloc ?_ _)); exact BK209.out) Tryd.underlying29 rfl (by kernel_rfl)) rfl ?_
                    exact ⟨by first | rfl | exact My.ret_isEmpty _ | (simp [errW_none, errW_some] <;> rfl) | (simp [*, errW_none, errW_some] <;> rfl), by repeat (first | (with_reducible first | exact HB.out | apply below_alloc | apply pw_below_drewN | apply below_drew1 | refine below_set ?_ GE209.out | refine below_set ?_ GE211.out) | exact HB.out)⟩
                  · rw [if_neg c46] at H
                    have c46b0 : (a0.toList == ([108, 101, 110] : List UInt8)) = false := beq_eq_false_iff_ne.mpr c46
                    have c46b1 : (a0.toList != ([108, 101, 110] : List UInt8)) = true := bne_iff_ne.mpr c46
                    by_cases c52 : a0.toList = ([97, 116] : List UInt8)
                    · rw [if_pos c52] at H
                      have c52b0 : (a0.toList == ([97, 116] : List UInt8)) = true := beq_iff_eq.mpr c52
                      have c52b1 : (a0.toList != ([97, 116] : List UInt8)) = false := bne_eq_false_iff_eq.mpr c52
                      clear c52
                      by_cases c53 : 1 < (l1.length : Int)
                      · rw [if_pos c53] at H
                        have c53b0 : decide (1 < (l1.length : Int)) = true := decide_eq_true c53
                        have c53b1 : decide (1 < l1.length) = true := decide_eq_true (by omega)
                        clear c53
                        replace H := Option.bind_eq_some_iff.mp H
                        obtain ⟨t223, A540, H⟩ := H
                        replace H : (if t223 = true then (if 0 ≤ ((rd_T29 l1 1).f1) then (if ((rd_T29 l1 1).f1) < (((rd_T29 l1 0).f2).size : Int) then ((spec_l01Int.f (wrap64 (bt ((rd_T29 l1 0).f2) ((rd_T29 l1 1).f1)))).bind fun bt225 => (some (bt225.1, bt225.2.1, bt225.2.2, 0))) else (none)) else (none)) else (some (0, 0, (⟨#[]⟩ : ByteArray), 4))) = some (r1, r2, r3, r4) := H
                        have A54 := Aside0.mk A540
                        clear A540
                        by_cases c55 : t223 = true
                        · subst c55
                          have H1 : (if 0 ≤ ((rd_T29 l1 1).f1) then (if ((rd_T29 l1 1).f1) < (((rd_T29 l1 0).f2).size : Int) then ((spec_l01Int.f (wrap64 (bt ((rd_T29 l1 0).f2) ((rd_T29 l1 1).f1)))).bind fun bt225 => (some (bt225.1, bt225.2.1, bt225.2.2, 0))) else (none)) else (none)) = some (r1, r2, r3, r4) := by rw [if_pos rfl] at H; exact H
                          clear H
                          have H := H1
                          clear H1
                          by_cases c56 : 0 ≤ ((rd_T29 l1 1).f1)
                          · rw [if_pos c56] at H
                            have c56b0 : decide (0 ≤ ((rd_T29 l1 1).f1)) = true := decide_eq_true c56
                            clear c56
                            by_cases c57 : ((rd_T29 l1 1).f1) < (((rd_T29 l1 0).f2).size : Int)
                            · rw [if_pos c57] at H
                              have c57b0 : decide (((rd_T29 l1 1).f1) < (((rd_T29 l1 0).f2).size : Int)) = true := decide_eq_true c57
                              clear c57
                              replace H := Option.bind_eq_some_iff.mp H
                              obtain ⟨⟨t225, t226, t227⟩, A590, H⟩ := H
                              replace H : (some (t225, t226, t227, 0)) = some (r1, r2, r3, r4) := H
                              have A59 := Aside0.mk A590
                              clear A590
                              simp only [Option.some.injEq, Prod.mk.injEq] at H
                              obtain ⟨rfl, rfl, rfl, rfl⟩ := H
                              try go_wp2
                              have n0_ := Aside0.mk (blk_drew BK209.out)
                              have n1_ := Aside0.mk (blk_drew BK211.out)
                              have n2_ := Aside0.mk (below_drew1 HB.out)
                              clear BK209
                              clear BK211
                              clear HB
                              have BK209 := n0_
                              have BK211 := n1_
                              have HB := n2_
                              clear n0_ n1_ n2_
                              have p222 : 0 ≤ (1 : Int) := (by omega)
                              have q222 : 1 < (l1.length : Int) := of_decide_eq_true (by first | (with_reducible assumption) | assumption)
                              obtain ⟨ad222, e222, hx222_0, hx222_1, hx222_2⟩ := at_T29 HR1.out 1 p222 q222
                              have hw222_2 := hx222_2
                              (try rw [show ((1 : Int)).toNat = 1 from rfl] at hw222_2)
                              (try rw [show 1 * 3 = 3 from rfl] at hw222_2)
                              (try simp only [Nat.reduceMul, Nat.reduceEqDiff, Go.Addr.add, ↓reduceIte] at hw222_2)
                              have hw222_1 := hx222_1
                              (try rw [show ((1 : Int)).toNat = 1 from rfl] at hw222_1)
                              (try rw [show 1 * 3 = 3 from rfl] at hw222_1)
                              (try simp only [Nat.reduceMul, Nat.reduceEqDiff, Go.Addr.add, ↓reduceIte] at hw222_1)
                              have hw222_0 := hx222_0
                              (try rw [show ((1 : Int)).toNat = 1 from rfl] at hw222_0)
                              (try rw [show 1 * 3 = 3 from rfl] at hw222_0)
                              (try simp only [Nat.reduceMul, Nat.reduceEqDiff, Go.Addr.add, ↓reduceIte] at hw222_0)
                              obtain rfl : ad210 = ad222 := (by injection e222)
                              (try simp only [show (1 : Int).toNat = 1 from rfl, Nat.reduceMul, Nat.reduceEqDiff, Go.Addr.add, ↓reduceIte] at hx222_0)
                              (try simp only [show (1 : Int).toNat = 1 from rfl, Nat.reduceMul, Nat.reduceEqDiff, Go.Addr.add, ↓reduceIte] at hx222_1)
                              (try simp only [show (1 : Int).toNat = 1 from rfl, Nat.reduceMul, Nat.reduceEqDiff, Go.Addr.add, ↓reduceIte] at hx222_2)
                              have qi222 : (1 < l1.length) = True := eq_true (by omega)
                              (try rw [show ((1 : Int)).toNat = 1 from rfl] at hx222_0)
                              (try rw [show 1 * 3 = 3 from rfl] at hx222_0)
                              (try rw [show ((1 : Int)).toNat = 1 from rfl] at hx222_1)
                              (try rw [show 1 * 3 = 3 from rfl] at hx222_1)
                              (try rw [show ((1 : Int)).toNat = 1 from rfl] at hx222_2)
                              (try rw [show 1 * 3 = 3 from rfl] at hx222_2)
                              replace hx222_0 := (HB.out.cell (World.block_lt_of_cell? w _ hx222_0)).trans hx222_0
                              replace hx222_1 := (HB.out.cell (World.block_lt_of_cell? w _ hx222_1)).trans hx222_1
                              replace hx222_2 := (HB.out.cell (World.block_lt_of_cell? w _ hx222_2)).trans hx222_2
                              replace p222 := eq_true p222
                              replace q222 := eq_true q222
                              refine start_ (n := 10) (S := fun w' => w'.cell? ⟨gb211, 0, none⟩ = some (.int .i64 ((rd_T29 l1 0).f0)) ∧ w'.cell? ⟨gb211, 1, none⟩ = some (.int .i64 ((rd_T29 l1 0).f1)) ∧ w'.cell? ⟨gb211, 2, none⟩ = some (.string ((rd_T29 l1 0).f2)) ∧ w'.cell? ⟨ad210.block, ad210.off + 3, none⟩ = some (.int .i64 ((rd_T29 l1 1).f0)) ∧ w'.cell? ⟨ad210.block, ad210.off + 3 + 1, none⟩ = some (.int .i64 ((rd_T29 l1 1).f1)) ∧ w'.cell? ⟨ad210.block, ad210.off + 3 + 2, none⟩ = some (.string ((rd_T29 l1 1).f2))) (ds := []) #[false, false, false, false, false, false, false, false, false, false] (by kernel_rfl) rfl rfl ⟨(blk_cell BK211.out 0).trans rfl, (blk_cell BK211.out 1).trans rfl, (blk_cell BK211.out 2).trans rfl, ((HB.out.cell (World.block_lt_of_cell? w _ hw222_0)).trans hw222_0), ((HB.out.cell (World.block_lt_of_cell? w _ hw222_1)).trans hw222_1), ((HB.out.cell (World.block_lt_of_cell? w _ hw222_2)).trans hw222_2)⟩ (fun hHeld => ?_); refine with_tabW spec_l01Builtin.tab11 spec_l01Builtin.bits11 (fun HT_ HW_ => ?_)
                              generalize wc.drew = w60 at BK209 BK211 HB hx222_0 hx222_1 hx222_2 hHeld ⊢
                              refine pure_ (i := 0) (N := some 64) (v := ?_) (a' := ?_) #[true, false, false, false, false, false, false, false, false, false] rfl rfl (any_of HT_.out (by kernel_rfl)) (fun _ _ _ h => h) (Or.inl ⟨by rfl, ?_⟩) ?_ ?_
                              rotate_left
                              · intro w'
                                go_simp
                                with_reducible rfl
                              rotate_left
                              · simp only [Act.put, List.setIfInBounds_toArray, List.set_cons_zero, List.set_cons_succ, i64_w, i32_w]
                                rfl
                              refine pure_ (i := 1) (N := some 65) (v := ?_) (a' := ?_) #[true, true, false, false, false, false, false, false, false, false] rfl rfl (any_of HT_.out (by kernel_rfl)) (fun _ _ _ h => h) (Or.inl ⟨by rfl, ?_⟩) ?_ ?_
                              rotate_left
                              · intro w'
                                go_simp
                                with_reducible rfl
                              rotate_left
                              · simp only [Act.put, List.setIfInBounds_toArray, List.set_cons_zero, List.set_cons_succ, i64_w, i32_w]
                                rfl
                              refine pure_ (i := 2) (N := some 66) (v := ?_) (a' := ?_) #[true, true, true, false, false, false, false, false, false, false] rfl rfl (any_of HT_.out (by kernel_rfl)) (fun _ _ _ h => h) (Or.inl ⟨by rfl, ?_⟩) ?_ ?_
                              rotate_left
                              · intro w'
                                go_simp
                                with_reducible rfl
                              rotate_left
                              · simp only [Act.put, List.setIfInBounds_toArray, List.set_cons_zero, List.set_cons_succ, i64_w, i32_w]
                                rfl
                              refine pure_ (i := 4) (N := some 68) (v := ?_) (a' := ?_) #[true, true, true, false, true, false, false, false, false, false] rfl rfl (any_of HT_.out (by kernel_rfl)) (fun _ _ _ h => h) (Or.inl ⟨by rfl, ?_⟩) ?_ ?_
                              rotate_left
                              · intro w'
                                go_simp
                                with_reducible rfl
                              rotate_left
                              · simp only [Act.put, List.setIfInBounds_toArray, List.set_cons_zero, List.set_cons_succ, i64_w, i32_w]
                                rfl
                              refine take_ (i := 3) (N := some 67) (v := ?_) (a' := ?_) #[true, true, true, true, true, false, false, false, false, false] rfl rfl (take_ofW HT_.out HW_.out (by kernel_rfl)) (fun _ _ _ h => h) (Or.inl ⟨by rfl, ?_⟩) hHeld ?_ ?_
                              rotate_left
                              · rintro w' ⟨s0, s1, s2, s3, s4, s5⟩
                                go_simp
                                with_reducible rfl
                              rotate_left
                              · simp only [Act.put, List.setIfInBounds_toArray, List.set_cons_zero, List.set_cons_succ, i64_w, i32_w]
                                rfl
                              refine take_ (i := 5) (N := some 69) (v := ?_) (a' := ?_) #[true, true, true, true, true, true, false, false, false, false] rfl rfl (take_ofW HT_.out HW_.out (by kernel_rfl)) (fun _ _ _ h => h) (Or.inl ⟨by rfl, ?_⟩) hHeld ?_ ?_
                              rotate_left
                              · rintro w' ⟨s0, s1, s2, s3, s4, s5⟩
                                go_simp
                                with_reducible rfl
                              rotate_left
                              · simp only [Act.put, List.setIfInBounds_toArray, List.set_cons_zero, List.set_cons_succ, i64_w, i32_w]
                                rfl
                              refine pure_ (i := 6) (N := some 70) (v := ?_) (a' := ?_) #[true, true, true, true, true, true, true, false, false, false] rfl rfl (any_of HT_.out (by kernel_rfl)) (fun _ _ _ h => h) (Or.inl ⟨by rfl, ?_⟩) ?_ ?_
                              rotate_left
                              · intro w'
                                go_simp
                                with_reducible rfl
                              rotate_left
                              · simp only [Act.put, List.setIfInBounds_toArray, List.set_cons_zero, List.set_cons_succ, i64_w, i32_w]
                                rfl
                              refine pure_ (i := 7) (N := some 71) (v := ?_) (a' := ?_) #[true, true, true, true, true, true, true, true, false, false] rfl rfl (any_of HT_.out (by kernel_rfl)) (fun _ _ _ h => h) (Or.inl ⟨by rfl, ?_⟩) ?_ ?_
                              rotate_left
                              · intro w'
                                go_simp
                                with_reducible rfl
                              rotate_left
                              · simp only [Act.put, List.setIfInBounds_toArray, List.set_cons_zero, List.set_cons_succ, i64_w, i32_w]
                                rfl
                              refine one_ (i := 8) (N := some 72) #[true, true, true, true, true, true, true, true, true, false] rfl rfl (one_of HT_.out (by kernel_rfl)) (by decide) (fun K hK => ?_)
                              refine goes_ Tryd.func53 (by kernel_rfl) rfl #[.int .i64 ((rd_T29 l1 1).f1), .int .i64 0, .int .i64 (wrap64 ((((rd_T29 l1 0).f2).size : Int) - 1))] (by rfl) rfl rfl (by (try simp only [List.map_toArray, List.map_cons, List.map_nil]); first | done | rfl | (simp only [List.length_drop, List.length_take]; rfl)) ?_
                              with_reducible refine (spec_l01In.calls ((rd_T29 l1 1).f1) 0 (wrap64 ((((rd_T29 l1 0).f2).size : Int) - 1)) true _ A54.out).mono ?_
                              rintro e w' ⟨rfl, ⟨nd, rfl⟩⟩
                              refine ⟨_, rfl, ?_⟩
                              refine hK.out _ _ ⟨(blk_cell BK211.out 0).trans rfl, (blk_cell BK211.out 1).trans rfl, (blk_cell BK211.out 2).trans rfl, ((HB.out.cell (World.block_lt_of_cell? w _ hw222_0)).trans hw222_0), ((HB.out.cell (World.block_lt_of_cell? w _ hw222_1)).trans hw222_1), ((HB.out.cell (World.block_lt_of_cell? w _ hw222_2)).trans hw222_2)⟩ (fun hHeld => ?_)
                              clear hK K
                              refine norm_ (a' := ?_) ?_ ?_
                              rotate_left
                              · show Act.put _ (some 72) _ = _
                                simp only [Act.put, List.setIfInBounds_toArray, List.set_cons_zero, List.set_cons_succ, i64_w, i32_w]
                                rfl
                              refine pure_ (i := 9) (N := some 73) (v := ?_) (a' := ?_) #[true, true, true, true, true, true, true, true, true, true] rfl rfl (any_of HT_.out (by kernel_rfl)) (fun _ _ _ h => h) (Or.inl ⟨by rfl, ?_⟩) ?_ ?_
                              rotate_left
                              · intro w'
                                go_simp
                                with_reducible rfl
                              rotate_left
                              · simp only [Act.put, List.setIfInBounds_toArray, List.set_cons_zero, List.set_cons_succ, i64_w, i32_w]
                                rfl
                              refine done_ (done_of HT_.out (by kernel_rfl)) ?_
                              try go_wp2
                              (try (rw [drewN_self w60]; generalize hq_ : World.drewN w60 _ = w60; have n0_ : Aside0 (w60.heap[gb209]? = some (.cells #[.int .i64 0, .int .i64 0, .string (⟨#[]⟩ : ByteArray)] 29 (0, 0))) := ⟨by rw [← hq_]; exact (by (with_reducible repeat (first | refine blk_drewN ?_ _ | refine blk_drew ?_ | refine blk_alloc ?_ _)); exact BK209.out)⟩; have n1_ : Aside0 (w60.heap[gb211]? = some (.cells #[.int .i64 ((rd_T29 l1 0).f0), .int .i64 ((rd_T29 l1 0).f1), .string ((rd_T29 l1 0).f2)] 29 (0, 0))) := ⟨by rw [← hq_]; exact (by (with_reducible repeat (first | refine blk_drewN ?_ _ | refine blk_drew ?_ | refine blk_alloc ?_ _)); exact BK211.out)⟩; have n2_ : Aside0 (Below w.heap.size w w60) := ⟨by rw [← hq_]; exact (by repeat (first | (with_reducible first | exact HB.out | apply below_alloc | apply pw_below_drewN | apply below_drew1 | refine below_set ?_ GE209.out | refine below_set ?_ GE211.out) | exact HB.out))⟩; clear BK209 BK211 HB hq_; have BK209 := n0_; have BK211 := n1_; have HB := n2_; clear n0_ n1_ n2_))
                              have n0_ := Aside0.mk (blk_drew BK209.out)
                              have n1_ := Aside0.mk (blk_drew BK211.out)
                              have n2_ := Aside0.mk (below_drew1 HB.out)
                              clear BK209
                              clear BK211
                              clear HB
                              have BK209 := n0_
                              have BK211 := n1_
                              have HB := n2_
                              clear n0_ n1_ n2_
                              have p224 : 0 ≤ (1 : Int) := (by omega)
                              have q224 : 1 < (l1.length : Int) := of_decide_eq_true (by first | (with_reducible assumption) | assumption)
                              obtain ⟨ad224, e224, hx224_0, hx224_1, hx224_2⟩ := at_T29 HR1.out 1 p224 q224
                              have hw224_2 := hx224_2
                              (try rw [show ((1 : Int)).toNat = 1 from rfl] at hw224_2)
                              (try rw [show 1 * 3 = 3 from rfl] at hw224_2)
                              (try simp only [Nat.reduceMul, Nat.reduceEqDiff, Go.Addr.add, ↓reduceIte] at hw224_2)
                              have hw224_1 := hx224_1
                              (try rw [show ((1 : Int)).toNat = 1 from rfl] at hw224_1)
                              (try rw [show 1 * 3 = 3 from rfl] at hw224_1)
                              (try simp only [Nat.reduceMul, Nat.reduceEqDiff, Go.Addr.add, ↓reduceIte] at hw224_1)
                              have hw224_0 := hx224_0
                              (try rw [show ((1 : Int)).toNat = 1 from rfl] at hw224_0)
                              (try rw [show 1 * 3 = 3 from rfl] at hw224_0)
                              (try simp only [Nat.reduceMul, Nat.reduceEqDiff, Go.Addr.add, ↓reduceIte] at hw224_0)
                              obtain rfl : ad210 = ad224 := (by injection e224)
                              (try simp only [show (1 : Int).toNat = 1 from rfl, Nat.reduceMul, Nat.reduceEqDiff, Go.Addr.add, ↓reduceIte] at hx224_0)
                              (try simp only [show (1 : Int).toNat = 1 from rfl, Nat.reduceMul, Nat.reduceEqDiff, Go.Addr.add, ↓reduceIte] at hx224_1)
                              (try simp only [show (1 : Int).toNat = 1 from rfl, Nat.reduceMul, Nat.reduceEqDiff, Go.Addr.add, ↓reduceIte] at hx224_2)
                              have qi224 : (1 < l1.length) = True := eq_true (by omega)
                              (try rw [show ((1 : Int)).toNat = 1 from rfl] at hx224_0)
                              (try rw [show 1 * 3 = 3 from rfl] at hx224_0)
                              (try rw [show ((1 : Int)).toNat = 1 from rfl] at hx224_1)
                              (try rw [show 1 * 3 = 3 from rfl] at hx224_1)
                              (try rw [show ((1 : Int)).toNat = 1 from rfl] at hx224_2)
                              (try rw [show 1 * 3 = 3 from rfl] at hx224_2)
                              replace hx224_0 := (HB.out.cell (World.block_lt_of_cell? w _ hx224_0)).trans hx224_0
                              replace hx224_1 := (HB.out.cell (World.block_lt_of_cell? w _ hx224_1)).trans hx224_1
                              replace hx224_2 := (HB.out.cell (World.block_lt_of_cell? w _ hx224_2)).trans hx224_2
                              replace p224 := eq_true p224
                              replace q224 := eq_true q224
                              have p58 : 0 ≤ (((rd_T29 l1 1).f1) : Int) := of_decide_eq_true (by first | (with_reducible assumption) | assumption)
                              have q58 : ((rd_T29 l1 1).f1) < (((rd_T29 l1 0).f2).size : Int) := of_decide_eq_true (by first | (with_reducible assumption) | assumption)
                              have hx58 := bt_at ((rd_T29 l1 0).f2) ((rd_T29 l1 1).f1)
                              replace p58 := eq_true p58
                              replace q58 := eq_true q58
                              refine start_ (n := 11) (S := fun w' => w'.cell? ⟨gb211, 0, none⟩ = some (.int .i64 ((rd_T29 l1 0).f0)) ∧ w'.cell? ⟨gb211, 1, none⟩ = some (.int .i64 ((rd_T29 l1 0).f1)) ∧ w'.cell? ⟨gb211, 2, none⟩ = some (.string ((rd_T29 l1 0).f2)) ∧ w'.cell? ⟨ad210.block, ad210.off + 3, none⟩ = some (.int .i64 ((rd_T29 l1 1).f0)) ∧ w'.cell? ⟨ad210.block, ad210.off + 3 + 1, none⟩ = some (.int .i64 ((rd_T29 l1 1).f1)) ∧ w'.cell? ⟨ad210.block, ad210.off + 3 + 2, none⟩ = some (.string ((rd_T29 l1 1).f2))) (ds := []) #[false, false, false, false, false, false, false, false, false, false, false] (by kernel_rfl) rfl rfl ⟨(blk_cell BK211.out 0).trans rfl, (blk_cell BK211.out 1).trans rfl, (blk_cell BK211.out 2).trans rfl, ((HB.out.cell (World.block_lt_of_cell? w _ hw224_0)).trans hw224_0), ((HB.out.cell (World.block_lt_of_cell? w _ hw224_1)).trans hw224_1), ((HB.out.cell (World.block_lt_of_cell? w _ hw224_2)).trans hw224_2)⟩ (fun hHeld => ?_); refine with_tabW spec_l01Builtin.tab13 spec_l01Builtin.bits13 (fun HT_ HW_ => ?_)
                              generalize w60.drew = w61 at BK209 BK211 HB hx224_0 hx224_1 hx224_2 hHeld ⊢
                              refine pure_ (i := 0) (N := some 75) (v := ?_) (a' := ?_) #[true, false, false, false, false, false, false, false, false, false, false] rfl rfl (any_of HT_.out (by kernel_rfl)) (fun _ _ _ h => h) (Or.inl ⟨by rfl, ?_⟩) ?_ ?_
                              rotate_left
                              · intro w'
                                go_simp
                                with_reducible rfl
                              rotate_left
                              · simp only [Act.put, List.setIfInBounds_toArray, List.set_cons_zero, List.set_cons_succ, i64_w, i32_w]
                                rfl
                              refine pure_ (i := 2) (N := some 77) (v := ?_) (a' := ?_) #[true, false, true, false, false, false, false, false, false, false, false] rfl rfl (any_of HT_.out (by kernel_rfl)) (fun _ _ _ h => h) (Or.inl ⟨by rfl, ?_⟩) ?_ ?_
                              rotate_left
                              · intro w'
                                go_simp
                                with_reducible rfl
                              rotate_left
                              · simp only [Act.put, List.setIfInBounds_toArray, List.set_cons_zero, List.set_cons_succ, i64_w, i32_w]
                                rfl
                              refine pure_ (i := 3) (N := some 78) (v := ?_) (a' := ?_) #[true, false, true, true, false, false, false, false, false, false, false] rfl rfl (any_of HT_.out (by kernel_rfl)) (fun _ _ _ h => h) (Or.inl ⟨by rfl, ?_⟩) ?_ ?_
                              rotate_left
                              · intro w'
                                go_simp
                                with_reducible rfl
                              rotate_left
                              · simp only [Act.put, List.setIfInBounds_toArray, List.set_cons_zero, List.set_cons_succ, i64_w, i32_w]
                                rfl
                              refine pure_ (i := 4) (N := some 79) (v := ?_) (a' := ?_) #[true, false, true, true, true, false, false, false, false, false, false] rfl rfl (any_of HT_.out (by kernel_rfl)) (fun _ _ _ h => h) (Or.inl ⟨by rfl, ?_⟩) ?_ ?_
                              rotate_left
                              · intro w'
                                go_simp
                                with_reducible rfl
                              rotate_left
                              · simp only [Act.put, List.setIfInBounds_toArray, List.set_cons_zero, List.set_cons_succ, i64_w, i32_w]
                                rfl
                              refine take_ (i := 1) (N := some 76) (v := ?_) (a' := ?_) #[true, true, true, true, true, false, false, false, false, false, false] rfl rfl (take_ofW HT_.out HW_.out (by kernel_rfl)) (fun _ _ _ h => h) (Or.inl ⟨by rfl, ?_⟩) hHeld ?_ ?_
                              rotate_left
                              · rintro w' ⟨s0, s1, s2, s3, s4, s5⟩
                                go_simp
                                with_reducible rfl
                              rotate_left
                              · simp only [Act.put, List.setIfInBounds_toArray, List.set_cons_zero, List.set_cons_succ, i64_w, i32_w]
                                rfl
                              refine take_ (i := 5) (N := some 80) (v := ?_) (a' := ?_) #[true, true, true, true, true, true, false, false, false, false, false] rfl rfl (take_ofW HT_.out HW_.out (by kernel_rfl)) (fun _ _ _ h => h) (Or.inl ⟨by rfl, ?_⟩) hHeld ?_ ?_
                              rotate_left
                              · rintro w' ⟨s0, s1, s2, s3, s4, s5⟩
                                go_simp
                                with_reducible rfl
                              rotate_left
                              · simp only [Act.put, List.setIfInBounds_toArray, List.set_cons_zero, List.set_cons_succ, i64_w, i32_w]
                                rfl
                              refine take_ (i := 6) (N := some 81) (v := ?_) (a' := ?_) #[true, true, true, true, true, true, true, false, false, false, false] rfl rfl (take_ofW HT_.out HW_.out (by kernel_rfl)) (fun _ _ _ h => h) (Or.inl ⟨by rfl, ?_⟩) hHeld ?_ ?_
                              rotate_left
                              · rintro w' ⟨s0, s1, s2, s3, s4, s5⟩
                                go_simp
                                with_reducible rfl
                              rotate_left
                              · simp only [Act.put, List.setIfInBounds_toArray, List.set_cons_zero, List.set_cons_succ, i64_w, i32_w]
                                rfl
                              refine pure_ (i := 7) (N := some 82) (v := ?_) (a' := ?_) #[true, true, true, true, true, true, true, true, false, false, false] rfl rfl (any_of HT_.out (by kernel_rfl)) (fun _ _ _ h => h) (Or.inl ⟨by rfl, ?_⟩) ?_ ?_
                              rotate_left
                              · intro w'
                                go_simp
                                with_reducible rfl
                              rotate_left
                              · simp only [Act.put, List.setIfInBounds_toArray, List.set_cons_zero, List.set_cons_succ, i64_w, i32_w]
                                rfl
                              refine one_ (i := 8) (N := some 83) #[true, true, true, true, true, true, true, true, true, false, false] rfl rfl (one_of HT_.out (by kernel_rfl)) (by decide) (fun K hK => ?_)
                              refine goes_ Tryd.func85 (by kernel_rfl) rfl #[.int .i64 (wrap64 (bt ((rd_T29 l1 0).f2) ((rd_T29 l1 1).f1)))] (by rfl) rfl rfl (by (try simp only [List.map_toArray, List.map_cons, List.map_nil]); first | done | rfl | (simp only [List.length_drop, List.length_take]; rfl)) ?_
                              with_reducible refine (spec_l01Int.calls (wrap64 (bt ((rd_T29 l1 0).f2) ((rd_T29 l1 1).f1))) t225 t226 t227 _ A59.out).mono ?_
                              rintro e w62 ⟨rfl, hb⟩
                              refine ⟨_, rfl, ?_⟩
                              have n0_ := Aside0.mk (blk_below (g := gb209) (o := .cells #[.int .i64 0, .int .i64 0, .string (⟨#[]⟩ : ByteArray)] 29 (0, 0)) (by (with_reducible repeat (first | refine blk_drewN ?_ _ | refine blk_drew ?_ | refine blk_alloc ?_ _)); exact BK209.out) hb)
                              have n1_ := Aside0.mk (blk_below (g := gb211) (o := .cells #[.int .i64 ((rd_T29 l1 0).f0), .int .i64 ((rd_T29 l1 0).f1), .string ((rd_T29 l1 0).f2)] 29 (0, 0)) (by (with_reducible repeat (first | refine blk_drewN ?_ _ | refine blk_drew ?_ | refine blk_alloc ?_ _)); exact BK211.out) hb)
                              have n2_ := Aside0.mk (below_step (by repeat (first | (with_reducible first | exact HB.out | apply below_alloc | apply pw_below_drewN | apply below_drew1 | refine below_set ?_ GE209.out | refine below_set ?_ GE211.out) | exact HB.out)) hb)
                              clear BK209
                              clear BK211
                              clear HB
                              have BK209 := n0_
                              have BK211 := n1_
                              have HB := n2_
                              clear n0_ n1_ n2_
                              (try clear hb)
                              (try clear hb2)
                              (try clear hk)
                              (try clear hi)
                              refine hK.out _ _ ⟨(blk_cell BK211.out 0).trans rfl, (blk_cell BK211.out 1).trans rfl, (blk_cell BK211.out 2).trans rfl, ((HB.out.cell (World.block_lt_of_cell? w _ hw224_0)).trans hw224_0), ((HB.out.cell (World.block_lt_of_cell? w _ hw224_1)).trans hw224_1), ((HB.out.cell (World.block_lt_of_cell? w _ hw224_2)).trans hw224_2)⟩ (fun hHeld => ?_)
                              clear hK K
                              refine norm_ (a' := ?_) ?_ ?_
                              rotate_left
                              · show Act.put _ (some 83) _ = _
                                simp only [Act.put, List.setIfInBounds_toArray, List.set_cons_zero, List.set_cons_succ, i64_w, i32_w]
                                rfl
                              refine one_ (i := 9) (N := none) #[true, true, true, true, true, true, true, true, true, true, false] rfl rfl (one_of HT_.out (by kernel_rfl)) (by decide) (fun K hK => ?_)
                              have hs63 : w62.cell? ⟨gb209, 0, none⟩ = some (.int .i64 0) := (blk_cell BK209.out 0).trans rfl
                              have hfs63 := blk_frozen BK209.out 0
                              have hns63_1 := NB211_209.out
                              have hms63_1 := NB209_211.out
                              have hs64 : w62.cell? ⟨gb209, 1, none⟩ = some (.int .i64 0) := (blk_cell BK209.out 1).trans rfl
                              have hfs64 := blk_frozen BK209.out 1
                              have hns64_1 := NB211_209.out
                              have hms64_1 := NB209_211.out
                              have hs65 : w62.cell? ⟨gb209, 2, none⟩ = some (.string (⟨#[]⟩ : ByteArray)) := (blk_cell BK209.out 2).trans rfl
                              have hfs65 := blk_frozen BK209.out 2
                              have hns65_1 := NB211_209.out
                              have hms65_1 := NB209_211.out
                              refine skip_ (w1 := ?_) (by rfl) rfl ?_ ?_
                              rotate_left
                              · go_simp
                                rfl
                              refine hK.out _ _ ⟨((cell_far (p := ⟨gb209, _, none⟩) NB211_209.out _).trans (((cell_far (p := ⟨gb209, _, none⟩) NB211_209.out _).trans (((cell_far (p := ⟨gb209, _, none⟩) NB211_209.out _).trans (hHeld.1)))))), ((cell_far (p := ⟨gb209, _, none⟩) NB211_209.out _).trans (((cell_far (p := ⟨gb209, _, none⟩) NB211_209.out _).trans (((cell_far (p := ⟨gb209, _, none⟩) NB211_209.out _).trans (hHeld.2.1)))))), ((cell_far (p := ⟨gb209, _, none⟩) NB211_209.out _).trans (((cell_far (p := ⟨gb209, _, none⟩) NB211_209.out _).trans (((cell_far (p := ⟨gb209, _, none⟩) NB211_209.out _).trans (hHeld.2.2.1)))))), ((cell_far (p := ⟨gb209, _, none⟩) (by first | exact Nat.ne_of_lt (Nat.lt_of_lt_of_le (by have := World.block_lt_of_cell? _ _ hw224_0; first | rwa [add_block] at this | exact this) GW209.out) | (rw [add_block]; exact Nat.ne_of_lt (Nat.lt_of_lt_of_le (by have := World.block_lt_of_cell? _ _ hw224_0; first | rwa [add_block] at this | exact this) GW209.out)) | (show (Addr.add _ _).block ≠ _; rw [add_block]; exact Nat.ne_of_lt (Nat.lt_of_lt_of_le (by have := World.block_lt_of_cell? _ _ hw224_0; first | rwa [add_block] at this | exact this) GW209.out)) | (dsimp only; exact Nat.ne_of_lt (Nat.lt_of_lt_of_le (by have := World.block_lt_of_cell? _ _ hw224_0; first | rwa [add_block] at this | exact this) GW209.out))) _).trans (((cell_far (p := ⟨gb209, _, none⟩) (by first | exact Nat.ne_of_lt (Nat.lt_of_lt_of_le (by have := World.block_lt_of_cell? _ _ hw224_0; first | rwa [add_block] at this | exact this) GW209.out) | (rw [add_block]; exact Nat.ne_of_lt (Nat.lt_of_lt_of_le (by have := World.block_lt_of_cell? _ _ hw224_0; first | rwa [add_block] at this | exact this) GW209.out)) | (show (Addr.add _ _).block ≠ _; rw [add_block]; exact Nat.ne_of_lt (Nat.lt_of_lt_of_le (by have := World.block_lt_of_cell? _ _ hw224_0; first | rwa [add_block] at this | exact this) GW209.out)) | (dsimp only; exact Nat.ne_of_lt (Nat.lt_of_lt_of_le (by have := World.block_lt_of_cell? _ _ hw224_0; first | rwa [add_block] at this | exact this) GW209.out))) _).trans (((cell_far (p := ⟨gb209, _, none⟩) (by first | exact Nat.ne_of_lt (Nat.lt_of_lt_of_le (by have := World.block_lt_of_cell? _ _ hw224_0; first | rwa [add_block] at this | exact this) GW209.out) | (rw [add_block]; exact Nat.ne_of_lt (Nat.lt_of_lt_of_le (by have := World.block_lt_of_cell? _ _ hw224_0; first | rwa [add_block] at this | exact this) GW209.out)) | (show (Addr.add _ _).block ≠ _; rw [add_block]; exact Nat.ne_of_lt (Nat.lt_of_lt_of_le (by have := World.block_lt_of_cell? _ _ hw224_0; first | rwa [add_block] at this | exact this) GW209.out)) | (dsimp only; exact Nat.ne_of_lt (Nat.lt_of_lt_of_le (by have := World.block_lt_of_cell? _ _ hw224_0; first | rwa [add_block] at this | exact this) GW209.out))) _).trans (hHeld.2.2.2.1)))))), ((cell_far (p := ⟨gb209, _, none⟩) (by first | exact Nat.ne_of_lt (Nat.lt_of_lt_of_le (by have := World.block_lt_of_cell? _ _ hw224_1; first | rwa [add_block] at this | exact this) GW209.out) | (rw [add_block]; exact Nat.ne_of_lt (Nat.lt_of_lt_of_le (by have := World.block_lt_of_cell? _ _ hw224_1; first | rwa [add_block] at this | exact this) GW209.out)) | (show (Addr.add _ _).block ≠ _; rw [add_block]; exact Nat.ne_of_lt (Nat.lt_of_lt_of_le (by have := World.block_lt_of_cell? _ _ hw224_1; first | rwa [add_block] at this | exact this) GW209.out)) | (dsimp only; exact Nat.ne_of_lt (Nat.lt_of_lt_of_le (by have := World.block_lt_of_cell? _ _ hw224_1; first | rwa [add_block] at this | exact this) GW209.out))) _).trans (((cell_far (p := ⟨gb209, _, none⟩) (by first | exact Nat.ne_of_lt (Nat.lt_of_lt_of_le (by have := World.block_lt_of_cell? _ _ hw224_1; first | rwa [add_block] at this | exact this) GW209.out) | (rw [add_block]; exact Nat.ne_of_lt (Nat.lt_of_lt_of_le (by have := World.block_lt_of_cell? _ _ hw224_1; first | rwa [add_block] at this | exact this) GW209.out)) | (show (Addr.add _ _).block ≠ _; rw [add_block]; exact Nat.ne_of_lt (Nat.lt_of_lt_of_le (by have := World.block_lt_of_cell? _ _ hw224_1; first | rwa [add_block] at this | exact this) GW209.out)) | (dsimp only; exact Nat.ne_of_lt (Nat.lt_of_lt_of_le (by have := World.block_lt_of_cell? _ _ hw224_1; first | rwa [add_block] at this | exact this) GW209.out))) _).trans (((cell_far (p := ⟨gb209, _, none⟩) (by first | exact Nat.ne_of_lt (Nat.lt_of_lt_of_le (by have := World.block_lt_of_cell? _ _ hw224_1; first | rwa [add_block] at this | exact this) GW209.out) | (rw [add_block]; exact Nat.ne_of_lt (Nat.lt_of_lt_of_le (by have := World.block_lt_of_cell? _ _ hw224_1; first | rwa [add_block] at this | exact this) GW209.out)) | (show (Addr.add _ _).block ≠ _; rw [add_block]; exact Nat.ne_of_lt (Nat.lt_of_lt_of_le (by have := World.block_lt_of_cell? _ _ hw224_1; first | rwa [add_block] at this | exact this) GW209.out)) | (dsimp only; exact Nat.ne_of_lt (Nat.lt_of_lt_of_le (by have := World.block_lt_of_cell? _ _ hw224_1; first | rwa [add_block] at this | exact this) GW209.out))) _).trans (hHeld.2.2.2.2.1)))))), ((cell_far (p := ⟨gb209, _, none⟩) (by first | exact Nat.ne_of_lt (Nat.lt_of_lt_of_le (by have := World.block_lt_of_cell? _ _ hw224_2; first | rwa [add_block] at this | exact this) GW209.out) | (rw [add_block]; exact Nat.ne_of_lt (Nat.lt_of_lt_of_le (by have := World.block_lt_of_cell? _ _ hw224_2; first | rwa [add_block] at this | exact this) GW209.out)) | (show (Addr.add _ _).block ≠ _; rw [add_block]; exact Nat.ne_of_lt (Nat.lt_of_lt_of_le (by have := World.block_lt_of_cell? _ _ hw224_2; first | rwa [add_block] at this | exact this) GW209.out)) | (dsimp only; exact Nat.ne_of_lt (Nat.lt_of_lt_of_le (by have := World.block_lt_of_cell? _ _ hw224_2; first | rwa [add_block] at this | exact this) GW209.out))) _).trans (((cell_far (p := ⟨gb209, _, none⟩) (by first | exact Nat.ne_of_lt (Nat.lt_of_lt_of_le (by have := World.block_lt_of_cell? _ _ hw224_2; first | rwa [add_block] at this | exact this) GW209.out) | (rw [add_block]; exact Nat.ne_of_lt (Nat.lt_of_lt_of_le (by have := World.block_lt_of_cell? _ _ hw224_2; first | rwa [add_block] at this | exact this) GW209.out)) | (show (Addr.add _ _).block ≠ _; rw [add_block]; exact Nat.ne_of_lt (Nat.lt_of_lt_of_le (by have := World.block_lt_of_cell? _ _ hw224_2; first | rwa [add_block] at this | exact this) GW209.out)) | (dsimp only; exact Nat.ne_of_lt (Nat.lt_of_lt_of_le (by have := World.block_lt_of_cell? _ _ hw224_2; first | rwa [add_block] at this | exact this) GW209.out))) _).trans (((cell_far (p := ⟨gb209, _, none⟩) (by first | exact Nat.ne_of_lt (Nat.lt_of_lt_of_le (by have := World.block_lt_of_cell? _ _ hw224_2; first | rwa [add_block] at this | exact this) GW209.out) | (rw [add_block]; exact Nat.ne_of_lt (Nat.lt_of_lt_of_le (by have := World.block_lt_of_cell? _ _ hw224_2; first | rwa [add_block] at this | exact this) GW209.out)) | (show (Addr.add _ _).block ≠ _; rw [add_block]; exact Nat.ne_of_lt (Nat.lt_of_lt_of_le (by have := World.block_lt_of_cell? _ _ hw224_2; first | rwa [add_block] at this | exact this) GW209.out)) | (dsimp only; exact Nat.ne_of_lt (Nat.lt_of_lt_of_le (by have := World.block_lt_of_cell? _ _ hw224_2; first | rwa [add_block] at this | exact this) GW209.out))) _).trans (hHeld.2.2.2.2.2))))))⟩ (fun hHeld => ?_)
                              clear hK K
                              refine pure_ (i := 10) (N := some 5) (v := ?_) (a' := ?_) #[true, true, true, true, true, true, true, true, true, true, true] rfl rfl (any_of HT_.out (by kernel_rfl)) (fun _ _ _ h => h) (Or.inl ⟨by rfl, ?_⟩) ?_ ?_
                              rotate_left
                              · intro w'
                                go_simp
                                with_reducible rfl
                              rotate_left
                              · simp only [Act.put, List.setIfInBounds_toArray, List.set_cons_zero, List.set_cons_succ, i64_w, i32_w]
                                rfl
                              refine done_ (done_of HT_.out (by kernel_rfl)) ?_
                              try go_wp2
                              refine bodyPost_ret (results_ct rfl _ _ gb209 29 #[.int .i64 t225, .int .i64 t226, .string t227] (0, 0) _ rfl (by (with_reducible repeat (first | refine blk_drewN ?_ _ | refine blk_drew ?_ | refine blk_alloc ?_ _)); refine blk_put (cs := #[.int .i64 t225, .int .i64 t226, .string (⟨#[]⟩ : ByteArray)]) ?_ 2 _ rfl; (with_reducible repeat (first | refine blk_drewN ?_ _ | refine blk_drew ?_ | refine blk_alloc ?_ _)); refine blk_put (cs := #[.int .i64 t225, .int .i64 0, .string (⟨#[]⟩ : ByteArray)]) ?_ 1 _ rfl; (with_reducible repeat (first | refine blk_drewN ?_ _ | refine blk_drew ?_ | refine blk_alloc ?_ _)); refine blk_put (cs := #[.int .i64 0, .int .i64 0, .string (⟨#[]⟩ : ByteArray)]) ?_ 0 _ rfl; (with_reducible repeat (first | refine blk_drewN ?_ _ | refine blk_drew ?_ | refine blk_alloc ?_ _)); exact BK209.out) Tryd.underlying29 rfl (by kernel_rfl)) rfl ?_
                              exact ⟨by first | rfl | exact My.ret_isEmpty _ | (simp [errW_none, errW_some] <;> rfl) | (simp [*, errW_none, errW_some] <;> rfl), by repeat (first | (with_reducible first | exact HB.out | apply below_alloc | apply pw_below_drewN | apply below_drew1 | refine below_set ?_ GE209.out | refine below_set ?_ GE211.out) | exact HB.out)⟩
                            · rw [if_neg c57] at H
                              exact absurd H (by simp)
                          · rw [if_neg c56] at H
                            exact absurd H (by simp)
                        · replace c55 := Bool.eq_false_iff.mpr c55
                          subst c55
                          have H1 : (some (0, 0, (⟨#[]⟩ : ByteArray), 4)) = some (r1, r2, r3, r4) := by rw [if_neg (show ¬ (false = true) by decide)] at H; exact H
                          clear H
                          have H := H1
                          clear H1
                          simp only [Option.some.injEq, Prod.mk.injEq] at H
                          obtain ⟨rfl, rfl, rfl, rfl⟩ := H
                          try go_wp2
                          have n0_ := Aside0.mk (blk_drew BK209.out)
                          have n1_ := Aside0.mk (blk_drew BK211.out)
                          have n2_ := Aside0.mk (below_drew1 HB.out)
                          clear BK209
                          clear BK211
                          clear HB
                          have BK209 := n0_
                          have BK211 := n1_
                          have HB := n2_
                          clear n0_ n1_ n2_
                          have p222 : 0 ≤ (1 : Int) := (by omega)
                          have q222 : 1 < (l1.length : Int) := of_decide_eq_true (by first | (with_reducible assumption) | assumption)
                          obtain ⟨ad222, e222, hx222_0, hx222_1, hx222_2⟩ := at_T29 HR1.out 1 p222 q222
                          have hw222_2 := hx222_2
                          (try rw [show ((1 : Int)).toNat = 1 from rfl] at hw222_2)
                          (try rw [show 1 * 3 = 3 from rfl] at hw222_2)
                          (try simp only [Nat.reduceMul, Nat.reduceEqDiff, Go.Addr.add, ↓reduceIte] at hw222_2)
                          have hw222_1 := hx222_1
                          (try rw [show ((1 : Int)).toNat = 1 from rfl] at hw222_1)
                          (try rw [show 1 * 3 = 3 from rfl] at hw222_1)
                          (try simp only [Nat.reduceMul, Nat.reduceEqDiff, Go.Addr.add, ↓reduceIte] at hw222_1)
                          have hw222_0 := hx222_0
                          (try rw [show ((1 : Int)).toNat = 1 from rfl] at hw222_0)
                          (try rw [show 1 * 3 = 3 from rfl] at hw222_0)
                          (try simp only [Nat.reduceMul, Nat.reduceEqDiff, Go.Addr.add, ↓reduceIte] at hw222_0)
                          obtain rfl : ad210 = ad222 := (by injection e222)
                          (try simp only [show (1 : Int).toNat = 1 from rfl, Nat.reduceMul, Nat.reduceEqDiff, Go.Addr.add, ↓reduceIte] at hx222_0)
                          (try simp only [show (1 : Int).toNat = 1 from rfl, Nat.reduceMul, Nat.reduceEqDiff, Go.Addr.add, ↓reduceIte] at hx222_1)
                          (try simp only [show (1 : Int).toNat = 1 from rfl, Nat.reduceMul, Nat.reduceEqDiff, Go.Addr.add, ↓reduceIte] at hx222_2)
                          have qi222 : (1 < l1.length) = True := eq_true (by omega)
                          (try rw [show ((1 : Int)).toNat = 1 from rfl] at hx222_0)
                          (try rw [show 1 * 3 = 3 from rfl] at hx222_0)
                          (try rw [show ((1 : Int)).toNat = 1 from rfl] at hx222_1)
                          (try rw [show 1 * 3 = 3 from rfl] at hx222_1)
                          (try rw [show ((1 : Int)).toNat = 1 from rfl] at hx222_2)
                          (try rw [show 1 * 3 = 3 from rfl] at hx222_2)
                          replace hx222_0 := (HB.out.cell (World.block_lt_of_cell? w _ hx222_0)).trans hx222_0
                          replace hx222_1 := (HB.out.cell (World.block_lt_of_cell? w _ hx222_1)).trans hx222_1
                          replace hx222_2 := (HB.out.cell (World.block_lt_of_cell? w _ hx222_2)).trans hx222_2
                          replace p222 := eq_true p222
                          replace q222 := eq_true q222
                          refine start_ (n := 10) (S := fun w' => w'.cell? ⟨gb211, 0, none⟩ = some (.int .i64 ((rd_T29 l1 0).f0)) ∧ w'.cell? ⟨gb211, 1, none⟩ = some (.int .i64 ((rd_T29 l1 0).f1)) ∧ w'.cell? ⟨gb211, 2, none⟩ = some (.string ((rd_T29 l1 0).f2)) ∧ w'.cell? ⟨ad210.block, ad210.off + 3, none⟩ = some (.int .i64 ((rd_T29 l1 1).f0)) ∧ w'.cell? ⟨ad210.block, ad210.off + 3 + 1, none⟩ = some (.int .i64 ((rd_T29 l1 1).f1)) ∧ w'.cell? ⟨ad210.block, ad210.off + 3 + 2, none⟩ = some (.string ((rd_T29 l1 1).f2))) (ds := []) #[false, false, false, false, false, false, false, false, false, false] (by kernel_rfl) rfl rfl ⟨(blk_cell BK211.out 0).trans rfl, (blk_cell BK211.out 1).trans rfl, (blk_cell BK211.out 2).trans rfl, ((HB.out.cell (World.block_lt_of_cell? w _ hw222_0)).trans hw222_0), ((HB.out.cell (World.block_lt_of_cell? w _ hw222_1)).trans hw222_1), ((HB.out.cell (World.block_lt_of_cell? w _ hw222_2)).trans hw222_2)⟩ (fun hHeld => ?_); refine with_tabW spec_l01Builtin.tab11 spec_l01Builtin.bits11 (fun HT_ HW_ => ?_)
                          generalize wc.drew = w66 at BK209 BK211 HB hx222_0 hx222_1 hx222_2 hHeld ⊢
                          refine pure_ (i := 0) (N := some 64) (v := ?_) (a' := ?_) #[true, false, false, false, false, false, false, false, false, false] rfl rfl (any_of HT_.out (by kernel_rfl)) (fun _ _ _ h => h) (Or.inl ⟨by rfl, ?_⟩) ?_ ?_
                          rotate_left
                          · intro w'
                            go_simp
                            with_reducible rfl
                          rotate_left
                          · simp only [Act.put, List.setIfInBounds_toArray, List.set_cons_zero, List.set_cons_succ, i64_w, i32_w]
                            rfl
                          refine pure_ (i := 1) (N := some 65) (v := ?_) (a' := ?_) #[true, true, false, false, false, false, false, false, false, false] rfl rfl (any_of HT_.out (by kernel_rfl)) (fun _ _ _ h => h) (Or.inl ⟨by rfl, ?_⟩) ?_ ?_
                          rotate_left
                          · intro w'
                            go_simp
                            with_reducible rfl
                          rotate_left
                          · simp only [Act.put, List.setIfInBounds_toArray, List.set_cons_zero, List.set_cons_succ, i64_w, i32_w]
                            rfl
                          refine pure_ (i := 2) (N := some 66) (v := ?_) (a' := ?_) #[true, true, true, false, false, false, false, false, false, false] rfl rfl (any_of HT_.out (by kernel_rfl)) (fun _ _ _ h => h) (Or.inl ⟨by rfl, ?_⟩) ?_ ?_
                          rotate_left
                          · intro w'
                            go_simp
                            with_reducible rfl
                          rotate_left
                          · simp only [Act.put, List.setIfInBounds_toArray, List.set_cons_zero, List.set_cons_succ, i64_w, i32_w]
                            rfl
                          refine pure_ (i := 4) (N := some 68) (v := ?_) (a' := ?_) #[true, true, true, false, true, false, false, false, false, false] rfl rfl (any_of HT_.out (by kernel_rfl)) (fun _ _ _ h => h) (Or.inl ⟨by rfl, ?_⟩) ?_ ?_
                          rotate_left
                          · intro w'
                            go_simp
                            with_reducible rfl
                          rotate_left
                          · simp only [Act.put, List.setIfInBounds_toArray, List.set_cons_zero, List.set_cons_succ, i64_w, i32_w]
                            rfl
                          refine take_ (i := 3) (N := some 67) (v := ?_) (a' := ?_) #[true, true, true, true, true, false, false, false, false, false] rfl rfl (take_ofW HT_.out HW_.out (by kernel_rfl)) (fun _ _ _ h => h) (Or.inl ⟨by rfl, ?_⟩) hHeld ?_ ?_
                          rotate_left
                          · rintro w' ⟨s0, s1, s2, s3, s4, s5⟩
                            go_simp
                            with_reducible rfl
                          rotate_left
                          · simp only [Act.put, List.setIfInBounds_toArray, List.set_cons_zero, List.set_cons_succ, i64_w, i32_w]
                            rfl
                          refine take_ (i := 5) (N := some 69) (v := ?_) (a' := ?_) #[true, true, true, true, true, true, false, false, false, false] rfl rfl (take_ofW HT_.out HW_.out (by kernel_rfl)) (fun _ _ _ h => h) (Or.inl ⟨by rfl, ?_⟩) hHeld ?_ ?_
                          rotate_left
                          · rintro w' ⟨s0, s1, s2, s3, s4, s5⟩
                            go_simp
                            with_reducible rfl
                          rotate_left
                          · simp only [Act.put, List.setIfInBounds_toArray, List.set_cons_zero, List.set_cons_succ, i64_w, i32_w]
                            rfl
                          refine pure_ (i := 6) (N := some 70) (v := ?_) (a' := ?_) #[true, true, true, true, true, true, true, false, false, false] rfl rfl (any_of HT_.out (by kernel_rfl)) (fun _ _ _ h => h) (Or.inl ⟨by rfl, ?_⟩) ?_ ?_
                          rotate_left
                          · intro w'
                            go_simp
                            with_reducible rfl
                          rotate_left
                          · simp only [Act.put, List.setIfInBounds_toArray, List.set_cons_zero, List.set_cons_succ, i64_w, i32_w]
                            rfl
                          refine pure_ (i := 7) (N := some 71) (v := ?_) (a' := ?_) #[true, true, true, true, true, true, true, true, false, false] rfl rfl (any_of HT_.out (by kernel_rfl)) (fun _ _ _ h => h) (Or.inl ⟨by rfl, ?_⟩) ?_ ?_
                          rotate_left
                          · intro w'
                            go_simp
                            with_reducible rfl
                          rotate_left
                          · simp only [Act.put, List.setIfInBounds_toArray, List.set_cons_zero, List.set_cons_succ, i64_w, i32_w]
                            rfl
                          refine one_ (i := 8) (N := some 72) #[true, true, true, true, true, true, true, true, true, false] rfl rfl (one_of HT_.out (by kernel_rfl)) (by decide) (fun K hK => ?_)
                          refine goes_ Tryd.func53 (by kernel_rfl) rfl #[.int .i64 ((rd_T29 l1 1).f1), .int .i64 0, .int .i64 (wrap64 ((((rd_T29 l1 0).f2).size : Int) - 1))] (by rfl) rfl rfl (by (try simp only [List.map_toArray, List.map_cons, List.map_nil]); first | done | rfl | (simp only [List.length_drop, List.length_take]; rfl)) ?_
                          with_reducible refine (spec_l01In.calls ((rd_T29 l1 1).f1) 0 (wrap64 ((((rd_T29 l1 0).f2).size : Int) - 1)) false _ A54.out).mono ?_
                          rintro e w' ⟨rfl, ⟨nd, rfl⟩⟩
                          refine ⟨_, rfl, ?_⟩
                          refine hK.out _ _ ⟨(blk_cell BK211.out 0).trans rfl, (blk_cell BK211.out 1).trans rfl, (blk_cell BK211.out 2).trans rfl, ((HB.out.cell (World.block_lt_of_cell? w _ hw222_0)).trans hw222_0), ((HB.out.cell (World.block_lt_of_cell? w _ hw222_1)).trans hw222_1), ((HB.out.cell (World.block_lt_of_cell? w _ hw222_2)).trans hw222_2)⟩ (fun hHeld => ?_)
                          clear hK K
                          refine norm_ (a' := ?_) ?_ ?_
                          rotate_left
                          · show Act.put _ (some 72) _ = _
                            simp only [Act.put, List.setIfInBounds_toArray, List.set_cons_zero, List.set_cons_succ, i64_w, i32_w]
                            rfl
                          refine pure_ (i := 9) (N := some 73) (v := ?_) (a' := ?_) #[true, true, true, true, true, true, true, true, true, true] rfl rfl (any_of HT_.out (by kernel_rfl)) (fun _ _ _ h => h) (Or.inl ⟨by rfl, ?_⟩) ?_ ?_
                          rotate_left
                          · intro w'
                            go_simp
                            with_reducible rfl
                          rotate_left
                          · simp only [Act.put, List.setIfInBounds_toArray, List.set_cons_zero, List.set_cons_succ, i64_w, i32_w]
                            rfl
                          refine done_ (done_of HT_.out (by kernel_rfl)) ?_
                          have hnb67 := NB209_211.out
                          have hnc67 := NB211_209.out
                          have hcz68_0 : w66.cell? ⟨gb209, 0, none⟩ = some (.int .i64 0) := (blk_cell BK209.out 0).trans rfl
                          have hcz68_1 : w66.cell? ⟨gb209, 1, none⟩ = some (.int .i64 0) := (blk_cell BK209.out 1).trans rfl
                          have hcz68_2 : w66.cell? ⟨gb209, 2, none⟩ = some (.string (⟨#[]⟩ : ByteArray)) := (blk_cell BK209.out 2).trans rfl
                          have hfz68_0 := blk_frozen BK209.out 0
                          have hfz68_1 := blk_frozen BK209.out 1
                          have hfz68_2 := blk_frozen BK209.out 2
                          try go_wp2
                          refine bodyPost_ret (results_ct rfl _ _ gb209 29 #[.int .i64 0, .int .i64 0, .string (⟨#[]⟩ : ByteArray)] (0, 0) _ rfl (by (with_reducible repeat (first | refine blk_drewN ?_ _ | refine blk_drew ?_ | refine blk_alloc ?_ _)); refine blk_put (cs := #[.int .i64 0, .int .i64 0, .string (⟨#[]⟩ : ByteArray)]) ?_ 2 _ rfl; (with_reducible repeat (first | refine blk_drewN ?_ _ | refine blk_drew ?_ | refine blk_alloc ?_ _)); refine blk_put (cs := #[.int .i64 0, .int .i64 0, .string (⟨#[]⟩ : ByteArray)]) ?_ 1 _ rfl; (with_reducible repeat (first | refine blk_drewN ?_ _ | refine blk_drew ?_ | refine blk_alloc ?_ _)); refine blk_put (cs := #[.int .i64 0, .int .i64 0, .string (⟨#[]⟩ : ByteArray)]) ?_ 0 _ rfl; (with_reducible repeat (first | refine blk_drewN ?_ _ | refine blk_drew ?_ | refine blk_alloc ?_ _)); exact BK209.out) Tryd.underlying29 rfl (by kernel_rfl)) rfl ?_
                          exact ⟨by first | rfl | exact My.ret_isEmpty _ | (simp [errW_none, errW_some] <;> rfl) | (simp [*, errW_none, errW_some] <;> rfl), by repeat (first | (with_reducible first | exact HB.out | apply below_alloc | apply pw_below_drewN | apply below_drew1 | refine below_set ?_ GE209.out | refine below_set ?_ GE211.out) | exact HB.out)⟩
                      · rw [if_neg c53] at H
                        exact absurd H (by simp)
                    · rw [if_neg c52] at H
                      have c52b0 : (a0.toList == ([97, 116] : List UInt8)) = false := beq_eq_false_iff_ne.mpr c52
                      have c52b1 : (a0.toList != ([97, 116] : List UInt8)) = true := bne_iff_ne.mpr c52
                      by_cases c69 : 1 < (l1.length : Int)
                      · rw [if_pos c69] at H
                        have c69b0 : decide (1 < (l1.length : Int)) = true := decide_eq_true c69
                        have c69b1 : decide (1 < l1.length) = true := decide_eq_true (by omega)
                        clear c69
                        by_cases c70 : 2 < (l1.length : Int)
                        · rw [if_pos c70] at H
                          have c70b0 : decide (2 < (l1.length : Int)) = true := decide_eq_true c70
                          have c70b1 : decide (2 < l1.length) = true := decide_eq_true (by omega)
                          clear c70
                          replace H := Option.bind_eq_some_iff.mp H
                          obtain ⟨t230, A710, H⟩ := H
                          replace H : (if t230 = true then ((spec_l01In.f ((rd_T29 l1 2).f1) ((rd_T29 l1 1).f1) (((rd_T29 l1 0).f2).size : Int)).bind fun t231 => (if t231 = true then (if 0 ≤ ((rd_T29 l1 1).f1) then (if ((rd_T29 l1 1).f1) ≤ ((rd_T29 l1 2).f1) then (if ((rd_T29 l1 2).f1) ≤ (((rd_T29 l1 0).f2).size : Int) then ((spec_l01Text.f (((rd_T29 l1 0).f2).extract (((rd_T29 l1 1).f1) : Int).toNat (((rd_T29 l1 2).f1) : Int).toNat)).bind fun bt232 => (some (bt232.1, bt232.2.1, bt232.2.2, 0))) else (none)) else (none)) else (none)) else (some (0, 0, (⟨#[]⟩ : ByteArray), 4)))) else (some (0, 0, (⟨#[]⟩ : ByteArray), 4))) = some (r1, r2, r3, r4) := H
                          have A71 := Aside0.mk A710
                          clear A710
                          by_cases c72 : t230 = true
                          · subst c72
                            have H1 : ((spec_l01In.f ((rd_T29 l1 2).f1) ((rd_T29 l1 1).f1) (((rd_T29 l1 0).f2).size : Int)).bind fun t231 => (if t231 = true then (if 0 ≤ ((rd_T29 l1 1).f1) then (if ((rd_T29 l1 1).f1) ≤ ((rd_T29 l1 2).f1) then (if ((rd_T29 l1 2).f1) ≤ (((rd_T29 l1 0).f2).size : Int) then ((spec_l01Text.f (((rd_T29 l1 0).f2).extract (((rd_T29 l1 1).f1) : Int).toNat (((rd_T29 l1 2).f1) : Int).toNat)).bind fun bt232 => (some (bt232.1, bt232.2.1, bt232.2.2, 0))) else (none)) else (none)) else (none)) else (some (0, 0, (⟨#[]⟩ : ByteArray), 4)))) = some (r1, r2, r3, r4) := by rw [if_pos rfl] at H; exact H
                            clear H
                            have H := H1
                            clear H1
                            replace H := Option.bind_eq_some_iff.mp H
                            obtain ⟨t231, A730, H⟩ := H
                            replace H : (if t231 = true then (if 0 ≤ ((rd_T29 l1 1).f1) then (if ((rd_T29 l1 1).f1) ≤ ((rd_T29 l1 2).f1) then (if ((rd_T29 l1 2).f1) ≤ (((rd_T29 l1 0).f2).size : Int) then ((spec_l01Text.f (((rd_T29 l1 0).f2).extract (((rd_T29 l1 1).f1) : Int).toNat (((rd_T29 l1 2).f1) : Int).toNat)).bind fun bt232 => (some (bt232.1, bt232.2.1, bt232.2.2, 0))) else (none)) else (none)) else (none)) else (some (0, 0, (⟨#[]⟩ : ByteArray), 4))) = some (r1, r2, r3, r4) := H
                            have A73 := Aside0.mk A730
                            clear A730
                            by_cases c74 : t231 = true
                            · subst c74
                              have H1 : (if 0 ≤ ((rd_T29 l1 1).f1) then (if ((rd_T29 l1 1).f1) ≤ ((rd_T29 l1 2).f1) then (if ((rd_T29 l1 2).f1) ≤ (((rd_T29 l1 0).f2).size : Int) then ((spec_l01Text.f (((rd_T29 l1 0).f2).extract (((rd_T29 l1 1).f1) : Int).toNat (((rd_T29 l1 2).f1) : Int).toNat)).bind fun bt232 => (some (bt232.1, bt232.2.1, bt232.2.2, 0))) else (none)) else (none)) else (none)) = some (r1, r2, r3, r4) := by rw [if_pos rfl] at H; exact H
                              clear H
                              have H := H1
                              clear H1
                              by_cases c75 : 0 ≤ ((rd_T29 l1 1).f1)
                              · rw [if_pos c75] at H
                                have c75b0 := eq_true c75
                                have c75b1 : decide (0 ≤ ((rd_T29 l1 1).f1)) = true := decide_eq_true c75
                                clear c75
                                by_cases c76 : ((rd_T29 l1 1).f1) ≤ ((rd_T29 l1 2).f1)
                                · rw [if_pos c76] at H
                                  have c76b0 := eq_true c76
                                  have c76b1 : decide (((rd_T29 l1 1).f1) ≤ ((rd_T29 l1 2).f1)) = true := decide_eq_true c76
                                  clear c76
                                  by_cases c77 : ((rd_T29 l1 2).f1) ≤ (((rd_T29 l1 0).f2).size : Int)
                                  · rw [if_pos c77] at H
                                    have c77b0 := eq_true c77
                                    have c77b1 : decide (((rd_T29 l1 2).f1) ≤ (((rd_T29 l1 0).f2).size : Int)) = true := decide_eq_true c77
                                    clear c77
                                    replace H := Option.bind_eq_some_iff.mp H
                                    obtain ⟨⟨t232, t233, t234⟩, A780, H⟩ := H
                                    replace H : (some (t232, t233, t234, 0)) = some (r1, r2, r3, r4) := H
                                    have A78 := Aside0.mk A780
                                    clear A780
                                    simp only [Option.some.injEq, Prod.mk.injEq] at H
                                    obtain ⟨rfl, rfl, rfl, rfl⟩ := H
                                    have p228 : 0 ≤ (1 : Int) := (by omega)
                                    have q228 : 1 < (l1.length : Int) := of_decide_eq_true (by first | (with_reducible assumption) | assumption)
                                    obtain ⟨ad228, e228, hx228_0, hx228_1, hx228_2⟩ := at_T29 HR1.out 1 p228 q228
                                    obtain rfl : ad210 = ad228 := (by injection e228)
                                    (try simp only [show (1 : Int).toNat = 1 from rfl, Nat.reduceMul, Nat.reduceEqDiff, Go.Addr.add, ↓reduceIte] at hx228_0)
                                    (try simp only [show (1 : Int).toNat = 1 from rfl, Nat.reduceMul, Nat.reduceEqDiff, Go.Addr.add, ↓reduceIte] at hx228_1)
                                    (try simp only [show (1 : Int).toNat = 1 from rfl, Nat.reduceMul, Nat.reduceEqDiff, Go.Addr.add, ↓reduceIte] at hx228_2)
                                    have qi228 : (1 < l1.length) = True := eq_true (by omega)
                                    (try rw [show ((1 : Int)).toNat = 1 from rfl] at hx228_0)
                                    (try rw [show 1 * 3 = 3 from rfl] at hx228_0)
                                    (try rw [show ((1 : Int)).toNat = 1 from rfl] at hx228_1)
                                    (try rw [show 1 * 3 = 3 from rfl] at hx228_1)
                                    (try rw [show ((1 : Int)).toNat = 1 from rfl] at hx228_2)
                                    (try rw [show 1 * 3 = 3 from rfl] at hx228_2)
                                    replace hx228_0 := (HB.out.cell (World.block_lt_of_cell? w _ hx228_0)).trans hx228_0
                                    replace hx228_1 := (HB.out.cell (World.block_lt_of_cell? w _ hx228_1)).trans hx228_1
                                    replace hx228_2 := (HB.out.cell (World.block_lt_of_cell? w _ hx228_2)).trans hx228_2
                                    replace p228 := eq_true p228
                                    replace q228 := eq_true q228
                                    have p229 : 0 ≤ (2 : Int) := (by omega)
                                    have q229 : 2 < (l1.length : Int) := of_decide_eq_true (by first | (with_reducible assumption) | assumption)
                                    obtain ⟨ad229, e229, hx229_0, hx229_1, hx229_2⟩ := at_T29 HR1.out 2 p229 q229
                                    obtain rfl : ad210 = ad229 := (by injection e229)
                                    (try simp only [show (2 : Int).toNat = 2 from rfl, Nat.reduceMul, Nat.reduceEqDiff, Go.Addr.add, ↓reduceIte] at hx229_0)
                                    (try simp only [show (2 : Int).toNat = 2 from rfl, Nat.reduceMul, Nat.reduceEqDiff, Go.Addr.add, ↓reduceIte] at hx229_1)
                                    (try simp only [show (2 : Int).toNat = 2 from rfl, Nat.reduceMul, Nat.reduceEqDiff, Go.Addr.add, ↓reduceIte] at hx229_2)
                                    have qi229 : (2 < l1.length) = True := eq_true (by omega)
                                    (try rw [show ((2 : Int)).toNat = 2 from rfl] at hx229_0)
                                    (try rw [show 2 * 3 = 6 from rfl] at hx229_0)
                                    (try rw [show ((2 : Int)).toNat = 2 from rfl] at hx229_1)
                                    (try rw [show 2 * 3 = 6 from rfl] at hx229_1)
                                    (try rw [show ((2 : Int)).toNat = 2 from rfl] at hx229_2)
                                    (try rw [show 2 * 3 = 6 from rfl] at hx229_2)
                                    replace hx229_0 := (HB.out.cell (World.block_lt_of_cell? w _ hx229_0)).trans hx229_0
                                    replace hx229_1 := (HB.out.cell (World.block_lt_of_cell? w _ hx229_1)).trans hx229_1
                                    replace hx229_2 := (HB.out.cell (World.block_lt_of_cell? w _ hx229_2)).trans hx229_2
                                    replace p229 := eq_true p229
                                    replace q229 := eq_true q229
                                    have hnb79 := NB211_209.out
                                    have hnc79 := NB209_211.out
                                    have hcz80_0 : wc.cell? ⟨gb211, 0, none⟩ = some (.int .i64 ((rd_T29 l1 0).f0)) := (blk_cell BK211.out 0).trans rfl
                                    have hcz80_1 : wc.cell? ⟨gb211, 1, none⟩ = some (.int .i64 ((rd_T29 l1 0).f1)) := (blk_cell BK211.out 1).trans rfl
                                    have hcz80_2 : wc.cell? ⟨gb211, 2, none⟩ = some (.string ((rd_T29 l1 0).f2)) := (blk_cell BK211.out 2).trans rfl
                                    have hfz80_0 := blk_frozen BK211.out 0
                                    have hfz80_1 := blk_frozen BK211.out 1
                                    have hfz80_2 := blk_frozen BK211.out 2
                                    go_wp2_with (first | ((with_reducible refine gate_callee (f := 53) rfl ?_); refine goesL_ (some 96) rfl rfl Tryd.func53 (by kernel_rfl) rfl #[.int .i64 ((rd_T29 l1 1).f1), .int .i64 0, .int .i64 (((rd_T29 l1 0).f2).size : Int)] rfl (by (try simp only [List.map_toArray, List.map_cons, List.map_nil]); first | done | rfl | (simp only [List.length_drop, List.length_take]; rfl)) ?_; (with_reducible refine (spec_l01In.calls ((rd_T29 l1 1).f1) 0 (((rd_T29 l1 0).f2).size : Int) true _ A71.out).mono ?_); rintro e w' ⟨rfl, ⟨nd, rfl⟩⟩; refine ⟨_, rfl, ?_⟩; (try (rw [drewN_self wc]; generalize hq_ : World.drewN wc _ = wc; have n0_ : Aside0 (wc.heap[gb209]? = some (.cells #[.int .i64 0, .int .i64 0, .string (⟨#[]⟩ : ByteArray)] 29 (0, 0))) := ⟨by rw [← hq_]; exact (by (with_reducible repeat (first | refine blk_drewN ?_ _ | refine blk_drew ?_ | refine blk_alloc ?_ _)); exact BK209.out)⟩; have n1_ : Aside0 (wc.heap[gb211]? = some (.cells #[.int .i64 ((rd_T29 l1 0).f0), .int .i64 ((rd_T29 l1 0).f1), .string ((rd_T29 l1 0).f2)] 29 (0, 0))) := ⟨by rw [← hq_]; exact (by (with_reducible repeat (first | refine blk_drewN ?_ _ | refine blk_drew ?_ | refine blk_alloc ?_ _)); exact BK211.out)⟩; have n2_ : Aside0 (Below w.heap.size w wc) := ⟨by rw [← hq_]; exact (by repeat (first | (with_reducible first | exact HB.out | apply below_alloc | apply pw_below_drewN | apply below_drew1 | refine below_set ?_ GE209.out | refine below_set ?_ GE211.out) | exact HB.out))⟩; clear BK209 BK211 HB hq_; have BK209 := n0_; have BK211 := n1_; have HB := n2_; clear n0_ n1_ n2_; have hcz80_0 : wc.cell? ⟨gb211, 0, none⟩ = some (.int .i64 ((rd_T29 l1 0).f0)) := (blk_cell BK211.out 0).trans rfl; have hcz80_1 : wc.cell? ⟨gb211, 1, none⟩ = some (.int .i64 ((rd_T29 l1 0).f1)) := (blk_cell BK211.out 1).trans rfl; have hcz80_2 : wc.cell? ⟨gb211, 2, none⟩ = some (.string ((rd_T29 l1 0).f2)) := (blk_cell BK211.out 2).trans rfl; have hfz80_0 := blk_frozen BK211.out 0; have hfz80_1 := blk_frozen BK211.out 1; have hfz80_2 := blk_frozen BK211.out 2))) | (go_at_call 53; (with_reducible refine (spec_l01In.calls ((rd_T29 l1 2).f1) ((rd_T29 l1 1).f1) (((rd_T29 l1 0).f2).size : Int) true _ A73.out).mono ?_); rintro e w' ⟨rfl, ⟨nd, rfl⟩⟩; (try (rw [drewN_self wc]; generalize hq_ : World.drewN wc _ = wc; have n0_ : Aside0 (wc.heap[gb209]? = some (.cells #[.int .i64 0, .int .i64 0, .string (⟨#[]⟩ : ByteArray)] 29 (0, 0))) := ⟨by rw [← hq_]; exact (by (with_reducible repeat (first | refine blk_drewN ?_ _ | refine blk_drew ?_ | refine blk_alloc ?_ _)); exact BK209.out)⟩; have n1_ : Aside0 (wc.heap[gb211]? = some (.cells #[.int .i64 ((rd_T29 l1 0).f0), .int .i64 ((rd_T29 l1 0).f1), .string ((rd_T29 l1 0).f2)] 29 (0, 0))) := ⟨by rw [← hq_]; exact (by (with_reducible repeat (first | refine blk_drewN ?_ _ | refine blk_drew ?_ | refine blk_alloc ?_ _)); exact BK211.out)⟩; have n2_ : Aside0 (Below w.heap.size w wc) := ⟨by rw [← hq_]; exact (by repeat (first | (with_reducible first | exact HB.out | apply below_alloc | apply pw_below_drewN | apply below_drew1 | refine below_set ?_ GE209.out | refine below_set ?_ GE211.out) | exact HB.out))⟩; clear BK209 BK211 HB hq_; have BK209 := n0_; have BK211 := n1_; have HB := n2_; clear n0_ n1_ n2_; have hcz80_0 : wc.cell? ⟨gb211, 0, none⟩ = some (.int .i64 ((rd_T29 l1 0).f0)) := (blk_cell BK211.out 0).trans rfl; have hcz80_1 : wc.cell? ⟨gb211, 1, none⟩ = some (.int .i64 ((rd_T29 l1 0).f1)) := (blk_cell BK211.out 1).trans rfl; have hcz80_2 : wc.cell? ⟨gb211, 2, none⟩ = some (.string ((rd_T29 l1 0).f2)) := (blk_cell BK211.out 2).trans rfl; have hfz80_0 := blk_frozen BK211.out 0; have hfz80_1 := blk_frozen BK211.out 1; have hfz80_2 := blk_frozen BK211.out 2))) | ((with_reducible refine gate_callee (f := 84) rfl ?_); refine goesL_ (some 113) rfl rfl Tryd.func84 (by kernel_rfl) rfl #[.string (((rd_T29 l1 0).f2).extract (((rd_T29 l1 1).f1) : Int).toNat (((rd_T29 l1 2).f1) : Int).toNat)] rfl (by (try simp only [List.map_toArray, List.map_cons, List.map_nil]); first | done | rfl | (simp only [List.length_drop, List.length_take]; rfl)) ?_; (with_reducible refine (spec_l01Text.calls (((rd_T29 l1 0).f2).extract (((rd_T29 l1 1).f1) : Int).toNat (((rd_T29 l1 2).f1) : Int).toNat) t232 t233 t234 _ A78.out).mono ?_); rintro e w81 ⟨rfl, hb⟩; refine ⟨_, rfl, ?_⟩; have n0_ := Aside0.mk (blk_below (g := gb209) (o := .cells #[.int .i64 0, .int .i64 0, .string (⟨#[]⟩ : ByteArray)] 29 (0, 0)) (by (with_reducible repeat (first | refine blk_drewN ?_ _ | refine blk_drew ?_ | refine blk_alloc ?_ _)); exact BK209.out) hb); have n1_ := Aside0.mk (blk_below (g := gb211) (o := .cells #[.int .i64 ((rd_T29 l1 0).f0), .int .i64 ((rd_T29 l1 0).f1), .string ((rd_T29 l1 0).f2)] 29 (0, 0)) (by (with_reducible repeat (first | refine blk_drewN ?_ _ | refine blk_drew ?_ | refine blk_alloc ?_ _)); exact BK211.out) hb); have n2_ := Aside0.mk (below_step (by repeat (first | (with_reducible first | exact HB.out | apply below_alloc | apply pw_below_drewN | apply below_drew1 | refine below_set ?_ GE209.out | refine below_set ?_ GE211.out) | exact HB.out)) hb); clear BK209; clear BK211; clear HB; have BK209 := n0_; have BK211 := n1_; have HB := n2_; clear n0_ n1_ n2_; (try clear hb); (try clear hb2); (try clear hk); (try clear hi); have hcz82_0 : w81.cell? ⟨gb209, 0, none⟩ = some (.int .i64 0) := (blk_cell BK209.out 0).trans rfl; have hcz82_1 : w81.cell? ⟨gb209, 1, none⟩ = some (.int .i64 0) := (blk_cell BK209.out 1).trans rfl; have hcz82_2 : w81.cell? ⟨gb209, 2, none⟩ = some (.string (⟨#[]⟩ : ByteArray)) := (blk_cell BK209.out 2).trans rfl; have hfz82_0 := blk_frozen BK209.out 0; have hfz82_1 := blk_frozen BK209.out 1; have hfz82_2 := blk_frozen BK209.out 2))
                                    refine bodyPost_ret (results_ct rfl _ _ gb209 29 #[.int .i64 t232, .int .i64 t233, .string t234] (0, 0) _ rfl (by (with_reducible repeat (first | refine blk_drewN ?_ _ | refine blk_drew ?_ | refine blk_alloc ?_ _)); refine blk_put (cs := #[.int .i64 t232, .int .i64 t233, .string (⟨#[]⟩ : ByteArray)]) ?_ 2 _ rfl; (with_reducible repeat (first | refine blk_drewN ?_ _ | refine blk_drew ?_ | refine blk_alloc ?_ _)); refine blk_put (cs := #[.int .i64 t232, .int .i64 0, .string (⟨#[]⟩ : ByteArray)]) ?_ 1 _ rfl; (with_reducible repeat (first | refine blk_drewN ?_ _ | refine blk_drew ?_ | refine blk_alloc ?_ _)); refine blk_put (cs := #[.int .i64 0, .int .i64 0, .string (⟨#[]⟩ : ByteArray)]) ?_ 0 _ rfl; (with_reducible repeat (first | refine blk_drewN ?_ _ | refine blk_drew ?_ | refine blk_alloc ?_ _)); exact BK209.out) Tryd.underlying29 rfl (by kernel_rfl)) rfl ?_
                                    exact ⟨by first | rfl | exact My.ret_isEmpty _ | (simp [errW_none, errW_some] <;> rfl) | (simp [*, errW_none, errW_some] <;> rfl), by repeat (first | (with_reducible first | exact HB.out | apply below_alloc | apply pw_below_drewN | apply below_drew1 | refine below_set ?_ GE209.out | refine below_set ?_ GE211.out) | exact HB.out)⟩
                                  · rw [if_neg c77] at H
                                    exact absurd H (by simp)
                                · rw [if_neg c76] at H
                                  exact absurd H (by simp)
                              · rw [if_neg c75] at H
                                exact absurd H (by simp)
                            · replace c74 := Bool.eq_false_iff.mpr c74
                              subst c74
                              have H1 : (some (0, 0, (⟨#[]⟩ : ByteArray), 4)) = some (r1, r2, r3, r4) := by rw [if_neg (show ¬ (false = true) by decide)] at H; exact H
                              clear H
                              have H := H1
                              clear H1
                              simp only [Option.some.injEq, Prod.mk.injEq] at H
                              obtain ⟨rfl, rfl, rfl, rfl⟩ := H
                              have p228 : 0 ≤ (1 : Int) := (by omega)
                              have q228 : 1 < (l1.length : Int) := of_decide_eq_true (by first | (with_reducible assumption) | assumption)
                              obtain ⟨ad228, e228, hx228_0, hx228_1, hx228_2⟩ := at_T29 HR1.out 1 p228 q228
                              obtain rfl : ad210 = ad228 := (by injection e228)
                              (try simp only [show (1 : Int).toNat = 1 from rfl, Nat.reduceMul, Nat.reduceEqDiff, Go.Addr.add, ↓reduceIte] at hx228_0)
                              (try simp only [show (1 : Int).toNat = 1 from rfl, Nat.reduceMul, Nat.reduceEqDiff, Go.Addr.add, ↓reduceIte] at hx228_1)
                              (try simp only [show (1 : Int).toNat = 1 from rfl, Nat.reduceMul, Nat.reduceEqDiff, Go.Addr.add, ↓reduceIte] at hx228_2)
                              have qi228 : (1 < l1.length) = True := eq_true (by omega)
                              (try rw [show ((1 : Int)).toNat = 1 from rfl] at hx228_0)
                              (try rw [show 1 * 3 = 3 from rfl] at hx228_0)
                              (try rw [show ((1 : Int)).toNat = 1 from rfl] at hx228_1)
                              (try rw [show 1 * 3 = 3 from rfl] at hx228_1)
                              (try rw [show ((1 : Int)).toNat = 1 from rfl] at hx228_2)
                              (try rw [show 1 * 3 = 3 from rfl] at hx228_2)
                              replace hx228_0 := (HB.out.cell (World.block_lt_of_cell? w _ hx228_0)).trans hx228_0
                              replace hx228_1 := (HB.out.cell (World.block_lt_of_cell? w _ hx228_1)).trans hx228_1
                              replace hx228_2 := (HB.out.cell (World.block_lt_of_cell? w _ hx228_2)).trans hx228_2
                              replace p228 := eq_true p228
                              replace q228 := eq_true q228
                              have p229 : 0 ≤ (2 : Int) := (by omega)
                              have q229 : 2 < (l1.length : Int) := of_decide_eq_true (by first | (with_reducible assumption) | assumption)
                              obtain ⟨ad229, e229, hx229_0, hx229_1, hx229_2⟩ := at_T29 HR1.out 2 p229 q229
                              obtain rfl : ad210 = ad229 := (by injection e229)
                              (try simp only [show (2 : Int).toNat = 2 from rfl, Nat.reduceMul, Nat.reduceEqDiff, Go.Addr.add, ↓reduceIte] at hx229_0)
                              (try simp only [show (2 : Int).toNat = 2 from rfl, Nat.reduceMul, Nat.reduceEqDiff, Go.Addr.add, ↓reduceIte] at hx229_1)
                              (try simp only [show (2 : Int).toNat = 2 from rfl, Nat.reduceMul, Nat.reduceEqDiff, Go.Addr.add, ↓reduceIte] at hx229_2)
                              have qi229 : (2 < l1.length) = True := eq_true (by omega)
                              (try rw [show ((2 : Int)).toNat = 2 from rfl] at hx229_0)
                              (try rw [show 2 * 3 = 6 from rfl] at hx229_0)
                              (try rw [show ((2 : Int)).toNat = 2 from rfl] at hx229_1)
                              (try rw [show 2 * 3 = 6 from rfl] at hx229_1)
                              (try rw [show ((2 : Int)).toNat = 2 from rfl] at hx229_2)
                              (try rw [show 2 * 3 = 6 from rfl] at hx229_2)
                              replace hx229_0 := (HB.out.cell (World.block_lt_of_cell? w _ hx229_0)).trans hx229_0
                              replace hx229_1 := (HB.out.cell (World.block_lt_of_cell? w _ hx229_1)).trans hx229_1
                              replace hx229_2 := (HB.out.cell (World.block_lt_of_cell? w _ hx229_2)).trans hx229_2
                              replace p229 := eq_true p229
                              replace q229 := eq_true q229
                              have hnb83 := NB211_209.out
                              have hnc83 := NB209_211.out
                              have hcz84_0 : wc.cell? ⟨gb211, 0, none⟩ = some (.int .i64 ((rd_T29 l1 0).f0)) := (blk_cell BK211.out 0).trans rfl
                              have hcz84_1 : wc.cell? ⟨gb211, 1, none⟩ = some (.int .i64 ((rd_T29 l1 0).f1)) := (blk_cell BK211.out 1).trans rfl
                              have hcz84_2 : wc.cell? ⟨gb211, 2, none⟩ = some (.string ((rd_T29 l1 0).f2)) := (blk_cell BK211.out 2).trans rfl
                              have hfz84_0 := blk_frozen BK211.out 0
                              have hfz84_1 := blk_frozen BK211.out 1
                              have hfz84_2 := blk_frozen BK211.out 2
                              go_wp2_with (first | ((with_reducible refine gate_callee (f := 53) rfl ?_); refine goesL_ (some 96) rfl rfl Tryd.func53 (by kernel_rfl) rfl #[.int .i64 ((rd_T29 l1 1).f1), .int .i64 0, .int .i64 (((rd_T29 l1 0).f2).size : Int)] rfl (by (try simp only [List.map_toArray, List.map_cons, List.map_nil]); first | done | rfl | (simp only [List.length_drop, List.length_take]; rfl)) ?_; (with_reducible refine (spec_l01In.calls ((rd_T29 l1 1).f1) 0 (((rd_T29 l1 0).f2).size : Int) true _ A71.out).mono ?_); rintro e w' ⟨rfl, ⟨nd, rfl⟩⟩; refine ⟨_, rfl, ?_⟩; (try (rw [drewN_self wc]; generalize hq_ : World.drewN wc _ = wc; have n0_ : Aside0 (wc.heap[gb209]? = some (.cells #[.int .i64 0, .int .i64 0, .string (⟨#[]⟩ : ByteArray)] 29 (0, 0))) := ⟨by rw [← hq_]; exact (by (with_reducible repeat (first | refine blk_drewN ?_ _ | refine blk_drew ?_ | refine blk_alloc ?_ _)); exact BK209.out)⟩; have n1_ : Aside0 (wc.heap[gb211]? = some (.cells #[.int .i64 ((rd_T29 l1 0).f0), .int .i64 ((rd_T29 l1 0).f1), .string ((rd_T29 l1 0).f2)] 29 (0, 0))) := ⟨by rw [← hq_]; exact (by (with_reducible repeat (first | refine blk_drewN ?_ _ | refine blk_drew ?_ | refine blk_alloc ?_ _)); exact BK211.out)⟩; have n2_ : Aside0 (Below w.heap.size w wc) := ⟨by rw [← hq_]; exact (by repeat (first | (with_reducible first | exact HB.out | apply below_alloc | apply pw_below_drewN | apply below_drew1 | refine below_set ?_ GE209.out | refine below_set ?_ GE211.out) | exact HB.out))⟩; clear BK209 BK211 HB hq_; have BK209 := n0_; have BK211 := n1_; have HB := n2_; clear n0_ n1_ n2_; have hcz84_0 : wc.cell? ⟨gb211, 0, none⟩ = some (.int .i64 ((rd_T29 l1 0).f0)) := (blk_cell BK211.out 0).trans rfl; have hcz84_1 : wc.cell? ⟨gb211, 1, none⟩ = some (.int .i64 ((rd_T29 l1 0).f1)) := (blk_cell BK211.out 1).trans rfl; have hcz84_2 : wc.cell? ⟨gb211, 2, none⟩ = some (.string ((rd_T29 l1 0).f2)) := (blk_cell BK211.out 2).trans rfl; have hfz84_0 := blk_frozen BK211.out 0; have hfz84_1 := blk_frozen BK211.out 1; have hfz84_2 := blk_frozen BK211.out 2))) | (go_at_call 53; (with_reducible refine (spec_l01In.calls ((rd_T29 l1 2).f1) ((rd_T29 l1 1).f1) (((rd_T29 l1 0).f2).size : Int) false _ A73.out).mono ?_); rintro e w' ⟨rfl, ⟨nd, rfl⟩⟩; (try (rw [drewN_self wc]; generalize hq_ : World.drewN wc _ = wc; have n0_ : Aside0 (wc.heap[gb209]? = some (.cells #[.int .i64 0, .int .i64 0, .string (⟨#[]⟩ : ByteArray)] 29 (0, 0))) := ⟨by rw [← hq_]; exact (by (with_reducible repeat (first | refine blk_drewN ?_ _ | refine blk_drew ?_ | refine blk_alloc ?_ _)); exact BK209.out)⟩; have n1_ : Aside0 (wc.heap[gb211]? = some (.cells #[.int .i64 ((rd_T29 l1 0).f0), .int .i64 ((rd_T29 l1 0).f1), .string ((rd_T29 l1 0).f2)] 29 (0, 0))) := ⟨by rw [← hq_]; exact (by (with_reducible repeat (first | refine blk_drewN ?_ _ | refine blk_drew ?_ | refine blk_alloc ?_ _)); exact BK211.out)⟩; have n2_ : Aside0 (Below w.heap.size w wc) := ⟨by rw [← hq_]; exact (by repeat (first | (with_reducible first | exact HB.out | apply below_alloc | apply pw_below_drewN | apply below_drew1 | refine below_set ?_ GE209.out | refine below_set ?_ GE211.out) | exact HB.out))⟩; clear BK209 BK211 HB hq_; have BK209 := n0_; have BK211 := n1_; have HB := n2_; clear n0_ n1_ n2_; have hcz84_0 : wc.cell? ⟨gb211, 0, none⟩ = some (.int .i64 ((rd_T29 l1 0).f0)) := (blk_cell BK211.out 0).trans rfl; have hcz84_1 : wc.cell? ⟨gb211, 1, none⟩ = some (.int .i64 ((rd_T29 l1 0).f1)) := (blk_cell BK211.out 1).trans rfl; have hcz84_2 : wc.cell? ⟨gb211, 2, none⟩ = some (.string ((rd_T29 l1 0).f2)) := (blk_cell BK211.out 2).trans rfl; have hfz84_0 := blk_frozen BK211.out 0; have hfz84_1 := blk_frozen BK211.out 1; have hfz84_2 := blk_frozen BK211.out 2)); have hcz85_0 : wc.cell? ⟨gb209, 0, none⟩ = some (.int .i64 0) := (blk_cell BK209.out 0).trans rfl; have hcz85_1 : wc.cell? ⟨gb209, 1, none⟩ = some (.int .i64 0) := (blk_cell BK209.out 1).trans rfl; have hcz85_2 : wc.cell? ⟨gb209, 2, none⟩ = some (.string (⟨#[]⟩ : ByteArray)) := (blk_cell BK209.out 2).trans rfl; have hfz85_0 := blk_frozen BK209.out 0; have hfz85_1 := blk_frozen BK209.out 1; have hfz85_2 := blk_frozen BK209.out 2))
                              refine bodyPost_ret (results_ct rfl _ _ gb209 29 #[.int .i64 0, .int .i64 0, .string (⟨#[]⟩ : ByteArray)] (0, 0) _ rfl (by (with_reducible repeat (first | refine blk_drewN ?_ _ | refine blk_drew ?_ | refine blk_alloc ?_ _)); refine blk_put (cs := #[.int .i64 0, .int .i64 0, .string (⟨#[]⟩ : ByteArray)]) ?_ 2 _ rfl; (with_reducible repeat (first | refine blk_drewN ?_ _ | refine blk_drew ?_ | refine blk_alloc ?_ _)); refine blk_put (cs := #[.int .i64 0, .int .i64 0, .string (⟨#[]⟩ : ByteArray)]) ?_ 1 _ rfl; (with_reducible repeat (first | refine blk_drewN ?_ _ | refine blk_drew ?_ | refine blk_alloc ?_ _)); refine blk_put (cs := #[.int .i64 0, .int .i64 0, .string (⟨#[]⟩ : ByteArray)]) ?_ 0 _ rfl; (with_reducible repeat (first | refine blk_drewN ?_ _ | refine blk_drew ?_ | refine blk_alloc ?_ _)); exact BK209.out) Tryd.underlying29 rfl (by kernel_rfl)) rfl ?_
                              exact ⟨by first | rfl | exact My.ret_isEmpty _ | (simp [errW_none, errW_some] <;> rfl) | (simp [*, errW_none, errW_some] <;> rfl), by repeat (first | (with_reducible first | exact HB.out | apply below_alloc | apply pw_below_drewN | apply below_drew1 | refine below_set ?_ GE209.out | refine below_set ?_ GE211.out) | exact HB.out)⟩
                          · replace c72 := Bool.eq_false_iff.mpr c72
                            subst c72
                            have H1 : (some (0, 0, (⟨#[]⟩ : ByteArray), 4)) = some (r1, r2, r3, r4) := by rw [if_neg (show ¬ (false = true) by decide)] at H; exact H
                            clear H
                            have H := H1
                            clear H1
                            simp only [Option.some.injEq, Prod.mk.injEq] at H
                            obtain ⟨rfl, rfl, rfl, rfl⟩ := H
                            have p228 : 0 ≤ (1 : Int) := (by omega)
                            have q228 : 1 < (l1.length : Int) := of_decide_eq_true (by first | (with_reducible assumption) | assumption)
                            obtain ⟨ad228, e228, hx228_0, hx228_1, hx228_2⟩ := at_T29 HR1.out 1 p228 q228
                            obtain rfl : ad210 = ad228 := (by injection e228)
                            (try simp only [show (1 : Int).toNat = 1 from rfl, Nat.reduceMul, Nat.reduceEqDiff, Go.Addr.add, ↓reduceIte] at hx228_0)
                            (try simp only [show (1 : Int).toNat = 1 from rfl, Nat.reduceMul, Nat.reduceEqDiff, Go.Addr.add, ↓reduceIte] at hx228_1)
                            (try simp only [show (1 : Int).toNat = 1 from rfl, Nat.reduceMul, Nat.reduceEqDiff, Go.Addr.add, ↓reduceIte] at hx228_2)
                            have qi228 : (1 < l1.length) = True := eq_true (by omega)
                            (try rw [show ((1 : Int)).toNat = 1 from rfl] at hx228_0)
                            (try rw [show 1 * 3 = 3 from rfl] at hx228_0)
                            (try rw [show ((1 : Int)).toNat = 1 from rfl] at hx228_1)
                            (try rw [show 1 * 3 = 3 from rfl] at hx228_1)
                            (try rw [show ((1 : Int)).toNat = 1 from rfl] at hx228_2)
                            (try rw [show 1 * 3 = 3 from rfl] at hx228_2)
                            replace hx228_0 := (HB.out.cell (World.block_lt_of_cell? w _ hx228_0)).trans hx228_0
                            replace hx228_1 := (HB.out.cell (World.block_lt_of_cell? w _ hx228_1)).trans hx228_1
                            replace hx228_2 := (HB.out.cell (World.block_lt_of_cell? w _ hx228_2)).trans hx228_2
                            replace p228 := eq_true p228
                            replace q228 := eq_true q228
                            have p229 : 0 ≤ (2 : Int) := (by omega)
                            have q229 : 2 < (l1.length : Int) := of_decide_eq_true (by first | (with_reducible assumption) | assumption)
                            obtain ⟨ad229, e229, hx229_0, hx229_1, hx229_2⟩ := at_T29 HR1.out 2 p229 q229
                            obtain rfl : ad210 = ad229 := (by injection e229)
                            (try simp only [show (2 : Int).toNat = 2 from rfl, Nat.reduceMul, Nat.reduceEqDiff, Go.Addr.add, ↓reduceIte] at hx229_0)
                            (try simp only [show (2 : Int).toNat = 2 from rfl, Nat.reduceMul, Nat.reduceEqDiff, Go.Addr.add, ↓reduceIte] at hx229_1)
                            (try simp only [show (2 : Int).toNat = 2 from rfl, Nat.reduceMul, Nat.reduceEqDiff, Go.Addr.add, ↓reduceIte] at hx229_2)
                            have qi229 : (2 < l1.length) = True := eq_true (by omega)
                            (try rw [show ((2 : Int)).toNat = 2 from rfl] at hx229_0)
                            (try rw [show 2 * 3 = 6 from rfl] at hx229_0)
                            (try rw [show ((2 : Int)).toNat = 2 from rfl] at hx229_1)
                            (try rw [show 2 * 3 = 6 from rfl] at hx229_1)
                            (try rw [show ((2 : Int)).toNat = 2 from rfl] at hx229_2)
                            (try rw [show 2 * 3 = 6 from rfl] at hx229_2)
                            replace hx229_0 := (HB.out.cell (World.block_lt_of_cell? w _ hx229_0)).trans hx229_0
                            replace hx229_1 := (HB.out.cell (World.block_lt_of_cell? w _ hx229_1)).trans hx229_1
                            replace hx229_2 := (HB.out.cell (World.block_lt_of_cell? w _ hx229_2)).trans hx229_2
                            replace p229 := eq_true p229
                            replace q229 := eq_true q229
                            have hnb86 := NB211_209.out
                            have hnc86 := NB209_211.out
                            have hcz87_0 : wc.cell? ⟨gb211, 0, none⟩ = some (.int .i64 ((rd_T29 l1 0).f0)) := (blk_cell BK211.out 0).trans rfl
                            have hcz87_1 : wc.cell? ⟨gb211, 1, none⟩ = some (.int .i64 ((rd_T29 l1 0).f1)) := (blk_cell BK211.out 1).trans rfl
                            have hcz87_2 : wc.cell? ⟨gb211, 2, none⟩ = some (.string ((rd_T29 l1 0).f2)) := (blk_cell BK211.out 2).trans rfl
                            have hfz87_0 := blk_frozen BK211.out 0
                            have hfz87_1 := blk_frozen BK211.out 1
                            have hfz87_2 := blk_frozen BK211.out 2
                            go_wp2_with (first | ((with_reducible refine gate_callee (f := 53) rfl ?_); refine goesL_ (some 96) rfl rfl Tryd.func53 (by kernel_rfl) rfl #[.int .i64 ((rd_T29 l1 1).f1), .int .i64 0, .int .i64 (((rd_T29 l1 0).f2).size : Int)] rfl (by (try simp only [List.map_toArray, List.map_cons, List.map_nil]); first | done | rfl | (simp only [List.length_drop, List.length_take]; rfl)) ?_; (with_reducible refine (spec_l01In.calls ((rd_T29 l1 1).f1) 0 (((rd_T29 l1 0).f2).size : Int) false _ A71.out).mono ?_); rintro e w' ⟨rfl, ⟨nd, rfl⟩⟩; refine ⟨_, rfl, ?_⟩; (try (rw [drewN_self wc]; generalize hq_ : World.drewN wc _ = wc; have n0_ : Aside0 (wc.heap[gb209]? = some (.cells #[.int .i64 0, .int .i64 0, .string (⟨#[]⟩ : ByteArray)] 29 (0, 0))) := ⟨by rw [← hq_]; exact (by (with_reducible repeat (first | refine blk_drewN ?_ _ | refine blk_drew ?_ | refine blk_alloc ?_ _)); exact BK209.out)⟩; have n1_ : Aside0 (wc.heap[gb211]? = some (.cells #[.int .i64 ((rd_T29 l1 0).f0), .int .i64 ((rd_T29 l1 0).f1), .string ((rd_T29 l1 0).f2)] 29 (0, 0))) := ⟨by rw [← hq_]; exact (by (with_reducible repeat (first | refine blk_drewN ?_ _ | refine blk_drew ?_ | refine blk_alloc ?_ _)); exact BK211.out)⟩; have n2_ : Aside0 (Below w.heap.size w wc) := ⟨by rw [← hq_]; exact (by repeat (first | (with_reducible first | exact HB.out | apply below_alloc | apply pw_below_drewN | apply below_drew1 | refine below_set ?_ GE209.out | refine below_set ?_ GE211.out) | exact HB.out))⟩; clear BK209 BK211 HB hq_; have BK209 := n0_; have BK211 := n1_; have HB := n2_; clear n0_ n1_ n2_; have hcz87_0 : wc.cell? ⟨gb211, 0, none⟩ = some (.int .i64 ((rd_T29 l1 0).f0)) := (blk_cell BK211.out 0).trans rfl; have hcz87_1 : wc.cell? ⟨gb211, 1, none⟩ = some (.int .i64 ((rd_T29 l1 0).f1)) := (blk_cell BK211.out 1).trans rfl; have hcz87_2 : wc.cell? ⟨gb211, 2, none⟩ = some (.string ((rd_T29 l1 0).f2)) := (blk_cell BK211.out 2).trans rfl; have hfz87_0 := blk_frozen BK211.out 0; have hfz87_1 := blk_frozen BK211.out 1; have hfz87_2 := blk_frozen BK211.out 2)); have hcz88_0 : wc.cell? ⟨gb209, 0, none⟩ = some (.int .i64 0) := (blk_cell BK209.out 0).trans rfl; have hcz88_1 : wc.cell? ⟨gb209, 1, none⟩ = some (.int .i64 0) := (blk_cell BK209.out 1).trans rfl; have hcz88_2 : wc.cell? ⟨gb209, 2, none⟩ = some (.string (⟨#[]⟩ : ByteArray)) := (blk_cell BK209.out 2).trans rfl; have hfz88_0 := blk_frozen BK209.out 0; have hfz88_1 := blk_frozen BK209.out 1; have hfz88_2 := blk_frozen BK209.out 2))
                            refine bodyPost_ret (results_ct rfl _ _ gb209 29 #[.int .i64 0, .int .i64 0, .string (⟨#[]⟩ : ByteArray)] (0, 0) _ rfl (by (with_reducible repeat (first | refine blk_drewN ?_ _ | refine blk_drew ?_ | refine blk_alloc ?_ _)); refine blk_put (cs := #[.int .i64 0, .int .i64 0, .string (⟨#[]⟩ : ByteArray)]) ?_ 2 _ rfl; (with_reducible repeat (first | refine blk_drewN ?_ _ | refine blk_drew ?_ | refine blk_alloc ?_ _)); refine blk_put (cs := #[.int .i64 0, .int .i64 0, .string (⟨#[]⟩ : ByteArray)]) ?_ 1 _ rfl; (with_reducible repeat (first | refine blk_drewN ?_ _ | refine blk_drew ?_ | refine blk_alloc ?_ _)); refine blk_put (cs := #[.int .i64 0, .int .i64 0, .string (⟨#[]⟩ : ByteArray)]) ?_ 0 _ rfl; (with_reducible repeat (first | refine blk_drewN ?_ _ | refine blk_drew ?_ | refine blk_alloc ?_ _)); exact BK209.out) Tryd.underlying29 rfl (by kernel_rfl)) rfl ?_
                            exact ⟨by first | rfl | exact My.ret_isEmpty _ | (simp [errW_none, errW_some] <;> rfl) | (simp [*, errW_none, errW_some] <;> rfl), by repeat (first | (with_reducible first | exact HB.out | apply below_alloc | apply pw_below_drewN | apply below_drew1 | refine below_set ?_ GE209.out | refine below_set ?_ GE211.out) | exact HB.out)⟩
                        · rw [if_neg c70] at H
                          exact absurd H (by simp)
                      · rw [if_neg c69] at H
                        exact absurd H (by simp)
          · replace c21 := Bool.eq_false_iff.mpr c21
            subst c21
            have H1 : (if ((rd_T29 l1 0).f0) = 1 then (if (l1.length : Int) > 1 then (if 1 < (l1.length : Int) then (spec_l01Builtin.j2 kj13 a0 l1 (((rd_T29 l1 1).f0) != 1) ((rd_T29 l1 0).f0) ((rd_T29 l1 0).f1) ((rd_T29 l1 0).f2)) else (none)) else (spec_l01Builtin.j2 kj13 a0 l1 false ((rd_T29 l1 0).f0) ((rd_T29 l1 0).f1) ((rd_T29 l1 0).f2))) else (spec_l01Builtin.j2 kj13 a0 l1 true ((rd_T29 l1 0).f0) ((rd_T29 l1 0).f1) ((rd_T29 l1 0).f2))) = some (r1, r2, r3, r4) := by rw [if_neg (show ¬ (false = true) by decide)] at H; exact H
            clear H
            have H := H1
            clear H1
            have HC89 := Aside0.mk H
            clear H
            go_upto_region 19 with (fail)
            go_cut [128] (fun v128 wc => ∃ (kq : Nat) (x128_88 : Bool), v128 = .bool x128_88 ∧ Aside0 (spec_l01Builtin.j2 kq a0 l1 x128_88 ((rd_T29 l1 0).f0) ((rd_T29 l1 0).f1) ((rd_T29 l1 0).f2) = some (r1, r2, r3, r4)) ∧ Aside0 (kq ≤ kj13) ∧ Aside0 (wc.heap[gb209]? = some (.cells #[.int .i64 0, .int .i64 0, .string (⟨#[]⟩ : ByteArray)] 29 (0, 0))) ∧ Aside0 (wc.heap[gb211]? = some (.cells #[.int .i64 ((rd_T29 l1 0).f0), .int .i64 ((rd_T29 l1 0).f1), .string ((rd_T29 l1 0).f2)] 29 (0, 0))) ∧ Aside0 (Below w.heap.size w wc))
            case first =>
              have H := HC89.out
              clear HC89
              by_cases c90 : ((rd_T29 l1 0).f0) = 1
              · rw [if_pos c90] at H
                have c90b0 : (((rd_T29 l1 0).f0) == 1) = true := beq_iff_eq.mpr c90
                have c90b1 : (((rd_T29 l1 0).f0) != 1) = false := bne_eq_false_iff_eq.mpr c90
                clear c90
                (first | rw [c90b0] | (simp only [i64_w, i32_w]; rw [c90b0]) | skip)
                by_cases c91 : (l1.length : Int) > 1
                · rw [if_pos c91] at H
                  have c91b0 : decide (1 < (l1.length : Int)) = true := decide_eq_true c91
                  have c91b1 : decide (1 < l1.length) = true := decide_eq_true (by omega)
                  clear c91
                  by_cases c92 : 1 < (l1.length : Int)
                  · rw [if_pos c92] at H
                    have c92b0 : decide (1 < (l1.length : Int)) = true := decide_eq_true c92
                    have c92b1 : decide (1 < l1.length) = true := decide_eq_true (by omega)
                    clear c92
                    have H' := Aside0.mk H
                    clear H
                    have hnb93 := NB211_209.out
                    have hnc93 := NB209_211.out
                    have hcz94_0 : wc.cell? ⟨gb211, 0, none⟩ = some (.int .i64 ((rd_T29 l1 0).f0)) := (blk_cell BK211.out 0).trans rfl
                    have hcz94_1 : wc.cell? ⟨gb211, 1, none⟩ = some (.int .i64 ((rd_T29 l1 0).f1)) := (blk_cell BK211.out 1).trans rfl
                    have hcz94_2 : wc.cell? ⟨gb211, 2, none⟩ = some (.string ((rd_T29 l1 0).f2)) := (blk_cell BK211.out 2).trans rfl
                    have hfz94_0 := blk_frozen BK211.out 0
                    have hfz94_1 := blk_frozen BK211.out 1
                    have hfz94_2 := blk_frozen BK211.out 2
                    have p235 : 0 ≤ (1 : Int) := (by omega)
                    have q235 : 1 < (l1.length : Int) := of_decide_eq_true (by first | (with_reducible assumption) | assumption)
                    obtain ⟨ad235, e235, hx235_0, hx235_1, hx235_2⟩ := at_T29 HR1.out 1 p235 q235
                    obtain rfl : ad210 = ad235 := (by injection e235)
                    (try simp only [show (1 : Int).toNat = 1 from rfl, Nat.reduceMul, Nat.reduceEqDiff, Go.Addr.add, ↓reduceIte] at hx235_0)
                    (try simp only [show (1 : Int).toNat = 1 from rfl, Nat.reduceMul, Nat.reduceEqDiff, Go.Addr.add, ↓reduceIte] at hx235_1)
                    (try simp only [show (1 : Int).toNat = 1 from rfl, Nat.reduceMul, Nat.reduceEqDiff, Go.Addr.add, ↓reduceIte] at hx235_2)
                    have qi235 : (1 < l1.length) = True := eq_true (by omega)
                    (try rw [show ((1 : Int)).toNat = 1 from rfl] at hx235_0)
                    (try rw [show 1 * 3 = 3 from rfl] at hx235_0)
                    (try rw [show ((1 : Int)).toNat = 1 from rfl] at hx235_1)
                    (try rw [show 1 * 3 = 3 from rfl] at hx235_1)
                    (try rw [show ((1 : Int)).toNat = 1 from rfl] at hx235_2)
                    (try rw [show 1 * 3 = 3 from rfl] at hx235_2)
                    replace hx235_0 := (HB.out.cell (World.block_lt_of_cell? w _ hx235_0)).trans hx235_0
                    replace hx235_1 := (HB.out.cell (World.block_lt_of_cell? w _ hx235_1)).trans hx235_1
                    replace hx235_2 := (HB.out.cell (World.block_lt_of_cell? w _ hx235_2)).trans hx235_2
                    replace p235 := eq_true p235
                    replace q235 := eq_true q235
                    go_wp2
                    go_meet
                    case rel => exact ⟨_, ((((rd_T29 l1 1).f0) != 1)), (by first | rfl | (simp; done) | (simp [*]; done)), H', ⟨by have := HJ13.out; first | omega | exact Nat.le_refl _⟩, ⟨by (with_reducible repeat (first | refine blk_drewN ?_ _ | refine blk_drew ?_ | refine blk_alloc ?_ _)); exact BK209.out⟩, ⟨by (with_reducible repeat (first | refine blk_drewN ?_ _ | refine blk_drew ?_ | refine blk_alloc ?_ _)); exact BK211.out⟩, ⟨by repeat (first | (with_reducible first | exact HB.out | apply below_alloc | apply pw_below_drewN | apply below_drew1 | refine below_set ?_ GE209.out | refine below_set ?_ GE211.out) | exact HB.out)⟩⟩
                  · rw [if_neg c92] at H
                    exact absurd H (by simp)
                · rw [if_neg c91] at H
                  have c91b0 : decide (1 < (l1.length : Int)) = false := decide_eq_false c91
                  have c91b1 : decide (1 < l1.length) = false := decide_eq_false (by omega)
                  clear c91
                  have H' := Aside0.mk H
                  clear H
                  have hnb95 := NB211_209.out
                  have hnc95 := NB209_211.out
                  have hcz96_0 : wc.cell? ⟨gb211, 0, none⟩ = some (.int .i64 ((rd_T29 l1 0).f0)) := (blk_cell BK211.out 0).trans rfl
                  have hcz96_1 : wc.cell? ⟨gb211, 1, none⟩ = some (.int .i64 ((rd_T29 l1 0).f1)) := (blk_cell BK211.out 1).trans rfl
                  have hcz96_2 : wc.cell? ⟨gb211, 2, none⟩ = some (.string ((rd_T29 l1 0).f2)) := (blk_cell BK211.out 2).trans rfl
                  have hfz96_0 := blk_frozen BK211.out 0
                  have hfz96_1 := blk_frozen BK211.out 1
                  have hfz96_2 := blk_frozen BK211.out 2
                  go_wp2
                  go_meet
                  case rel => exact ⟨_, (false), (by first | rfl | (simp; done) | (simp [*]; done)), H', ⟨by have := HJ13.out; first | omega | exact Nat.le_refl _⟩, ⟨by (with_reducible repeat (first | refine blk_drewN ?_ _ | refine blk_drew ?_ | refine blk_alloc ?_ _)); exact BK209.out⟩, ⟨by (with_reducible repeat (first | refine blk_drewN ?_ _ | refine blk_drew ?_ | refine blk_alloc ?_ _)); exact BK211.out⟩, ⟨by repeat (first | (with_reducible first | exact HB.out | apply below_alloc | apply pw_below_drewN | apply below_drew1 | refine below_set ?_ GE209.out | refine below_set ?_ GE211.out) | exact HB.out)⟩⟩
              · rw [if_neg c90] at H
                have c90b0 : (((rd_T29 l1 0).f0) == 1) = false := beq_eq_false_iff_ne.mpr c90
                have c90b1 : (((rd_T29 l1 0).f0) != 1) = true := bne_iff_ne.mpr c90
                (first | rw [c90b0] | (simp only [i64_w, i32_w]; rw [c90b0]) | skip)
                have H' := Aside0.mk H
                clear H
                have hnb97 := NB211_209.out
                have hnc97 := NB209_211.out
                have hcz98_0 : wc.cell? ⟨gb211, 0, none⟩ = some (.int .i64 ((rd_T29 l1 0).f0)) := (blk_cell BK211.out 0).trans rfl
                have hcz98_1 : wc.cell? ⟨gb211, 1, none⟩ = some (.int .i64 ((rd_T29 l1 0).f1)) := (blk_cell BK211.out 1).trans rfl
                have hcz98_2 : wc.cell? ⟨gb211, 2, none⟩ = some (.string ((rd_T29 l1 0).f2)) := (blk_cell BK211.out 2).trans rfl
                have hfz98_0 := blk_frozen BK211.out 0
                have hfz98_1 := blk_frozen BK211.out 1
                have hfz98_2 := blk_frozen BK211.out 2
                go_wp2
                go_meet
                case rel => exact ⟨_, (true), (by first | rfl | (simp; done) | (simp [*]; done)), H', ⟨by have := HJ13.out; first | omega | exact Nat.le_refl _⟩, ⟨by (with_reducible repeat (first | refine blk_drewN ?_ _ | refine blk_drew ?_ | refine blk_alloc ?_ _)); exact BK209.out⟩, ⟨by (with_reducible repeat (first | refine blk_drewN ?_ _ | refine blk_drew ?_ | refine blk_alloc ?_ _)); exact BK211.out⟩, ⟨by repeat (first | (with_reducible first | exact HB.out | apply below_alloc | apply pw_below_drewN | apply below_drew1 | refine below_set ?_ GE209.out | refine below_set ?_ GE211.out) | exact HB.out)⟩⟩
            case rest =>
              clear HC89
              try clear c2
              try clear p2
              try clear q2
              try clear hx2
              try clear qi2
              try clear c5
              try clear c6
              try clear p6
              try clear c7
              try clear c8
              try clear c9
              try clear c21
              try clear p22
              try clear q22
              try clear hx22
              try clear qi22
              try clear p23
              try clear q23
              try clear hx23
              try clear qi23
              try clear c52
              try clear c52b0
              try clear c52b1
              try clear c53
              try clear c55
              try clear c56
              try clear c57
              try clear p64
              try clear c67
              try clear c69
              try clear c69b0
              try clear c69b1
              try clear c70
              try clear c70b0
              try clear c70b1
              try clear c72
              try clear c74
              try clear c75
              try clear c75b0
              try clear c75b1
              try clear c76
              try clear c76b0
              try clear c76b1
              try clear c77
              try clear c77b0
              try clear c77b1
              try clear c79
              try clear c83
              try clear c84
              try clear c85
              try clear c86
              try clear c90
              try clear c90b0
              try clear c90b1
              try clear c91
              try clear c91b0
              try clear c91b1
              try clear c92
              try clear c92b0
              try clear c92b1
              try clear c93
              try clear c95
              try clear c97
              try clear hcz68_0
              try clear hcz68_1
              try clear hcz68_2
              try clear hcz80_0
              try clear hcz80_1
              try clear hcz80_2
              try clear hcz82_0
              try clear hcz82_1
              try clear hcz82_2
              try clear hcz84_0
              try clear hcz84_1
              try clear hcz84_2
              try clear hcz85_0
              try clear hcz85_1
              try clear hcz85_2
              try clear hcz87_0
              try clear hcz87_1
              try clear hcz87_2
              try clear hcz88_0
              try clear hcz88_1
              try clear hcz88_2
              try clear hcz94_0
              try clear hcz94_1
              try clear hcz94_2
              try clear hcz96_0
              try clear hcz96_1
              try clear hcz96_2
              try clear hcz98_0
              try clear hcz98_1
              try clear hcz98_2
              try clear hfz68_0
              try clear hfz68_1
              try clear hfz68_2
              try clear hfz80_0
              try clear hfz80_1
              try clear hfz80_2
              try clear hfz82_0
              try clear hfz82_1
              try clear hfz82_2
              try clear hfz84_0
              try clear hfz84_1
              try clear hfz84_2
              try clear hfz85_0
              try clear hfz85_1
              try clear hfz85_2
              try clear hfz87_0
              try clear hfz87_1
              try clear hfz87_2
              try clear hfz88_0
              try clear hfz88_1
              try clear hfz88_2
              try clear hfz94_0
              try clear hfz94_1
              try clear hfz94_2
              try clear hfz96_0
              try clear hfz96_1
              try clear hfz96_2
              try clear hfz98_0
              try clear hfz98_1
              try clear hfz98_2
              try clear hx222_0
              try clear hx222_1
              try clear hx222_2
              try clear hx228_0
              try clear hx228_1
              try clear hx228_2
              try clear hx229_0
              try clear hx229_1
              try clear hx229_2
              try clear hx235_0
              try clear hx235_1
              try clear hx235_2
              try clear p222
              try clear p228
              try clear p229
              try clear p235
              try clear q222
              try clear q228
              try clear q229
              try clear q235
              obtain ⟨kq, x128_88, rfl, HA, HJ88, BK209, BK211, HB⟩ := hcut
              cases kq with
              | zero => exact absurd HA.out (by simp [spec_l01Builtin.j2])
              | succ kj88 =>
                have H := HA.out
                clear HA
                simp only [spec_l01Builtin.j2] at H
                by_cases c99 : x128_88 = true
                · subst c99
                  have H1 : (some (0, 0, (⟨#[]⟩ : ByteArray), 8)) = some (r1, r2, r3, r4) := by rw [if_pos rfl] at H; exact H
                  clear H
                  have H := H1
                  clear H1
                  simp only [Option.some.injEq, Prod.mk.injEq] at H
                  obtain ⟨rfl, rfl, rfl, rfl⟩ := H
                  have hnb100 := NB209_211.out
                  have hnc100 := NB211_209.out
                  have hcz101_0 : wc.cell? ⟨gb209, 0, none⟩ = some (.int .i64 0) := (blk_cell BK209.out 0).trans rfl
                  have hcz101_1 : wc.cell? ⟨gb209, 1, none⟩ = some (.int .i64 0) := (blk_cell BK209.out 1).trans rfl
                  have hcz101_2 : wc.cell? ⟨gb209, 2, none⟩ = some (.string (⟨#[]⟩ : ByteArray)) := (blk_cell BK209.out 2).trans rfl
                  have hfz101_0 := blk_frozen BK209.out 0
                  have hfz101_1 := blk_frozen BK209.out 1
                  have hfz101_2 := blk_frozen BK209.out 2
                  go_wp2
                  refine bodyPost_ret (results_ct rfl _ _ gb209 29 #[.int .i64 0, .int .i64 0, .string (⟨#[]⟩ : ByteArray)] (0, 0) _ rfl (by (with_reducible repeat (first | refine blk_drewN ?_ _ | refine blk_drew ?_ | refine blk_alloc ?_ _)); refine blk_put (cs := #[.int .i64 0, .int .i64 0, .string (⟨#[]⟩ : ByteArray)]) ?_ 2 _ rfl; (with_reducible repeat (first | refine blk_drewN ?_ _ | refine blk_drew ?_ | refine blk_alloc ?_ _)); refine blk_put (cs := #[.int .i64 0, .int .i64 0, .string (⟨#[]⟩ : ByteArray)]) ?_ 1 _ rfl; (with_reducible repeat (first | refine blk_drewN ?_ _ | refine blk_drew ?_ | refine blk_alloc ?_ _)); refine blk_put (cs := #[.int .i64 0, .int .i64 0, .string (⟨#[]⟩ : ByteArray)]) ?_ 0 _ rfl; (with_reducible repeat (first | refine blk_drewN ?_ _ | refine blk_drew ?_ | refine blk_alloc ?_ _)); exact BK209.out) Tryd.underlying29 rfl (by kernel_rfl)) rfl ?_
                  exact ⟨by first | rfl | exact My.ret_isEmpty _ | (simp [errW_none, errW_some] <;> rfl) | (simp [*, errW_none, errW_some] <;> rfl), by repeat (first | (with_reducible first | exact HB.out | apply below_alloc | apply pw_below_drewN | apply below_drew1 | refine below_set ?_ GE209.out | refine below_set ?_ GE211.out) | exact HB.out)⟩
                · replace c99 := Bool.eq_false_iff.mpr c99
                  subst c99
                  have H1 : (if a0.toList = ([97, 98, 115] : List UInt8) then ((spec_l01Fit.f (mx ((rd_T29 l1 0).f1) (wrap64 (-((rd_T29 l1 0).f1))))).bind fun bt236 => (some (bt236.1, bt236.2.1, bt236.2.2.1, bt236.2.2.2))) else (if a0.toList = ([109, 97, 120] : List UInt8) then (if 1 < (l1.length : Int) then ((spec_l01Int.f (mx ((rd_T29 l1 0).f1) ((rd_T29 l1 1).f1))).bind fun bt241 => (some (bt241.1, bt241.2.1, bt241.2.2, 0))) else (none)) else (if 1 < (l1.length : Int) then ((spec_l01Int.f (mn ((rd_T29 l1 0).f1) ((rd_T29 l1 1).f1))).bind fun bt245 => (some (bt245.1, bt245.2.1, bt245.2.2, 0))) else (none)))) = some (r1, r2, r3, r4) := by rw [if_neg (show ¬ (false = true) by decide)] at H; exact H
                  clear H
                  have H := H1
                  clear H1
                  by_cases c102 : a0.toList = ([97, 98, 115] : List UInt8)
                  · rw [if_pos c102] at H
                    have c102b0 : (a0.toList == ([97, 98, 115] : List UInt8)) = true := beq_iff_eq.mpr c102
                    have c102b1 : (a0.toList != ([97, 98, 115] : List UInt8)) = false := bne_eq_false_iff_eq.mpr c102
                    clear c102
                    obtain ⟨ji103, hji103⟩ : ∃ j_ : Int, (mx ((rd_T29 l1 0).f1) (wrap64 (-((rd_T29 l1 0).f1)))) = j_ := ⟨_, rfl⟩
                    replace H : ((spec_l01Fit.f (ji103)).bind fun bt236 => (some (bt236.1, bt236.2.1, bt236.2.2.1, bt236.2.2.2))) = some (r1, r2, r3, r4) := by first | (rw [hji103] at H; exact H) | (simp only [hji103] at H ⊢; exact H)
                    have hji103_ : (if ((rd_T29 l1 0).f1) < (wrap64 (-((rd_T29 l1 0).f1))) then (wrap64 (-((rd_T29 l1 0).f1))) else ((rd_T29 l1 0).f1)) = ji103 := hji103
                    replace H := Option.bind_eq_some_iff.mp H
                    obtain ⟨⟨t236, t237, t238, t239⟩, A1040, H⟩ := H
                    replace H : (some (t236, t237, t238, t239)) = some (r1, r2, r3, r4) := H
                    have A104 := Aside0.mk A1040
                    clear A1040
                    simp only [Option.some.injEq, Prod.mk.injEq] at H
                    obtain ⟨rfl, rfl, rfl, rfl⟩ := H
                    have hnb105 := NB211_209.out
                    have hnc105 := NB209_211.out
                    have hcz106_0 : wc.cell? ⟨gb211, 0, none⟩ = some (.int .i64 ((rd_T29 l1 0).f0)) := (blk_cell BK211.out 0).trans rfl
                    have hcz106_1 : wc.cell? ⟨gb211, 1, none⟩ = some (.int .i64 ((rd_T29 l1 0).f1)) := (blk_cell BK211.out 1).trans rfl
                    have hcz106_2 : wc.cell? ⟨gb211, 2, none⟩ = some (.string ((rd_T29 l1 0).f2)) := (blk_cell BK211.out 2).trans rfl
                    have hfz106_0 := blk_frozen BK211.out 0
                    have hfz106_1 := blk_frozen BK211.out 1
                    have hfz106_2 := blk_frozen BK211.out 2
                    go_wp2_with (first | ((with_reducible refine gate_callee (f := 86) rfl ?_); refine goesL_ (some 139) rfl rfl Tryd.func86 (by kernel_rfl) rfl #[.int .i64 ji103] rfl (by (try simp only [List.map_toArray, List.map_cons, List.map_nil]); first | done | (simp only [hji103]; rfl) | rfl | (simp only [List.length_drop, List.length_take]; rfl)) ?_; (with_reducible refine (spec_l01Fit.calls ji103 t236 t237 t238 t239 _ A104.out).mono ?_); rintro e w107 ⟨rfl, hb⟩; refine ⟨_, rfl, ?_⟩; have n0_ := Aside0.mk (blk_below (g := gb209) (o := .cells #[.int .i64 0, .int .i64 0, .string (⟨#[]⟩ : ByteArray)] 29 (0, 0)) (by (with_reducible repeat (first | refine blk_drewN ?_ _ | refine blk_drew ?_ | refine blk_alloc ?_ _)); exact BK209.out) hb); have n1_ := Aside0.mk (blk_below (g := gb211) (o := .cells #[.int .i64 ((rd_T29 l1 0).f0), .int .i64 ((rd_T29 l1 0).f1), .string ((rd_T29 l1 0).f2)] 29 (0, 0)) (by (with_reducible repeat (first | refine blk_drewN ?_ _ | refine blk_drew ?_ | refine blk_alloc ?_ _)); exact BK211.out) hb); have n2_ := Aside0.mk (below_step (by repeat (first | (with_reducible first | exact HB.out | apply below_alloc | apply pw_below_drewN | apply below_drew1 | refine below_set ?_ GE209.out | refine below_set ?_ GE211.out) | exact HB.out)) hb); clear BK209; clear BK211; clear HB; have BK209 := n0_; have BK211 := n1_; have HB := n2_; clear n0_ n1_ n2_; (try clear hb); (try clear hb2); (try clear hk); (try clear hi); have hcz108_0 : w107.cell? ⟨gb209, 0, none⟩ = some (.int .i64 0) := (blk_cell BK209.out 0).trans rfl; have hcz108_1 : w107.cell? ⟨gb209, 1, none⟩ = some (.int .i64 0) := (blk_cell BK209.out 1).trans rfl; have hcz108_2 : w107.cell? ⟨gb209, 2, none⟩ = some (.string (⟨#[]⟩ : ByteArray)) := (blk_cell BK209.out 2).trans rfl; have hfz108_0 := blk_frozen BK209.out 0; have hfz108_1 := blk_frozen BK209.out 1; have hfz108_2 := blk_frozen BK209.out 2))
                    refine bodyPost_ret (results_ct rfl _ _ gb209 29 #[.int .i64 t236, .int .i64 t237, .string t238] (0, 0) _ rfl (by (with_reducible repeat (first | refine blk_drewN ?_ _ | refine blk_drew ?_ | refine blk_alloc ?_ _)); refine blk_put (cs := #[.int .i64 t236, .int .i64 t237, .string (⟨#[]⟩ : ByteArray)]) ?_ 2 _ rfl; (with_reducible repeat (first | refine blk_drewN ?_ _ | refine blk_drew ?_ | refine blk_alloc ?_ _)); refine blk_put (cs := #[.int .i64 t236, .int .i64 0, .string (⟨#[]⟩ : ByteArray)]) ?_ 1 _ rfl; (with_reducible repeat (first | refine blk_drewN ?_ _ | refine blk_drew ?_ | refine blk_alloc ?_ _)); refine blk_put (cs := #[.int .i64 0, .int .i64 0, .string (⟨#[]⟩ : ByteArray)]) ?_ 0 _ rfl; (with_reducible repeat (first | refine blk_drewN ?_ _ | refine blk_drew ?_ | refine blk_alloc ?_ _)); exact BK209.out) Tryd.underlying29 rfl (by kernel_rfl)) rfl ?_
                    exact ⟨by first | rfl | exact My.ret_isEmpty _ | (simp [errW_none, errW_some] <;> rfl) | (simp only [← hji103]; first | rfl | (simp [errW_none, errW_some] <;> rfl)) | (simp [*, errW_none, errW_some] <;> rfl), by repeat (first | (with_reducible first | exact HB.out | apply below_alloc | apply pw_below_drewN | apply below_drew1 | refine below_set ?_ GE209.out | refine below_set ?_ GE211.out) | exact HB.out)⟩
                  · rw [if_neg c102] at H
                    have c102b0 : (a0.toList == ([97, 98, 115] : List UInt8)) = false := beq_eq_false_iff_ne.mpr c102
                    have c102b1 : (a0.toList != ([97, 98, 115] : List UInt8)) = true := bne_iff_ne.mpr c102
                    by_cases c109 : a0.toList = ([109, 97, 120] : List UInt8)
                    · rw [if_pos c109] at H
                      have c109b0 : (a0.toList == ([109, 97, 120] : List UInt8)) = true := beq_iff_eq.mpr c109
                      have c109b1 : (a0.toList != ([109, 97, 120] : List UInt8)) = false := bne_eq_false_iff_eq.mpr c109
                      clear c109
                      by_cases c110 : 1 < (l1.length : Int)
                      · rw [if_pos c110] at H
                        have c110b0 : decide (1 < (l1.length : Int)) = true := decide_eq_true c110
                        have c110b1 : decide (1 < l1.length) = true := decide_eq_true (by omega)
                        clear c110
                        obtain ⟨ji111, hji111⟩ : ∃ j_ : Int, (mx ((rd_T29 l1 0).f1) ((rd_T29 l1 1).f1)) = j_ := ⟨_, rfl⟩
                        replace H : ((spec_l01Int.f (ji111)).bind fun bt241 => (some (bt241.1, bt241.2.1, bt241.2.2, 0))) = some (r1, r2, r3, r4) := by first | (rw [hji111] at H; exact H) | (simp only [hji111] at H ⊢; exact H)
                        have hji111_ : (if ((rd_T29 l1 0).f1) < ((rd_T29 l1 1).f1) then ((rd_T29 l1 1).f1) else ((rd_T29 l1 0).f1)) = ji111 := hji111
                        replace H := Option.bind_eq_some_iff.mp H
                        obtain ⟨⟨t241, t242, t243⟩, A1120, H⟩ := H
                        replace H : (some (t241, t242, t243, 0)) = some (r1, r2, r3, r4) := H
                        have A112 := Aside0.mk A1120
                        clear A1120
                        simp only [Option.some.injEq, Prod.mk.injEq] at H
                        obtain ⟨rfl, rfl, rfl, rfl⟩ := H
                        try go_wp2
                        have n0_ := Aside0.mk (blk_drew BK209.out)
                        have n1_ := Aside0.mk (blk_drew BK211.out)
                        have n2_ := Aside0.mk (below_drew1 HB.out)
                        clear BK209
                        clear BK211
                        clear HB
                        have BK209 := n0_
                        have BK211 := n1_
                        have HB := n2_
                        clear n0_ n1_ n2_
                        have p240 : 0 ≤ (1 : Int) := (by omega)
                        have q240 : 1 < (l1.length : Int) := of_decide_eq_true (by first | (with_reducible assumption) | assumption)
                        obtain ⟨ad240, e240, hx240_0, hx240_1, hx240_2⟩ := at_T29 HR1.out 1 p240 q240
                        have hw240_2 := hx240_2
                        (try rw [show ((1 : Int)).toNat = 1 from rfl] at hw240_2)
                        (try rw [show 1 * 3 = 3 from rfl] at hw240_2)
                        (try simp only [Nat.reduceMul, Nat.reduceEqDiff, Go.Addr.add, ↓reduceIte] at hw240_2)
                        have hw240_1 := hx240_1
                        (try rw [show ((1 : Int)).toNat = 1 from rfl] at hw240_1)
                        (try rw [show 1 * 3 = 3 from rfl] at hw240_1)
                        (try simp only [Nat.reduceMul, Nat.reduceEqDiff, Go.Addr.add, ↓reduceIte] at hw240_1)
                        have hw240_0 := hx240_0
                        (try rw [show ((1 : Int)).toNat = 1 from rfl] at hw240_0)
                        (try rw [show 1 * 3 = 3 from rfl] at hw240_0)
                        (try simp only [Nat.reduceMul, Nat.reduceEqDiff, Go.Addr.add, ↓reduceIte] at hw240_0)
                        obtain rfl : ad210 = ad240 := (by injection e240)
                        (try simp only [show (1 : Int).toNat = 1 from rfl, Nat.reduceMul, Nat.reduceEqDiff, Go.Addr.add, ↓reduceIte] at hx240_0)
                        (try simp only [show (1 : Int).toNat = 1 from rfl, Nat.reduceMul, Nat.reduceEqDiff, Go.Addr.add, ↓reduceIte] at hx240_1)
                        (try simp only [show (1 : Int).toNat = 1 from rfl, Nat.reduceMul, Nat.reduceEqDiff, Go.Addr.add, ↓reduceIte] at hx240_2)
                        have qi240 : (1 < l1.length) = True := eq_true (by omega)
                        (try rw [show ((1 : Int)).toNat = 1 from rfl] at hx240_0)
                        (try rw [show 1 * 3 = 3 from rfl] at hx240_0)
                        (try rw [show ((1 : Int)).toNat = 1 from rfl] at hx240_1)
                        (try rw [show 1 * 3 = 3 from rfl] at hx240_1)
                        (try rw [show ((1 : Int)).toNat = 1 from rfl] at hx240_2)
                        (try rw [show 1 * 3 = 3 from rfl] at hx240_2)
                        replace hx240_0 := (HB.out.cell (World.block_lt_of_cell? w _ hx240_0)).trans hx240_0
                        replace hx240_1 := (HB.out.cell (World.block_lt_of_cell? w _ hx240_1)).trans hx240_1
                        replace hx240_2 := (HB.out.cell (World.block_lt_of_cell? w _ hx240_2)).trans hx240_2
                        replace p240 := eq_true p240
                        replace q240 := eq_true q240
                        refine start_ (n := 10) (S := fun w' => w'.cell? ⟨gb211, 0, none⟩ = some (.int .i64 ((rd_T29 l1 0).f0)) ∧ w'.cell? ⟨gb211, 1, none⟩ = some (.int .i64 ((rd_T29 l1 0).f1)) ∧ w'.cell? ⟨gb211, 2, none⟩ = some (.string ((rd_T29 l1 0).f2)) ∧ w'.cell? ⟨ad210.block, ad210.off + 3, none⟩ = some (.int .i64 ((rd_T29 l1 1).f0)) ∧ w'.cell? ⟨ad210.block, ad210.off + 3 + 1, none⟩ = some (.int .i64 ((rd_T29 l1 1).f1)) ∧ w'.cell? ⟨ad210.block, ad210.off + 3 + 2, none⟩ = some (.string ((rd_T29 l1 1).f2))) (ds := []) #[false, false, false, false, false, false, false, false, false, false] (by kernel_rfl) rfl rfl ⟨(blk_cell BK211.out 0).trans rfl, (blk_cell BK211.out 1).trans rfl, (blk_cell BK211.out 2).trans rfl, ((HB.out.cell (World.block_lt_of_cell? w _ hw240_0)).trans hw240_0), ((HB.out.cell (World.block_lt_of_cell? w _ hw240_1)).trans hw240_1), ((HB.out.cell (World.block_lt_of_cell? w _ hw240_2)).trans hw240_2)⟩ (fun hHeld => ?_); refine with_tabW spec_l01Builtin.tab25 spec_l01Builtin.bits25 (fun HT_ HW_ => ?_)
                        generalize wc.drew = w113 at BK209 BK211 HB hx240_0 hx240_1 hx240_2 hHeld ⊢
                        refine pure_ (i := 0) (N := some 144) (v := ?_) (a' := ?_) #[true, false, false, false, false, false, false, false, false, false] rfl rfl (any_of HT_.out (by kernel_rfl)) (fun _ _ _ h => h) (Or.inl ⟨by rfl, ?_⟩) ?_ ?_
                        rotate_left
                        · intro w'
                          go_simp
                          with_reducible rfl
                        rotate_left
                        · simp only [Act.put, List.setIfInBounds_toArray, List.set_cons_zero, List.set_cons_succ, i64_w, i32_w]
                          rfl
                        refine pure_ (i := 2) (N := some 146) (v := ?_) (a' := ?_) #[true, false, true, false, false, false, false, false, false, false] rfl rfl (any_of HT_.out (by kernel_rfl)) (fun _ _ _ h => h) (Or.inl ⟨by rfl, ?_⟩) ?_ ?_
                        rotate_left
                        · intro w'
                          go_simp
                          with_reducible rfl
                        rotate_left
                        · simp only [Act.put, List.setIfInBounds_toArray, List.set_cons_zero, List.set_cons_succ, i64_w, i32_w]
                          rfl
                        refine pure_ (i := 3) (N := some 147) (v := ?_) (a' := ?_) #[true, false, true, true, false, false, false, false, false, false] rfl rfl (any_of HT_.out (by kernel_rfl)) (fun _ _ _ h => h) (Or.inl ⟨by rfl, ?_⟩) ?_ ?_
                        rotate_left
                        · intro w'
                          go_simp
                          with_reducible rfl
                        rotate_left
                        · simp only [Act.put, List.setIfInBounds_toArray, List.set_cons_zero, List.set_cons_succ, i64_w, i32_w]
                          rfl
                        refine pure_ (i := 4) (N := some 148) (v := ?_) (a' := ?_) #[true, false, true, true, true, false, false, false, false, false] rfl rfl (any_of HT_.out (by kernel_rfl)) (fun _ _ _ h => h) (Or.inl ⟨by rfl, ?_⟩) ?_ ?_
                        rotate_left
                        · intro w'
                          go_simp
                          with_reducible rfl
                        rotate_left
                        · simp only [Act.put, List.setIfInBounds_toArray, List.set_cons_zero, List.set_cons_succ, i64_w, i32_w]
                          rfl
                        refine take_ (i := 1) (N := some 145) (v := ?_) (a' := ?_) #[true, true, true, true, true, false, false, false, false, false] rfl rfl (take_ofW HT_.out HW_.out (by kernel_rfl)) (fun _ _ _ h => h) (Or.inl ⟨by rfl, ?_⟩) hHeld ?_ ?_
                        rotate_left
                        · rintro w' ⟨s0, s1, s2, s3, s4, s5⟩
                          go_simp
                          with_reducible rfl
                        rotate_left
                        · simp only [Act.put, List.setIfInBounds_toArray, List.set_cons_zero, List.set_cons_succ, i64_w, i32_w]
                          rfl
                        refine take_ (i := 5) (N := some 149) (v := ?_) (a' := ?_) #[true, true, true, true, true, true, false, false, false, false] rfl rfl (take_ofW HT_.out HW_.out (by kernel_rfl)) (fun _ _ _ h => h) (Or.inl ⟨by rfl, ?_⟩) hHeld ?_ ?_
                        rotate_left
                        · rintro w' ⟨s0, s1, s2, s3, s4, s5⟩
                          go_simp
                          with_reducible rfl
                        rotate_left
                        · simp only [Act.put, List.setIfInBounds_toArray, List.set_cons_zero, List.set_cons_succ, i64_w, i32_w]
                          rfl
                        refine pure_ (i := 6) (N := some 150) (v := ?_) (a' := ?_) #[true, true, true, true, true, true, true, false, false, false] rfl rfl (any_of HT_.out (by kernel_rfl)) (fun _ _ _ h => h) (Or.inl ⟨by rfl, ?_⟩) ?_ ?_
                        rotate_left
                        · intro w'
                          go_simp
                          with_reducible rfl
                        rotate_left
                        · simp only [Act.put, List.setIfInBounds_toArray, List.set_cons_zero, List.set_cons_succ, i64_w, i32_w]
                          rfl
                        refine one_ (i := 7) (N := some 151) #[true, true, true, true, true, true, true, true, false, false] rfl rfl (one_of HT_.out (by kernel_rfl)) (by decide) (fun K hK => ?_)
                        refine goes_ Tryd.func85 (by kernel_rfl) rfl #[.int .i64 ji111] (by rfl) rfl rfl (by (try simp only [List.map_toArray, List.map_cons, List.map_nil]); first | done | (simp only [hji111]; rfl) | rfl | (simp only [List.length_drop, List.length_take]; rfl)) ?_
                        with_reducible refine (spec_l01Int.calls ji111 t241 t242 t243 _ A112.out).mono ?_
                        rintro e w114 ⟨rfl, hb⟩
                        refine ⟨_, rfl, ?_⟩
                        have n0_ := Aside0.mk (blk_below (g := gb209) (o := .cells #[.int .i64 0, .int .i64 0, .string (⟨#[]⟩ : ByteArray)] 29 (0, 0)) (by (with_reducible repeat (first | refine blk_drewN ?_ _ | refine blk_drew ?_ | refine blk_alloc ?_ _)); exact BK209.out) hb)
                        have n1_ := Aside0.mk (blk_below (g := gb211) (o := .cells #[.int .i64 ((rd_T29 l1 0).f0), .int .i64 ((rd_T29 l1 0).f1), .string ((rd_T29 l1 0).f2)] 29 (0, 0)) (by (with_reducible repeat (first | refine blk_drewN ?_ _ | refine blk_drew ?_ | refine blk_alloc ?_ _)); exact BK211.out) hb)
                        have n2_ := Aside0.mk (below_step (by repeat (first | (with_reducible first | exact HB.out | apply below_alloc | apply pw_below_drewN | apply below_drew1 | refine below_set ?_ GE209.out | refine below_set ?_ GE211.out) | exact HB.out)) hb)
                        clear BK209
                        clear BK211
                        clear HB
                        have BK209 := n0_
                        have BK211 := n1_
                        have HB := n2_
                        clear n0_ n1_ n2_
                        (try clear hb)
                        (try clear hb2)
                        (try clear hk)
                        (try clear hi)
                        refine hK.out _ _ ⟨(blk_cell BK211.out 0).trans rfl, (blk_cell BK211.out 1).trans rfl, (blk_cell BK211.out 2).trans rfl, ((HB.out.cell (World.block_lt_of_cell? w _ hw240_0)).trans hw240_0), ((HB.out.cell (World.block_lt_of_cell? w _ hw240_1)).trans hw240_1), ((HB.out.cell (World.block_lt_of_cell? w _ hw240_2)).trans hw240_2)⟩ (fun hHeld => ?_)
                        clear hK K
                        refine norm_ (a' := ?_) ?_ ?_
                        rotate_left
                        · show Act.put _ (some 151) _ = _
                          simp only [Act.put, List.setIfInBounds_toArray, List.set_cons_zero, List.set_cons_succ, i64_w, i32_w]
                          rfl
                        refine one_ (i := 8) (N := none) #[true, true, true, true, true, true, true, true, true, false] rfl rfl (one_of HT_.out (by kernel_rfl)) (by decide) (fun K hK => ?_)
                        have hs115 : w114.cell? ⟨gb209, 0, none⟩ = some (.int .i64 0) := (blk_cell BK209.out 0).trans rfl
                        have hfs115 := blk_frozen BK209.out 0
                        have hns115_1 := NB211_209.out
                        have hms115_1 := NB209_211.out
                        have hs116 : w114.cell? ⟨gb209, 1, none⟩ = some (.int .i64 0) := (blk_cell BK209.out 1).trans rfl
                        have hfs116 := blk_frozen BK209.out 1
                        have hns116_1 := NB211_209.out
                        have hms116_1 := NB209_211.out
                        have hs117 : w114.cell? ⟨gb209, 2, none⟩ = some (.string (⟨#[]⟩ : ByteArray)) := (blk_cell BK209.out 2).trans rfl
                        have hfs117 := blk_frozen BK209.out 2
                        have hns117_1 := NB211_209.out
                        have hms117_1 := NB209_211.out
                        refine skip_ (w1 := ?_) (by rfl) rfl ?_ ?_
                        rotate_left
                        · go_simp
                          rfl
                        refine hK.out _ _ ⟨((cell_far (p := ⟨gb209, _, none⟩) NB211_209.out _).trans (((cell_far (p := ⟨gb209, _, none⟩) NB211_209.out _).trans (((cell_far (p := ⟨gb209, _, none⟩) NB211_209.out _).trans (hHeld.1)))))), ((cell_far (p := ⟨gb209, _, none⟩) NB211_209.out _).trans (((cell_far (p := ⟨gb209, _, none⟩) NB211_209.out _).trans (((cell_far (p := ⟨gb209, _, none⟩) NB211_209.out _).trans (hHeld.2.1)))))), ((cell_far (p := ⟨gb209, _, none⟩) NB211_209.out _).trans (((cell_far (p := ⟨gb209, _, none⟩) NB211_209.out _).trans (((cell_far (p := ⟨gb209, _, none⟩) NB211_209.out _).trans (hHeld.2.2.1)))))), ((cell_far (p := ⟨gb209, _, none⟩) (by first | exact Nat.ne_of_lt (Nat.lt_of_lt_of_le (by have := World.block_lt_of_cell? _ _ hw240_0; first | rwa [add_block] at this | exact this) GW209.out) | (rw [add_block]; exact Nat.ne_of_lt (Nat.lt_of_lt_of_le (by have := World.block_lt_of_cell? _ _ hw240_0; first | rwa [add_block] at this | exact this) GW209.out)) | (show (Addr.add _ _).block ≠ _; rw [add_block]; exact Nat.ne_of_lt (Nat.lt_of_lt_of_le (by have := World.block_lt_of_cell? _ _ hw240_0; first | rwa [add_block] at this | exact this) GW209.out)) | (dsimp only; exact Nat.ne_of_lt (Nat.lt_of_lt_of_le (by have := World.block_lt_of_cell? _ _ hw240_0; first | rwa [add_block] at this | exact this) GW209.out))) _).trans (((cell_far (p := ⟨gb209, _, none⟩) (by first | exact Nat.ne_of_lt (Nat.lt_of_lt_of_le (by have := World.block_lt_of_cell? _ _ hw240_0; first | rwa [add_block] at this | exact this) GW209.out) | (rw [add_block]; exact Nat.ne_of_lt (Nat.lt_of_lt_of_le (by have := World.block_lt_of_cell? _ _ hw240_0; first | rwa [add_block] at this | exact this) GW209.out)) | (show (Addr.add _ _).block ≠ _; rw [add_block]; exact Nat.ne_of_lt (Nat.lt_of_lt_of_le (by have := World.block_lt_of_cell? _ _ hw240_0; first | rwa [add_block] at this | exact this) GW209.out)) | (dsimp only; exact Nat.ne_of_lt (Nat.lt_of_lt_of_le (by have := World.block_lt_of_cell? _ _ hw240_0; first | rwa [add_block] at this | exact this) GW209.out))) _).trans (((cell_far (p := ⟨gb209, _, none⟩) (by first | exact Nat.ne_of_lt (Nat.lt_of_lt_of_le (by have := World.block_lt_of_cell? _ _ hw240_0; first | rwa [add_block] at this | exact this) GW209.out) | (rw [add_block]; exact Nat.ne_of_lt (Nat.lt_of_lt_of_le (by have := World.block_lt_of_cell? _ _ hw240_0; first | rwa [add_block] at this | exact this) GW209.out)) | (show (Addr.add _ _).block ≠ _; rw [add_block]; exact Nat.ne_of_lt (Nat.lt_of_lt_of_le (by have := World.block_lt_of_cell? _ _ hw240_0; first | rwa [add_block] at this | exact this) GW209.out)) | (dsimp only; exact Nat.ne_of_lt (Nat.lt_of_lt_of_le (by have := World.block_lt_of_cell? _ _ hw240_0; first | rwa [add_block] at this | exact this) GW209.out))) _).trans (hHeld.2.2.2.1)))))), ((cell_far (p := ⟨gb209, _, none⟩) (by first | exact Nat.ne_of_lt (Nat.lt_of_lt_of_le (by have := World.block_lt_of_cell? _ _ hw240_1; first | rwa [add_block] at this | exact this) GW209.out) | (rw [add_block]; exact Nat.ne_of_lt (Nat.lt_of_lt_of_le (by have := World.block_lt_of_cell? _ _ hw240_1; first | rwa [add_block] at this | exact this) GW209.out)) | (show (Addr.add _ _).block ≠ _; rw [add_block]; exact Nat.ne_of_lt (Nat.lt_of_lt_of_le (by have := World.block_lt_of_cell? _ _ hw240_1; first | rwa [add_block] at this | exact this) GW209.out)) | (dsimp only; exact Nat.ne_of_lt (Nat.lt_of_lt_of_le (by have := World.block_lt_of_cell? _ _ hw240_1; first | rwa [add_block] at this | exact this) GW209.out))) _).trans (((cell_far (p := ⟨gb209, _, none⟩) (by first | exact Nat.ne_of_lt (Nat.lt_of_lt_of_le (by have := World.block_lt_of_cell? _ _ hw240_1; first | rwa [add_block] at this | exact this) GW209.out) | (rw [add_block]; exact Nat.ne_of_lt (Nat.lt_of_lt_of_le (by have := World.block_lt_of_cell? _ _ hw240_1; first | rwa [add_block] at this | exact this) GW209.out)) | (show (Addr.add _ _).block ≠ _; rw [add_block]; exact Nat.ne_of_lt (Nat.lt_of_lt_of_le (by have := World.block_lt_of_cell? _ _ hw240_1; first | rwa [add_block] at this | exact this) GW209.out)) | (dsimp only; exact Nat.ne_of_lt (Nat.lt_of_lt_of_le (by have := World.block_lt_of_cell? _ _ hw240_1; first | rwa [add_block] at this | exact this) GW209.out))) _).trans (((cell_far (p := ⟨gb209, _, none⟩) (by first | exact Nat.ne_of_lt (Nat.lt_of_lt_of_le (by have := World.block_lt_of_cell? _ _ hw240_1; first | rwa [add_block] at this | exact this) GW209.out) | (rw [add_block]; exact Nat.ne_of_lt (Nat.lt_of_lt_of_le (by have := World.block_lt_of_cell? _ _ hw240_1; first | rwa [add_block] at this | exact this) GW209.out)) | (show (Addr.add _ _).block ≠ _; rw [add_block]; exact Nat.ne_of_lt (Nat.lt_of_lt_of_le (by have := World.block_lt_of_cell? _ _ hw240_1; first | rwa [add_block] at this | exact this) GW209.out)) | (dsimp only; exact Nat.ne_of_lt (Nat.lt_of_lt_of_le (by have := World.block_lt_of_cell? _ _ hw240_1; first | rwa [add_block] at this | exact this) GW209.out))) _).trans (hHeld.2.2.2.2.1)))))), ((cell_far (p := ⟨gb209, _, none⟩) (by first | exact Nat.ne_of_lt (Nat.lt_of_lt_of_le (by have := World.block_lt_of_cell? _ _ hw240_2; first | rwa [add_block] at this | exact this) GW209.out) | (rw [add_block]; exact Nat.ne_of_lt (Nat.lt_of_lt_of_le (by have := World.block_lt_of_cell? _ _ hw240_2; first | rwa [add_block] at this | exact this) GW209.out)) | (show (Addr.add _ _).block ≠ _; rw [add_block]; exact Nat.ne_of_lt (Nat.lt_of_lt_of_le (by have := World.block_lt_of_cell? _ _ hw240_2; first | rwa [add_block] at this | exact this) GW209.out)) | (dsimp only; exact Nat.ne_of_lt (Nat.lt_of_lt_of_le (by have := World.block_lt_of_cell? _ _ hw240_2; first | rwa [add_block] at this | exact this) GW209.out))) _).trans (((cell_far (p := ⟨gb209, _, none⟩) (by first | exact Nat.ne_of_lt (Nat.lt_of_lt_of_le (by have := World.block_lt_of_cell? _ _ hw240_2; first | rwa [add_block] at this | exact this) GW209.out) | (rw [add_block]; exact Nat.ne_of_lt (Nat.lt_of_lt_of_le (by have := World.block_lt_of_cell? _ _ hw240_2; first | rwa [add_block] at this | exact this) GW209.out)) | (show (Addr.add _ _).block ≠ _; rw [add_block]; exact Nat.ne_of_lt (Nat.lt_of_lt_of_le (by have := World.block_lt_of_cell? _ _ hw240_2; first | rwa [add_block] at this | exact this) GW209.out)) | (dsimp only; exact Nat.ne_of_lt (Nat.lt_of_lt_of_le (by have := World.block_lt_of_cell? _ _ hw240_2; first | rwa [add_block] at this | exact this) GW209.out))) _).trans (((cell_far (p := ⟨gb209, _, none⟩) (by first | exact Nat.ne_of_lt (Nat.lt_of_lt_of_le (by have := World.block_lt_of_cell? _ _ hw240_2; first | rwa [add_block] at this | exact this) GW209.out) | (rw [add_block]; exact Nat.ne_of_lt (Nat.lt_of_lt_of_le (by have := World.block_lt_of_cell? _ _ hw240_2; first | rwa [add_block] at this | exact this) GW209.out)) | (show (Addr.add _ _).block ≠ _; rw [add_block]; exact Nat.ne_of_lt (Nat.lt_of_lt_of_le (by have := World.block_lt_of_cell? _ _ hw240_2; first | rwa [add_block] at this | exact this) GW209.out)) | (dsimp only; exact Nat.ne_of_lt (Nat.lt_of_lt_of_le (by have := World.block_lt_of_cell? _ _ hw240_2; first | rwa [add_block] at this | exact this) GW209.out))) _).trans (hHeld.2.2.2.2.2))))))⟩ (fun hHeld => ?_)
                        clear hK K
                        refine pure_ (i := 9) (N := some 5) (v := ?_) (a' := ?_) #[true, true, true, true, true, true, true, true, true, true] rfl rfl (any_of HT_.out (by kernel_rfl)) (fun _ _ _ h => h) (Or.inl ⟨by rfl, ?_⟩) ?_ ?_
                        rotate_left
                        · intro w'
                          go_simp
                          with_reducible rfl
                        rotate_left
                        · simp only [Act.put, List.setIfInBounds_toArray, List.set_cons_zero, List.set_cons_succ, i64_w, i32_w]
                          rfl
                        refine done_ (done_of HT_.out (by kernel_rfl)) ?_
                        try go_wp2
                        refine bodyPost_ret (results_ct rfl _ _ gb209 29 #[.int .i64 t241, .int .i64 t242, .string t243] (0, 0) _ rfl (by (with_reducible repeat (first | refine blk_drewN ?_ _ | refine blk_drew ?_ | refine blk_alloc ?_ _)); refine blk_put (cs := #[.int .i64 t241, .int .i64 t242, .string (⟨#[]⟩ : ByteArray)]) ?_ 2 _ rfl; (with_reducible repeat (first | refine blk_drewN ?_ _ | refine blk_drew ?_ | refine blk_alloc ?_ _)); refine blk_put (cs := #[.int .i64 t241, .int .i64 0, .string (⟨#[]⟩ : ByteArray)]) ?_ 1 _ rfl; (with_reducible repeat (first | refine blk_drewN ?_ _ | refine blk_drew ?_ | refine blk_alloc ?_ _)); refine blk_put (cs := #[.int .i64 0, .int .i64 0, .string (⟨#[]⟩ : ByteArray)]) ?_ 0 _ rfl; (with_reducible repeat (first | refine blk_drewN ?_ _ | refine blk_drew ?_ | refine blk_alloc ?_ _)); exact BK209.out) Tryd.underlying29 rfl (by kernel_rfl)) rfl ?_
                        exact ⟨by first | rfl | exact My.ret_isEmpty _ | (simp [errW_none, errW_some] <;> rfl) | (simp only [← hji111]; first | rfl | (simp [errW_none, errW_some] <;> rfl)) | (simp [*, errW_none, errW_some] <;> rfl), by repeat (first | (with_reducible first | exact HB.out | apply below_alloc | apply pw_below_drewN | apply below_drew1 | refine below_set ?_ GE209.out | refine below_set ?_ GE211.out) | exact HB.out)⟩
                      · rw [if_neg c110] at H
                        exact absurd H (by simp)
                    · rw [if_neg c109] at H
                      have c109b0 : (a0.toList == ([109, 97, 120] : List UInt8)) = false := beq_eq_false_iff_ne.mpr c109
                      have c109b1 : (a0.toList != ([109, 97, 120] : List UInt8)) = true := bne_iff_ne.mpr c109
                      by_cases c118 : 1 < (l1.length : Int)
                      · rw [if_pos c118] at H
                        have c118b0 : decide (1 < (l1.length : Int)) = true := decide_eq_true c118
                        have c118b1 : decide (1 < l1.length) = true := decide_eq_true (by omega)
                        clear c118
                        obtain ⟨ji119, hji119⟩ : ∃ j_ : Int, (mn ((rd_T29 l1 0).f1) ((rd_T29 l1 1).f1)) = j_ := ⟨_, rfl⟩
                        replace H : ((spec_l01Int.f (ji119)).bind fun bt245 => (some (bt245.1, bt245.2.1, bt245.2.2, 0))) = some (r1, r2, r3, r4) := by first | (rw [hji119] at H; exact H) | (simp only [hji119] at H ⊢; exact H)
                        have hji119_ : (if ((rd_T29 l1 1).f1) < ((rd_T29 l1 0).f1) then ((rd_T29 l1 1).f1) else ((rd_T29 l1 0).f1)) = ji119 := hji119
                        replace H := Option.bind_eq_some_iff.mp H
                        obtain ⟨⟨t245, t246, t247⟩, A1200, H⟩ := H
                        replace H : (some (t245, t246, t247, 0)) = some (r1, r2, r3, r4) := H
                        have A120 := Aside0.mk A1200
                        clear A1200
                        simp only [Option.some.injEq, Prod.mk.injEq] at H
                        obtain ⟨rfl, rfl, rfl, rfl⟩ := H
                        try go_wp2
                        have n0_ := Aside0.mk (blk_drew BK209.out)
                        have n1_ := Aside0.mk (blk_drew BK211.out)
                        have n2_ := Aside0.mk (below_drew1 HB.out)
                        clear BK209
                        clear BK211
                        clear HB
                        have BK209 := n0_
                        have BK211 := n1_
                        have HB := n2_
                        clear n0_ n1_ n2_
                        have p244 : 0 ≤ (1 : Int) := (by omega)
                        have q244 : 1 < (l1.length : Int) := of_decide_eq_true (by first | (with_reducible assumption) | assumption)
                        obtain ⟨ad244, e244, hx244_0, hx244_1, hx244_2⟩ := at_T29 HR1.out 1 p244 q244
                        have hw244_2 := hx244_2
                        (try rw [show ((1 : Int)).toNat = 1 from rfl] at hw244_2)
                        (try rw [show 1 * 3 = 3 from rfl] at hw244_2)
                        (try simp only [Nat.reduceMul, Nat.reduceEqDiff, Go.Addr.add, ↓reduceIte] at hw244_2)
                        have hw244_1 := hx244_1
                        (try rw [show ((1 : Int)).toNat = 1 from rfl] at hw244_1)
                        (try rw [show 1 * 3 = 3 from rfl] at hw244_1)
                        (try simp only [Nat.reduceMul, Nat.reduceEqDiff, Go.Addr.add, ↓reduceIte] at hw244_1)
                        have hw244_0 := hx244_0
                        (try rw [show ((1 : Int)).toNat = 1 from rfl] at hw244_0)
                        (try rw [show 1 * 3 = 3 from rfl] at hw244_0)
                        (try simp only [Nat.reduceMul, Nat.reduceEqDiff, Go.Addr.add, ↓reduceIte] at hw244_0)
                        obtain rfl : ad210 = ad244 := (by injection e244)
                        (try simp only [show (1 : Int).toNat = 1 from rfl, Nat.reduceMul, Nat.reduceEqDiff, Go.Addr.add, ↓reduceIte] at hx244_0)
                        (try simp only [show (1 : Int).toNat = 1 from rfl, Nat.reduceMul, Nat.reduceEqDiff, Go.Addr.add, ↓reduceIte] at hx244_1)
                        (try simp only [show (1 : Int).toNat = 1 from rfl, Nat.reduceMul, Nat.reduceEqDiff, Go.Addr.add, ↓reduceIte] at hx244_2)
                        have qi244 : (1 < l1.length) = True := eq_true (by omega)
                        (try rw [show ((1 : Int)).toNat = 1 from rfl] at hx244_0)
                        (try rw [show 1 * 3 = 3 from rfl] at hx244_0)
                        (try rw [show ((1 : Int)).toNat = 1 from rfl] at hx244_1)
                        (try rw [show 1 * 3 = 3 from rfl] at hx244_1)
                        (try rw [show ((1 : Int)).toNat = 1 from rfl] at hx244_2)
                        (try rw [show 1 * 3 = 3 from rfl] at hx244_2)
                        replace hx244_0 := (HB.out.cell (World.block_lt_of_cell? w _ hx244_0)).trans hx244_0
                        replace hx244_1 := (HB.out.cell (World.block_lt_of_cell? w _ hx244_1)).trans hx244_1
                        replace hx244_2 := (HB.out.cell (World.block_lt_of_cell? w _ hx244_2)).trans hx244_2
                        replace p244 := eq_true p244
                        replace q244 := eq_true q244
                        refine start_ (n := 10) (S := fun w' => w'.cell? ⟨gb211, 0, none⟩ = some (.int .i64 ((rd_T29 l1 0).f0)) ∧ w'.cell? ⟨gb211, 1, none⟩ = some (.int .i64 ((rd_T29 l1 0).f1)) ∧ w'.cell? ⟨gb211, 2, none⟩ = some (.string ((rd_T29 l1 0).f2)) ∧ w'.cell? ⟨ad210.block, ad210.off + 3, none⟩ = some (.int .i64 ((rd_T29 l1 1).f0)) ∧ w'.cell? ⟨ad210.block, ad210.off + 3 + 1, none⟩ = some (.int .i64 ((rd_T29 l1 1).f1)) ∧ w'.cell? ⟨ad210.block, ad210.off + 3 + 2, none⟩ = some (.string ((rd_T29 l1 1).f2))) (ds := []) #[false, false, false, false, false, false, false, false, false, false] (by kernel_rfl) rfl rfl ⟨(blk_cell BK211.out 0).trans rfl, (blk_cell BK211.out 1).trans rfl, (blk_cell BK211.out 2).trans rfl, ((HB.out.cell (World.block_lt_of_cell? w _ hw244_0)).trans hw244_0), ((HB.out.cell (World.block_lt_of_cell? w _ hw244_1)).trans hw244_1), ((HB.out.cell (World.block_lt_of_cell? w _ hw244_2)).trans hw244_2)⟩ (fun hHeld => ?_); refine with_tabW spec_l01Builtin.tab26 spec_l01Builtin.bits26 (fun HT_ HW_ => ?_)
                        generalize wc.drew = w121 at BK209 BK211 HB hx244_0 hx244_1 hx244_2 hHeld ⊢
                        refine pure_ (i := 0) (N := some 152) (v := ?_) (a' := ?_) #[true, false, false, false, false, false, false, false, false, false] rfl rfl (any_of HT_.out (by kernel_rfl)) (fun _ _ _ h => h) (Or.inl ⟨by rfl, ?_⟩) ?_ ?_
                        rotate_left
                        · intro w'
                          go_simp
                          with_reducible rfl
                        rotate_left
                        · simp only [Act.put, List.setIfInBounds_toArray, List.set_cons_zero, List.set_cons_succ, i64_w, i32_w]
                          rfl
                        refine pure_ (i := 2) (N := some 154) (v := ?_) (a' := ?_) #[true, false, true, false, false, false, false, false, false, false] rfl rfl (any_of HT_.out (by kernel_rfl)) (fun _ _ _ h => h) (Or.inl ⟨by rfl, ?_⟩) ?_ ?_
                        rotate_left
                        · intro w'
                          go_simp
                          with_reducible rfl
                        rotate_left
                        · simp only [Act.put, List.setIfInBounds_toArray, List.set_cons_zero, List.set_cons_succ, i64_w, i32_w]
                          rfl
                        refine pure_ (i := 3) (N := some 155) (v := ?_) (a' := ?_) #[true, false, true, true, false, false, false, false, false, false] rfl rfl (any_of HT_.out (by kernel_rfl)) (fun _ _ _ h => h) (Or.inl ⟨by rfl, ?_⟩) ?_ ?_
                        rotate_left
                        · intro w'
                          go_simp
                          with_reducible rfl
                        rotate_left
                        · simp only [Act.put, List.setIfInBounds_toArray, List.set_cons_zero, List.set_cons_succ, i64_w, i32_w]
                          rfl
                        refine pure_ (i := 4) (N := some 156) (v := ?_) (a' := ?_) #[true, false, true, true, true, false, false, false, false, false] rfl rfl (any_of HT_.out (by kernel_rfl)) (fun _ _ _ h => h) (Or.inl ⟨by rfl, ?_⟩) ?_ ?_
                        rotate_left
                        · intro w'
                          go_simp
                          with_reducible rfl
                        rotate_left
                        · simp only [Act.put, List.setIfInBounds_toArray, List.set_cons_zero, List.set_cons_succ, i64_w, i32_w]
                          rfl
                        refine take_ (i := 1) (N := some 153) (v := ?_) (a' := ?_) #[true, true, true, true, true, false, false, false, false, false] rfl rfl (take_ofW HT_.out HW_.out (by kernel_rfl)) (fun _ _ _ h => h) (Or.inl ⟨by rfl, ?_⟩) hHeld ?_ ?_
                        rotate_left
                        · rintro w' ⟨s0, s1, s2, s3, s4, s5⟩
                          go_simp
                          with_reducible rfl
                        rotate_left
                        · simp only [Act.put, List.setIfInBounds_toArray, List.set_cons_zero, List.set_cons_succ, i64_w, i32_w]
                          rfl
                        refine take_ (i := 5) (N := some 157) (v := ?_) (a' := ?_) #[true, true, true, true, true, true, false, false, false, false] rfl rfl (take_ofW HT_.out HW_.out (by kernel_rfl)) (fun _ _ _ h => h) (Or.inl ⟨by rfl, ?_⟩) hHeld ?_ ?_
                        rotate_left
                        · rintro w' ⟨s0, s1, s2, s3, s4, s5⟩
                          go_simp
                          with_reducible rfl
                        rotate_left
                        · simp only [Act.put, List.setIfInBounds_toArray, List.set_cons_zero, List.set_cons_succ, i64_w, i32_w]
                          rfl
                        refine pure_ (i := 6) (N := some 158) (v := ?_) (a' := ?_) #[true, true, true, true, true, true, true, false, false, false] rfl rfl (any_of HT_.out (by kernel_rfl)) (fun _ _ _ h => h) (Or.inl ⟨by rfl, ?_⟩) ?_ ?_
                        rotate_left
                        · intro w'
                          go_simp
                          with_reducible rfl
                        rotate_left
                        · simp only [Act.put, List.setIfInBounds_toArray, List.set_cons_zero, List.set_cons_succ, i64_w, i32_w]
                          rfl
                        refine one_ (i := 7) (N := some 159) #[true, true, true, true, true, true, true, true, false, false] rfl rfl (one_of HT_.out (by kernel_rfl)) (by decide) (fun K hK => ?_)
                        refine goes_ Tryd.func85 (by kernel_rfl) rfl #[.int .i64 ji119] (by rfl) rfl rfl (by (try simp only [List.map_toArray, List.map_cons, List.map_nil]); first | done | (simp only [hji119]; rfl) | rfl | (simp only [List.length_drop, List.length_take]; rfl)) ?_
                        with_reducible refine (spec_l01Int.calls ji119 t245 t246 t247 _ A120.out).mono ?_
                        rintro e w122 ⟨rfl, hb⟩
                        refine ⟨_, rfl, ?_⟩
                        have n0_ := Aside0.mk (blk_below (g := gb209) (o := .cells #[.int .i64 0, .int .i64 0, .string (⟨#[]⟩ : ByteArray)] 29 (0, 0)) (by (with_reducible repeat (first | refine blk_drewN ?_ _ | refine blk_drew ?_ | refine blk_alloc ?_ _)); exact BK209.out) hb)
                        have n1_ := Aside0.mk (blk_below (g := gb211) (o := .cells #[.int .i64 ((rd_T29 l1 0).f0), .int .i64 ((rd_T29 l1 0).f1), .string ((rd_T29 l1 0).f2)] 29 (0, 0)) (by (with_reducible repeat (first | refine blk_drewN ?_ _ | refine blk_drew ?_ | refine blk_alloc ?_ _)); exact BK211.out) hb)
                        have n2_ := Aside0.mk (below_step (by repeat (first | (with_reducible first | exact HB.out | apply below_alloc | apply pw_below_drewN | apply below_drew1 | refine below_set ?_ GE209.out | refine below_set ?_ GE211.out) | exact HB.out)) hb)
                        clear BK209
                        clear BK211
                        clear HB
                        have BK209 := n0_
                        have BK211 := n1_
                        have HB := n2_
                        clear n0_ n1_ n2_
                        (try clear hb)
                        (try clear hb2)
                        (try clear hk)
                        (try clear hi)
                        refine hK.out _ _ ⟨(blk_cell BK211.out 0).trans rfl, (blk_cell BK211.out 1).trans rfl, (blk_cell BK211.out 2).trans rfl, ((HB.out.cell (World.block_lt_of_cell? w _ hw244_0)).trans hw244_0), ((HB.out.cell (World.block_lt_of_cell? w _ hw244_1)).trans hw244_1), ((HB.out.cell (World.block_lt_of_cell? w _ hw244_2)).trans hw244_2)⟩ (fun hHeld => ?_)
                        clear hK K
                        refine norm_ (a' := ?_) ?_ ?_
                        rotate_left
                        · show Act.put _ (some 159) _ = _
                          simp only [Act.put, List.setIfInBounds_toArray, List.set_cons_zero, List.set_cons_succ, i64_w, i32_w]
                          rfl
                        refine one_ (i := 8) (N := none) #[true, true, true, true, true, true, true, true, true, false] rfl rfl (one_of HT_.out (by kernel_rfl)) (by decide) (fun K hK => ?_)
                        have hs123 : w122.cell? ⟨gb209, 0, none⟩ = some (.int .i64 0) := (blk_cell BK209.out 0).trans rfl
                        have hfs123 := blk_frozen BK209.out 0
                        have hns123_1 := NB211_209.out
                        have hms123_1 := NB209_211.out
                        have hs124 : w122.cell? ⟨gb209, 1, none⟩ = some (.int .i64 0) := (blk_cell BK209.out 1).trans rfl
                        have hfs124 := blk_frozen BK209.out 1
                        have hns124_1 := NB211_209.out
                        have hms124_1 := NB209_211.out
                        have hs125 : w122.cell? ⟨gb209, 2, none⟩ = some (.string (⟨#[]⟩ : ByteArray)) := (blk_cell BK209.out 2).trans rfl
                        have hfs125 := blk_frozen BK209.out 2
                        have hns125_1 := NB211_209.out
                        have hms125_1 := NB209_211.out
                        refine skip_ (w1 := ?_) (by rfl) rfl ?_ ?_
                        rotate_left
                        · go_simp
                          rfl
                        refine hK.out _ _ ⟨((cell_far (p := ⟨gb209, _, none⟩) NB211_209.out _).trans (((cell_far (p := ⟨gb209, _, none⟩) NB211_209.out _).trans (((cell_far (p := ⟨gb209, _, none⟩) NB211_209.out _).trans (hHeld.1)))))), ((cell_far (p := ⟨gb209, _, none⟩) NB211_209.out _).trans (((cell_far (p := ⟨gb209, _, none⟩) NB211_209.out _).trans (((cell_far (p := ⟨gb209, _, none⟩) NB211_209.out _).trans (hHeld.2.1)))))), ((cell_far (p := ⟨gb209, _, none⟩) NB211_209.out _).trans (((cell_far (p := ⟨gb209, _, none⟩) NB211_209.out _).trans (((cell_far (p := ⟨gb209, _, none⟩) NB211_209.out _).trans (hHeld.2.2.1)))))), ((cell_far (p := ⟨gb209, _, none⟩) (by first | exact Nat.ne_of_lt (Nat.lt_of_lt_of_le (by have := World.block_lt_of_cell? _ _ hw244_0; first | rwa [add_block] at this | exact this) GW209.out) | (rw [add_block]; exact Nat.ne_of_lt (Nat.lt_of_lt_of_le (by have := World.block_lt_of_cell? _ _ hw244_0; first | rwa [add_block] at this | exact this) GW209.out)) | (show (Addr.add _ _).block ≠ _; rw [add_block]; exact Nat.ne_of_lt (Nat.lt_of_lt_of_le (by have := World.block_lt_of_cell? _ _ hw244_0; first | rwa [add_block] at this | exact this) GW209.out)) | (dsimp only; exact Nat.ne_of_lt (Nat.lt_of_lt_of_le (by have := World.block_lt_of_cell? _ _ hw244_0; first | rwa [add_block] at this | exact this) GW209.out))) _).trans (((cell_far (p := ⟨gb209, _, none⟩) (by first | exact Nat.ne_of_lt (Nat.lt_of_lt_of_le (by have := World.block_lt_of_cell? _ _ hw244_0; first | rwa [add_block] at this | exact this) GW209.out) | (rw [add_block]; exact Nat.ne_of_lt (Nat.lt_of_lt_of_le (by have := World.block_lt_of_cell? _ _ hw244_0; first | rwa [add_block] at this | exact this) GW209.out)) | (show (Addr.add _ _).block ≠ _; rw [add_block]; exact Nat.ne_of_lt (Nat.lt_of_lt_of_le (by have := World.block_lt_of_cell? _ _ hw244_0; first | rwa [add_block] at this | exact this) GW209.out)) | (dsimp only; exact Nat.ne_of_lt (Nat.lt_of_lt_of_le (by have := World.block_lt_of_cell? _ _ hw244_0; first | rwa [add_block] at this | exact this) GW209.out))) _).trans (((cell_far (p := ⟨gb209, _, none⟩) (by first | exact Nat.ne_of_lt (Nat.lt_of_lt_of_le (by have := World.block_lt_of_cell? _ _ hw244_0; first | rwa [add_block] at this | exact this) GW209.out) | (rw [add_block]; exact Nat.ne_of_lt (Nat.lt_of_lt_of_le (by have := World.block_lt_of_cell? _ _ hw244_0; first | rwa [add_block] at this | exact this) GW209.out)) | (show (Addr.add _ _).block ≠ _; rw [add_block]; exact Nat.ne_of_lt (Nat.lt_of_lt_of_le (by have := World.block_lt_of_cell? _ _ hw244_0; first | rwa [add_block] at this | exact this) GW209.out)) | (dsimp only; exact Nat.ne_of_lt (Nat.lt_of_lt_of_le (by have := World.block_lt_of_cell? _ _ hw244_0; first | rwa [add_block] at this | exact this) GW209.out))) _).trans (hHeld.2.2.2.1)))))), ((cell_far (p := ⟨gb209, _, none⟩) (by first | exact Nat.ne_of_lt (Nat.lt_of_lt_of_le (by have := World.block_lt_of_cell? _ _ hw244_1; first | rwa [add_block] at this | exact this) GW209.out) | (rw [add_block]; exact Nat.ne_of_lt (Nat.lt_of_lt_of_le (by have := World.block_lt_of_cell? _ _ hw244_1; first | rwa [add_block] at this | exact this) GW209.out)) | (show (Addr.add _ _).block ≠ _; rw [add_block]; exact Nat.ne_of_lt (Nat.lt_of_lt_of_le (by have := World.block_lt_of_cell? _ _ hw244_1; first | rwa [add_block] at this | exact this) GW209.out)) | (dsimp only; exact Nat.ne_of_lt (Nat.lt_of_lt_of_le (by have := World.block_lt_of_cell? _ _ hw244_1; first | rwa [add_block] at this | exact this) GW209.out))) _).trans (((cell_far (p := ⟨gb209, _, none⟩) (by first | exact Nat.ne_of_lt (Nat.lt_of_lt_of_le (by have := World.block_lt_of_cell? _ _ hw244_1; first | rwa [add_block] at this | exact this) GW209.out) | (rw [add_block]; exact Nat.ne_of_lt (Nat.lt_of_lt_of_le (by have := World.block_lt_of_cell? _ _ hw244_1; first | rwa [add_block] at this | exact this) GW209.out)) | (show (Addr.add _ _).block ≠ _; rw [add_block]; exact Nat.ne_of_lt (Nat.lt_of_lt_of_le (by have := World.block_lt_of_cell? _ _ hw244_1; first | rwa [add_block] at this | exact this) GW209.out)) | (dsimp only; exact Nat.ne_of_lt (Nat.lt_of_lt_of_le (by have := World.block_lt_of_cell? _ _ hw244_1; first | rwa [add_block] at this | exact this) GW209.out))) _).trans (((cell_far (p := ⟨gb209, _, none⟩) (by first | exact Nat.ne_of_lt (Nat.lt_of_lt_of_le (by have := World.block_lt_of_cell? _ _ hw244_1; first | rwa [add_block] at this | exact this) GW209.out) | (rw [add_block]; exact Nat.ne_of_lt (Nat.lt_of_lt_of_le (by have := World.block_lt_of_cell? _ _ hw244_1; first | rwa [add_block] at this | exact this) GW209.out)) | (show (Addr.add _ _).block ≠ _; rw [add_block]; exact Nat.ne_of_lt (Nat.lt_of_lt_of_le (by have := World.block_lt_of_cell? _ _ hw244_1; first | rwa [add_block] at this | exact this) GW209.out)) | (dsimp only; exact Nat.ne_of_lt (Nat.lt_of_lt_of_le (by have := World.block_lt_of_cell? _ _ hw244_1; first | rwa [add_block] at this | exact this) GW209.out))) _).trans (hHeld.2.2.2.2.1)))))), ((cell_far (p := ⟨gb209, _, none⟩) (by first | exact Nat.ne_of_lt (Nat.lt_of_lt_of_le (by have := World.block_lt_of_cell? _ _ hw244_2; first | rwa [add_block] at this | exact this) GW209.out) | (rw [add_block]; exact Nat.ne_of_lt (Nat.lt_of_lt_of_le (by have := World.block_lt_of_cell? _ _ hw244_2; first | rwa [add_block] at this | exact this) GW209.out)) | (show (Addr.add _ _).block ≠ _; rw [add_block]; exact Nat.ne_of_lt (Nat.lt_of_lt_of_le (by have := World.block_lt_of_cell? _ _ hw244_2; first | rwa [add_block] at this | exact this) GW209.out)) | (dsimp only; exact Nat.ne_of_lt (Nat.lt_of_lt_of_le (by have := World.block_lt_of_cell? _ _ hw244_2; first | rwa [add_block] at this | exact this) GW209.out))) _).trans (((cell_far (p := ⟨gb209, _, none⟩) (by first | exact Nat.ne_of_lt (Nat.lt_of_lt_of_le (by have := World.block_lt_of_cell? _ _ hw244_2; first | rwa [add_block] at this | exact this) GW209.out) | (rw [add_block]; exact Nat.ne_of_lt (Nat.lt_of_lt_of_le (by have := World.block_lt_of_cell? _ _ hw244_2; first | rwa [add_block] at this | exact this) GW209.out)) | (show (Addr.add _ _).block ≠ _; rw [add_block]; exact Nat.ne_of_lt (Nat.lt_of_lt_of_le (by have := World.block_lt_of_cell? _ _ hw244_2; first | rwa [add_block] at this | exact this) GW209.out)) | (dsimp only; exact Nat.ne_of_lt (Nat.lt_of_lt_of_le (by have := World.block_lt_of_cell? _ _ hw244_2; first | rwa [add_block] at this | exact this) GW209.out))) _).trans (((cell_far (p := ⟨gb209, _, none⟩) (by first | exact Nat.ne_of_lt (Nat.lt_of_lt_of_le (by have := World.block_lt_of_cell? _ _ hw244_2; first | rwa [add_block] at this | exact this) GW209.out) | (rw [add_block]; exact Nat.ne_of_lt (Nat.lt_of_lt_of_le (by have := World.block_lt_of_cell? _ _ hw244_2; first | rwa [add_block] at this | exact this) GW209.out)) | (show (Addr.add _ _).block ≠ _; rw [add_block]; exact Nat.ne_of_lt (Nat.lt_of_lt_of_le (by have := World.block_lt_of_cell? _ _ hw244_2; first | rwa [add_block] at this | exact this) GW209.out)) | (dsimp only; exact Nat.ne_of_lt (Nat.lt_of_lt_of_le (by have := World.block_lt_of_cell? _ _ hw244_2; first | rwa [add_block] at this | exact this) GW209.out))) _).trans (hHeld.2.2.2.2.2))))))⟩ (fun hHeld => ?_)
                        clear hK K
                        refine pure_ (i := 9) (N := some 5) (v := ?_) (a' := ?_) #[true, true, true, true, true, true, true, true, true, true] rfl rfl (any_of HT_.out (by kernel_rfl)) (fun _ _ _ h => h) (Or.inl ⟨by rfl, ?_⟩) ?_ ?_
                        rotate_left
                        · intro w'
                          go_simp
                          with_reducible rfl
                        rotate_left
                        · simp only [Act.put, List.setIfInBounds_toArray, List.set_cons_zero, List.set_cons_succ, i64_w, i32_w]
                          rfl
                        refine done_ (done_of HT_.out (by kernel_rfl)) ?_
                        try go_wp2
                        refine bodyPost_ret (results_ct rfl _ _ gb209 29 #[.int .i64 t245, .int .i64 t246, .string t247] (0, 0) _ rfl (by (with_reducible repeat (first | refine blk_drewN ?_ _ | refine blk_drew ?_ | refine blk_alloc ?_ _)); refine blk_put (cs := #[.int .i64 t245, .int .i64 t246, .string (⟨#[]⟩ : ByteArray)]) ?_ 2 _ rfl; (with_reducible repeat (first | refine blk_drewN ?_ _ | refine blk_drew ?_ | refine blk_alloc ?_ _)); refine blk_put (cs := #[.int .i64 t245, .int .i64 0, .string (⟨#[]⟩ : ByteArray)]) ?_ 1 _ rfl; (with_reducible repeat (first | refine blk_drewN ?_ _ | refine blk_drew ?_ | refine blk_alloc ?_ _)); refine blk_put (cs := #[.int .i64 0, .int .i64 0, .string (⟨#[]⟩ : ByteArray)]) ?_ 0 _ rfl; (with_reducible repeat (first | refine blk_drewN ?_ _ | refine blk_drew ?_ | refine blk_alloc ?_ _)); exact BK209.out) Tryd.underlying29 rfl (by kernel_rfl)) rfl ?_
                        exact ⟨by first | rfl | exact My.ret_isEmpty _ | (simp [errW_none, errW_some] <;> rfl) | (simp only [← hji119]; first | rfl | (simp [errW_none, errW_some] <;> rfl)) | (simp [*, errW_none, errW_some] <;> rfl), by repeat (first | (with_reducible first | exact HB.out | apply below_alloc | apply pw_below_drewN | apply below_drew1 | refine below_set ?_ GE209.out | refine below_set ?_ GE211.out) | exact HB.out)⟩
                      · rw [if_neg c118] at H
                        exact absurd H (by simp)
  · rw [if_neg c3] at H
    exact absurd H (by simp)

end Go.Proofs.YthclofmcinknlaaDoor.QFnExactBuiltin
