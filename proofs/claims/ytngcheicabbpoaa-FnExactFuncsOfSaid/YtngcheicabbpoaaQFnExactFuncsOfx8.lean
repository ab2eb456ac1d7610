/- Functions that the law uses, as Lean functions with the same answers, and the walks that show it: by this session's program, after the form of the kit's print. No condition. -/
import Derived.Test.YtngcheicabbpoaaQFnExactFuncsOfx0
import Derived.Test.YtngcheicabbpoaaQFnExactFuncsOfx7
namespace Go.Proofs.Ytngcheicabbpoaa.QFnExactFuncsOf
open Go.RowKit Go.Proofs.YtngcheicabbpoaaW.PrintWords Go.Proofs.YtngcheicabbpoaaW.PrintLast Go.Proofs.YtngcheicabbpoaaW.PrintMore
attribute [local go_sem] max2_int min2_int max_two min_two max_three min_three max_four min_four   -- for this text's walks alone
open Go.Proofs.Ytngcheicabbpoaa
attribute [local go_sem high] My.binOp_gtr_flip
set_option linter.unusedVariables false
set_option linter.unusedSimpArgs false

/-! ### spec_FuncsOf: function 25 -/
def spec_FuncsOf.l0 : Nat → List ByteArray → List Int → Int → List (S52) → Int → Option (List ByteArray × Int)
  | 0, _, _, _, _, _ => none
  | k + 1, x4, x5, x6, x223000, x223001 => if x6 < (x5.length : Int) then (if 0 ≤ x6 then (if 0 ≤ (rd x5 x6) then (if (rd x5 x6) < (x223000.length : Int) then (if ((rd_T52 x223000 (rd x5 x6)).f0) = 20 then (if x4.length < 8796093022208 then (spec_FuncsOf.l0 k (x4 ++ [(rd_T52 x223000 (rd x5 x6)).f2]) x5 (wrap64 (x6 + 1)) x223000 x223001) else (none)) else (spec_FuncsOf.l0 k x4 x5 (wrap64 (x6 + 1)) x223000 x223001)) else (none)) else (none)) else (none)) else (some (x4, 0))
def spec_FuncsOf.f (k : Nat) (l0_0 : List (S52)) (a0_1 : Int) : Option (List ByteArray × Int) := (spec_TreeOK.f k l0_0 a0_1).bind fun t223 => (if t223 = true then (if 0 ≤ a0_1 then (if a0_1 < (l0_0.length : Int) then (spec_FuncsOf.l0 k (([] : List ByteArray)) ((rd_T52 l0_0 a0_1).f4) 0 l0_0 a0_1) else (none)) else (none)) else (some ((([] : List ByteArray)), 1)))
theorem spec_FuncsOf.mono_l : ∀ k, (∀ y0 y1 y2 y3 y4, LeO (spec_FuncsOf.l0 k y0 y1 y2 y3 y4) (spec_FuncsOf.l0 (k + 1) y0 y1 y2 y3 y4))
  | 0 => fun _ _ _ _ _ r h => by simp [spec_FuncsOf.l0] at h
  | k + 1 => by
    have ih0 := spec_FuncsOf.mono_l k
    · intro y0 y1 y2 y3 y4
      unfold spec_FuncsOf.l0
      repeat' first
      | (with_reducible exact ih0 _ _ _ _ _)
      | (with_reducible exact spec_TreeOK.mono _ _ _)
      | (with_reducible exact LeO.refl _)
      | (with_reducible exact LeO.none _)
      | (with_reducible refine LeO.ite ?_ ?_)
      | (with_reducible refine LeO.bind ?_ (fun _ => ?_))
      | exact ih0 _ _ _ _ _
      | exact spec_TreeOK.mono _ _ _
      | exact LeO.none _
      | refine LeO.ite ?_ ?_
      | refine LeO.bind ?_ (fun _ => ?_)
theorem spec_FuncsOf.mono : ∀ a0 a1 k, LeO (spec_FuncsOf.f k a0 a1) (spec_FuncsOf.f (k + 1) a0 a1) := by
  intro a0 a1 k
  have ih0 := spec_FuncsOf.mono_l k
  unfold spec_FuncsOf.f
  repeat' first
      | (with_reducible exact ih0 _ _ _ _ _)
      | (with_reducible exact spec_TreeOK.mono _ _ _)
      | (with_reducible exact LeO.refl _)
      | (with_reducible exact LeO.none _)
      | (with_reducible refine LeO.ite ?_ ?_)
      | (with_reducible refine LeO.bind ?_ (fun _ => ?_))
      | exact ih0 _ _ _ _ _
      | exact spec_TreeOK.mono _ _ _
      | exact LeO.none _
      | refine LeO.ite ?_ ?_
      | refine LeO.bind ?_ (fun _ => ?_)
def spec_FuncsOf.T8 : Bool × List (List Nat × List Nat) := (true, [([], []), ([0], [0]), ([], []), ([], []), ([2, 3], [2, 3]), ([4], [4]), ([1, 5], [1, 5]), ([6], [6]), ([7], [7]), ([8], [8])])
def spec_FuncsOf.B8 : List Nat := [0, 1, 0, 0, 12, 28, 63, 127, 255, 511]
theorem spec_FuncsOf.tab8 : rtab .any (opsOf Try.f25 8) = spec_FuncsOf.T8 := by kernel_rfl
theorem spec_FuncsOf.bits8 : waitsOk spec_FuncsOf.T8.2 spec_FuncsOf.B8 = true := by kernel_rfl
def spec_FuncsOf.T9 : Bool × List (List Nat × List Nat) := (true, [([], []), ([], []), ([1], [1]), ([], []), ([], []), ([3, 4], [3, 4]), ([5], [5]), ([2, 6], [2, 6]), ([7], [7]), ([8], [8]), ([9], [9]), ([0, 10], [0, 10]), ([11, 11, 0, 1, 2, 3, 4, 5, 6, 7, 8, 9, 10, 11], [0, 11])])
def spec_FuncsOf.B9 : List Nat := [0, 0, 2, 0, 0, 24, 56, 126, 254, 510, 1022, 2047, 4095]
theorem spec_FuncsOf.tab9 : rtab .any (opsOf Try.f25 9) = spec_FuncsOf.T9 := by kernel_rfl
theorem spec_FuncsOf.bits9 : waitsOk spec_FuncsOf.T9.2 spec_FuncsOf.B9 = true := by kernel_rfl
set_option maxHeartbeats 8000000 in
set_option maxRecDepth 100000 in
theorem spec_FuncsOf.calls (k : Nat) (A0_0 : Option Addr) (c0_0 : Nat) (l0_0 : List (S52)) (a0_1 : Int) (r1 : List ByteArray) (r2 : Int) (w : World) (hr0_0 : Kd.C k52 w A0_0 l0_0.length l0_0) (hc0_0 : l0_0.length ≤ c0_0) (h : spec_FuncsOf.f k l0_0 a0_1 = some (r1, r2)) :
    Calls Try.prog 25 #[.agg #[.slice A0_0 l0_0.length c0_0, .int .i64 a0_1]] w fun e w' => ∃ v0_ : Value, e = .returned (.tuple #[v0_, .int .i64 r2]) ∧ Kd.R Kd.string 9 w' w.heap.size (fun _ => True) v0_ r1 ∧ Below w.heap.size w w' := by
  have hu29 := Try.underlying29
  have HR0_0 := Aside0.mk hr0_0
  have HC0_0 := Aside0.mk hc0_0
  clear hr0_0 hc0_0
  have HB := Aside0.mk (Below.refl w.heap.size w)
  have H : ((spec_TreeOK.f k l0_0 a0_1).bind fun t223 => (if t223 = true then (if 0 ≤ a0_1 then (if a0_1 < (l0_0.length : Int) then (spec_FuncsOf.l0 k (([] : List ByteArray)) ((rd_T52 l0_0 a0_1).f4) 0 l0_0 a0_1) else (none)) else (none)) else (some ((([] : List ByteArray)), 1)))) = some (r1, r2) := h
  clear h
  replace H := Option.bind_eq_some_iff.mp H
  obtain ⟨t223, A20, H⟩ := H
  replace H : (if t223 = true then (if 0 ≤ a0_1 then (if a0_1 < (l0_0.length : Int) then (spec_FuncsOf.l0 k (([] : List ByteArray)) ((rd_T52 l0_0 a0_1).f4) 0 l0_0 a0_1) else (none)) else (none)) else (some ((([] : List ByteArray)), 1))) = some (r1, r2) := H
  have A2 := Aside0.mk A20
  clear A20
  by_cases c3 : t223 = true
  · subst c3
    have H1 : (if 0 ≤ a0_1 then (if a0_1 < (l0_0.length : Int) then (spec_FuncsOf.l0 k (([] : List ByteArray)) ((rd_T52 l0_0 a0_1).f4) 0 l0_0 a0_1) else (none)) else (none)) = some (r1, r2) := by rw [if_pos rfl] at H; exact H
    clear H
    have H := H1
    clear H1
    obtain ⟨y227, hy227⟩ : ∃ y_ : List ByteArray, y_ = (([] : List ByteArray)) := ⟨_, rfl⟩
    replace H : (if 0 ≤ a0_1 then (if a0_1 < (l0_0.length : Int) then (spec_FuncsOf.l0 k y227 ((rd_T52 l0_0 a0_1).f4) 0 l0_0 a0_1) else (none)) else (none)) = some (r1, r2) := by first | (rw [hy227]; with_reducible exact H) | (have H2_ := (Option.bind_some _ _).symm.trans H; rw [hy227]; with_reducible exact H2_) | (have H2_ := (Option.bind_some _ _).symm.trans H; with_reducible exact H2_) | with_reducible exact H | (rw [hy227]; exact H) | exact H
    have Ny227 := Aside0.mk hy227
    clear hy227
    by_cases c4 : 0 ≤ a0_1
    · rw [if_pos c4] at H
      have c4b0 : decide (0 ≤ a0_1) = true := decide_eq_true c4
      clear c4
      by_cases c5 : a0_1 < (l0_0.length : Int)
      · rw [if_pos c5] at H
        have c5b0 : decide (a0_1 < (l0_0.length : Int)) = true := decide_eq_true c5
        clear c5
        have H' := Aside0.mk H
        clear H
        go_enter Try.func25, Try.ntmps25
        go_wp2_with (first | ((with_reducible refine gate_dst (N := 1) rfl ?_); refine box_event ?hg (N := 1) ?hd (cs := #[.slice A0_0 l0_0.length c0_0, .int .i64 a0_1]) (t := 29) ?hr ?_; (case hd => rfl); (case hg => rfl); (case hr => first | (go_simp; done) | (go_simp; rfl)); intro gb222 hg w6 hbox hb; have n0_ := Aside0.mk (below_step (by repeat (first | (with_reducible first | exact HB.out | apply below_alloc | apply pw_below_drewN | apply below_drew1) | exact HB.out)) hb); have n1_ := Aside0.mk (hbox); have n2_ := Aside0.mk ((by rw [hg]; exact (below_size (by repeat (first | (with_reducible first | exact HB.out | apply below_alloc | apply pw_below_drewN | apply below_drew1) | exact HB.out))) : w.heap.size ≤ gb222)); have n3_ := Aside0.mk ((by rw [hg]; exact (below_size (by repeat (first | (with_reducible first | exact HB.out | apply below_alloc | apply pw_below_drewN | apply below_drew1) | exact HB.out))) : w.heap.size ≤ gb222)); clear HB; have HB := n0_; have BK222 := n1_; have GW222 := n2_; have GE222 := n3_; clear n0_ n1_ n2_ n3_; clear hb hbox hg; have hcz7_0 : w6.cell? ⟨gb222, 0, none⟩ = some (.slice A0_0 l0_0.length c0_0) := (blk_cell BK222.out 0).trans rfl; have hcz7_1 : w6.cell? ⟨gb222, 1, none⟩ = some (.int .i64 a0_1) := (blk_cell BK222.out 1).trans rfl; have hfz7_0 := blk_frozen BK222.out 0; have hfz7_1 := blk_frozen BK222.out 1) | ((with_reducible refine gate_callee (f := 11) rfl ?_); refine goesL_ (some 8) rfl rfl Try.func11 (by kernel_rfl) rfl #[.agg #[.slice A0_0 l0_0.length c0_0, .int .i64 a0_1]] rfl (by (try simp only [List.map_toArray, List.map_cons, List.map_nil]); first | done | rfl | (simp only [List.length_drop, List.length_take]; rfl)) ?_; (with_reducible refine (spec_TreeOK.calls k _ _ l0_0 a0_1 true _ ?side1 ?side2 A2.out).mono ?_); (case side1 => repeat (first | exact (Kd.C_below HR0_0.out HB.out) | (with_reducible refine Kd.C_alloc ?_ _) | (with_reducible refine Kd.C_drewN ?_ _) | (with_reducible refine Kd.C_drew ?_))); (case side2 => exact HC0_0.out); rintro e w8 ⟨rfl, hb⟩; refine ⟨_, rfl, ?_⟩; have n0_ := Aside0.mk (blk_below (g := gb222) (o := .cells #[.slice A0_0 l0_0.length c0_0, .int .i64 a0_1] 29 (0, 0)) (by (with_reducible repeat (first | refine blk_drewN ?_ _ | refine blk_drew ?_ | refine blk_alloc ?_ _)); exact BK222.out) hb); have n1_ := Aside0.mk (below_step (by repeat (first | (with_reducible first | exact HB.out | apply below_alloc | apply pw_below_drewN | apply below_drew1 | refine below_set ?_ GE222.out) | exact HB.out)) hb); clear BK222; clear HB; have BK222 := n0_; have HB := n1_; clear n0_ n1_; (try clear hb); (try clear hb2); (try clear hk); (try clear hi)) | ((with_reducible refine gate_dst (N := 11) rfl ?_); refine Kd.R_lit Kd.string _ 9 ?hg (N := 11) ?hd (xs := ([] : List ByteArray)) (inner := []) (ok := fun _ => True) (okp := fun _ => True) ?hr ?hp (fun _ hk => hk) trivial (Below.refl _ _) (Nat.le_refl _) (by simp) ?_; (case hd => rfl); (case hg => rfl); (case hr => first | (go_simp; done) | (go_simp; rfl)); (case hp => exact (Reps.none _ _)); intro v228 w9 ho10 hb hg_ hnew_; clear hg_ hnew_; (first | rw [← Ny227.out] at ho10 | (simp only [Int.reduceToNat] at ho10; rw [← Ny227.out] at ho10)); have n0_ := Aside0.mk (Kd.R_lower ho10 (below_size (by repeat (first | (with_reducible first | exact HB.out | apply below_alloc | apply pw_below_drewN | apply below_drew1 | refine below_set ?_ GE222.out) | exact HB.out)))); have n1_ := Aside0.mk (blk_below (g := gb222) (o := .cells #[.slice A0_0 l0_0.length c0_0, .int .i64 a0_1] 29 (0, 0)) (by (with_reducible repeat (first | refine blk_drewN ?_ _ | refine blk_drew ?_ | refine blk_alloc ?_ _)); exact BK222.out) hb); have n2_ := Aside0.mk (below_step (by repeat (first | (with_reducible first | exact HB.out | apply below_alloc | apply pw_below_drewN | apply below_drew1 | refine below_set ?_ GE222.out) | exact HB.out)) hb); clear BK222; clear HB; have HO229 := n0_; have BK222 := n1_; have HB := n2_; clear n0_ n1_ n2_; clear hb ho10; have hcz11_0 : w9.cell? ⟨gb222, 0, none⟩ = some (.slice A0_0 l0_0.length c0_0) := (blk_cell BK222.out 0).trans rfl; have hcz11_1 : w9.cell? ⟨gb222, 1, none⟩ = some (.int .i64 a0_1) := (blk_cell BK222.out 1).trans rfl; have hfz11_0 := blk_frozen BK222.out 0; have hfz11_1 := blk_frozen BK222.out 1; have p230 : 0 ≤ (a0_1 : Int) := of_decide_eq_true (by first | (with_reducible assumption) | assumption); have q230 : a0_1 < (l0_0.length : Int) := of_decide_eq_true (by first | (with_reducible assumption) | assumption); obtain ⟨ad230, A230_3, c230_3, A230_4, c230_4, e230, hx230_0, hx230_1, hx230_2, hx230_3, hx230_4, hl230_3, hi230_3, hl230_4, hi230_4⟩ := at_T52 HR0_0.out a0_1 p230 q230; cases e230; replace hx230_0 := (HB.out.cell (World.block_lt_of_cell? w _ hx230_0)).trans hx230_0; replace hx230_1 := (HB.out.cell (World.block_lt_of_cell? w _ hx230_1)).trans hx230_1; replace hx230_2 := (HB.out.cell (World.block_lt_of_cell? w _ hx230_2)).trans hx230_2; replace hx230_3 := (HB.out.cell (World.block_lt_of_cell? w _ hx230_3)).trans hx230_3; replace hx230_4 := (HB.out.cell (World.block_lt_of_cell? w _ hx230_4)).trans hx230_4; have HR230_3 := Aside0.mk hi230_3; have HC230_3 := Aside0.mk hl230_3; clear hi230_3 hl230_3; have HR230_4 := Aside0.mk hi230_4; have HC230_4 := Aside0.mk hl230_4; clear hi230_4 hl230_4; replace p230 := eq_true p230; replace q230 := eq_true q230))
        go_loopg [4, 6] k (fun kq v4 v6 w' => ∃ (x4_1 : List ByteArray) (x6_1 : Int), v6 = .int .i64 x6_1 ∧ Aside0 (spec_FuncsOf.l0 kq x4_1 ((rd_T52 l0_0 a0_1).f4) x6_1 l0_0 a0_1 = some (r1, r2)) ∧ Aside0 (kq ≤ k) ∧ Aside0 (Kd.R Kd.string 9 w' w.heap.size (fun _ => True) v4 x4_1) ∧ Aside0 (w'.heap[gb222]? = some (.cells #[(.slice (some ad230) l0_0.length c0_0), .int .i64 a0_1] 29 (0, 0))) ∧ Aside0 (Below w.heap.size w w'))
        case atStart => exact ⟨(y227), (0), (by first | rfl | (simp; done) | (simp [*]; done)), H', ⟨Nat.le_refl _⟩, ⟨by (with_reducible repeat (first | apply Kd.R_alloc | apply Kd.R_drewN | apply Kd.R_drew)); exact HO229.out⟩, ⟨by (with_reducible repeat (first | refine blk_drewN ?_ _ | refine blk_drew ?_ | refine blk_alloc ?_ _)); exact BK222.out⟩, ⟨by repeat (first | (with_reducible first | exact HB.out | apply below_alloc | apply pw_below_drewN | apply below_drew1 | refine below_set ?_ GE222.out) | exact HB.out)⟩⟩
        case round =>
          clear H'
          try clear c1
          try clear c2
          try clear p2
          try clear q2
          try clear hx2
          try clear c3
          try clear c4
          try clear c4b0
          try clear c5
          try clear c5b0
          try clear c11
          try clear hcz11_0
          try clear hcz11_1
          try clear hcz7_0
          try clear hcz7_1
          try clear hfz11_0
          try clear hfz11_1
          try clear hfz7_0
          try clear hfz7_1
          try clear hx230_0
          try clear hx230_1
          try clear hx230_2
          try clear hx230_3
          try clear hx230_4
          try clear p230
          try clear q230
          obtain ⟨x4_1, x6_1, rfl, HA, HK1, HO_4, BK222, HB⟩ := hrel
          cases gk with
          | zero => exact absurd HA.out (by simp [spec_FuncsOf.l0])
          | succ k1 =>
            have H := HA.out
            clear HA
            simp only [spec_FuncsOf.l0] at H
            by_cases c12 : x6_1 < (((rd_T52 l0_0 a0_1).f4).length : Int)
            · rw [if_pos c12] at H
              have c12b0 : decide (x6_1 < (((rd_T52 l0_0 a0_1).f4).length : Int)) = true := decide_eq_true c12
              clear c12
              by_cases c13 : 0 ≤ x6_1
              · rw [if_pos c13] at H
                have c13b0 : decide (0 ≤ x6_1) = true := decide_eq_true c13
                clear c13
                by_cases c14 : 0 ≤ (rd ((rd_T52 l0_0 a0_1).f4) x6_1)
                · rw [if_pos c14] at H
                  have c14b0 : decide (0 ≤ (rd ((rd_T52 l0_0 a0_1).f4) x6_1)) = true := decide_eq_true c14
                  clear c14
                  by_cases c15 : (rd ((rd_T52 l0_0 a0_1).f4) x6_1) < (l0_0.length : Int)
                  · rw [if_pos c15] at H
                    have c15b0 : decide ((rd ((rd_T52 l0_0 a0_1).f4) x6_1) < (l0_0.length : Int)) = true := decide_eq_true c15
                    clear c15
                    by_cases c16 : ((rd_T52 l0_0 (rd ((rd_T52 l0_0 a0_1).f4) x6_1)).f0) = 20
                    · rw [if_pos c16] at H
                      have c16b0 : (((rd_T52 l0_0 (rd ((rd_T52 l0_0 a0_1).f4) x6_1)).f0) == 20) = true := beq_iff_eq.mpr c16
                      have c16b1 : (((rd_T52 l0_0 (rd ((rd_T52 l0_0 a0_1).f4) x6_1)).f0) != 20) = false := bne_eq_false_iff_eq.mpr c16
                      clear c16
                      by_cases c17 : x4_1.length < 8796093022208
                      · rw [if_pos c17] at H
                        have LMc17 := Aside0.mk c17
                        clear c17
                        obtain ⟨y235, hy235⟩ : ∃ y_ : List ByteArray, y_ = (x4_1 ++ [(rd_T52 l0_0 (rd ((rd_T52 l0_0 a0_1).f4) x6_1)).f2]) := ⟨_, rfl⟩
                        replace H : (spec_FuncsOf.l0 k1 y235 ((rd_T52 l0_0 a0_1).f4) (wrap64 (x6_1 + 1)) l0_0 a0_1) = some (r1, r2) := by first | (rw [hy235]; with_reducible exact H) | (have H2_ := (Option.bind_some _ _).symm.trans H; rw [hy235]; with_reducible exact H2_) | (have H2_ := (Option.bind_some _ _).symm.trans H; with_reducible exact H2_) | with_reducible exact H | (rw [hy235]; exact H) | exact H
                        have Ny235 := Aside0.mk hy235
                        clear hy235
                        have H' := Aside0.mk H
                        clear H
                        try go_wp2
                        have n0_ := Aside0.mk (Kd.R_drew HO_4.out)
                        have n1_ := Aside0.mk (blk_drew BK222.out)
                        have n2_ := Aside0.mk (below_drew1 HB.out)
                        clear HO_4
                        clear BK222
                        clear HB
                        have HO_4 := n0_
                        have BK222 := n1_
                        have HB := n2_
                        clear n0_ n1_ n2_
                        have p231 : 0 ≤ (x6_1 : Int) := of_decide_eq_true (by first | (with_reducible assumption) | assumption)
                        have q231 : x6_1 < (((rd_T52 l0_0 a0_1).f4).length : Int) := of_decide_eq_true (by first | (with_reducible assumption) | assumption)
                        obtain ⟨ad231, e231, hx231_0⟩ := Kd.at_int HR230_4.out x6_1 p231 q231
                        have hw231_0 := hx231_0
                        cases e231
                        replace hx231_0 := (HB.out.cell (World.block_lt_of_cell? w _ hx231_0)).trans hx231_0
                        replace p231 := eq_true p231
                        replace q231 := eq_true q231
                        have p232 : 0 ≤ ((rd ((rd_T52 l0_0 a0_1).f4) x6_1) : Int) := of_decide_eq_true (by first | (with_reducible assumption) | assumption)
                        have q232 : (rd ((rd_T52 l0_0 a0_1).f4) x6_1) < (l0_0.length : Int) := of_decide_eq_true (by first | (with_reducible assumption) | assumption)
                        obtain ⟨ad232, A232_3, c232_3, A232_4, c232_4, e232, hx232_0, hx232_1, hx232_2, hx232_3, hx232_4, hl232_3, hi232_3, hl232_4, hi232_4⟩ := at_T52 HR0_0.out (rd ((rd_T52 l0_0 a0_1).f4) x6_1) p232 q232
                        have hw232_4 := hx232_4
                        have hw232_3 := hx232_3
                        have hw232_2 := hx232_2
                        have hw232_1 := hx232_1
                        have hw232_0 := hx232_0
                        obtain rfl : ad230 = ad232 := (by injection e232)
                        replace hx232_0 := (HB.out.cell (World.block_lt_of_cell? w _ hx232_0)).trans hx232_0
                        replace hx232_1 := (HB.out.cell (World.block_lt_of_cell? w _ hx232_1)).trans hx232_1
                        replace hx232_2 := (HB.out.cell (World.block_lt_of_cell? w _ hx232_2)).trans hx232_2
                        replace hx232_3 := (HB.out.cell (World.block_lt_of_cell? w _ hx232_3)).trans hx232_3
                        replace hx232_4 := (HB.out.cell (World.block_lt_of_cell? w _ hx232_4)).trans hx232_4
                        have HR232_3 := Aside0.mk hi232_3
                        have HC232_3 := Aside0.mk hl232_3
                        clear hi232_3 hl232_3
                        have HR232_4 := Aside0.mk hi232_4
                        have HC232_4 := Aside0.mk hl232_4
                        clear hi232_4 hl232_4
                        replace p232 := eq_true p232
                        replace q232 := eq_true q232
                        refine start_ (n := 10) (S := fun w' => w'.cell? ⟨gb222, 0, none⟩ = some (.slice (some ad230) l0_0.length c0_0) ∧ w'.cell? ⟨gb222, 1, none⟩ = some (.int .i64 a0_1) ∧ w'.cell? (ad231.add (x6_1).toNat) = some (.int .i64 (rd ((rd_T52 l0_0 a0_1).f4) x6_1)) ∧ w'.cell? (ad230.add (((rd ((rd_T52 l0_0 a0_1).f4) x6_1)).toNat * 5)) = some (.int .i64 ((rd_T52 l0_0 (rd ((rd_T52 l0_0 a0_1).f4) x6_1)).f0)) ∧ w'.cell? ⟨(ad230.add (((rd ((rd_T52 l0_0 a0_1).f4) x6_1)).toNat * 5)).block, (ad230.add (((rd ((rd_T52 l0_0 a0_1).f4) x6_1)).toNat * 5)).off + 1, none⟩ = some (.int .i64 ((rd_T52 l0_0 (rd ((rd_T52 l0_0 a0_1).f4) x6_1)).f1)) ∧ w'.cell? ⟨(ad230.add (((rd ((rd_T52 l0_0 a0_1).f4) x6_1)).toNat * 5)).block, (ad230.add (((rd ((rd_T52 l0_0 a0_1).f4) x6_1)).toNat * 5)).off + 2, none⟩ = some (.string ((rd_T52 l0_0 (rd ((rd_T52 l0_0 a0_1).f4) x6_1)).f2)) ∧ w'.cell? ⟨(ad230.add (((rd ((rd_T52 l0_0 a0_1).f4) x6_1)).toNat * 5)).block, (ad230.add (((rd ((rd_T52 l0_0 a0_1).f4) x6_1)).toNat * 5)).off + 3, none⟩ = some (.slice A232_3 ((rd_T52 l0_0 (rd ((rd_T52 l0_0 a0_1).f4) x6_1)).f3).length c232_3) ∧ w'.cell? ⟨(ad230.add (((rd ((rd_T52 l0_0 a0_1).f4) x6_1)).toNat * 5)).block, (ad230.add (((rd ((rd_T52 l0_0 a0_1).f4) x6_1)).toNat * 5)).off + 4, none⟩ = some (.slice A232_4 ((rd_T52 l0_0 (rd ((rd_T52 l0_0 a0_1).f4) x6_1)).f4).length c232_4)) (ds := []) #[false, false, false, false, false, false, false, false, false, false] (by kernel_rfl) rfl rfl ⟨(blk_cell BK222.out 0).trans rfl, (blk_cell BK222.out 1).trans rfl, ((HB.out.cell (World.block_lt_of_cell? w _ hw231_0)).trans hw231_0), ((HB.out.cell (World.block_lt_of_cell? w _ hw232_0)).trans hw232_0), ((HB.out.cell (World.block_lt_of_cell? w _ hw232_1)).trans hw232_1), ((HB.out.cell (World.block_lt_of_cell? w _ hw232_2)).trans hw232_2), ((HB.out.cell (World.block_lt_of_cell? w _ hw232_3)).trans hw232_3), ((HB.out.cell (World.block_lt_of_cell? w _ hw232_4)).trans hw232_4)⟩ (fun hHeld => ?_); refine with_tabW spec_FuncsOf.tab8 spec_FuncsOf.bits8 (fun HT_ HW_ => ?_)
                        generalize wr.drew = w18 at HO_4 BK222 HB HR232_3 HR232_4 hx231_0 hx232_0 hx232_1 hx232_2 hx232_3 hx232_4 hHeld ⊢
                        refine pure_ (i := 0) (N := some 25) (v := ?_) (a' := ?_) #[true, false, false, false, false, false, false, false, false, false] rfl rfl (any_of HT_.out (by kernel_rfl)) (fun _ _ _ h => h) (Or.inl ⟨by rfl, ?_⟩) ?_ ?_
                        rotate_left
                        · intro w'
                          go_simp
                          with_reducible rfl
                        rotate_left
                        · simp only [Act.put, List.setIfInBounds_toArray, List.set_cons_zero, List.set_cons_succ, i64_w, i32_w]
                          rfl
                        refine pure_ (i := 2) (N := some 27) (v := ?_) (a' := ?_) #[true, false, true, false, false, false, false, false, false, false] rfl rfl (any_of HT_.out (by kernel_rfl)) (fun _ _ _ h => h) (Or.inl ⟨by rfl, ?_⟩) ?_ ?_
                        rotate_left
                        · intro w'
                          go_simp
                          with_reducible rfl
                        rotate_left
                        · simp only [Act.put, List.setIfInBounds_toArray, List.set_cons_zero, List.set_cons_succ, i64_w, i32_w]
                          rfl
                        refine pure_ (i := 3) (N := some 28) (v := ?_) (a' := ?_) #[true, false, true, true, false, false, false, false, false, false] rfl rfl (any_of HT_.out (by kernel_rfl)) (fun _ _ _ h => h) (Or.inl ⟨by rfl, ?_⟩) ?_ ?_
                        rotate_left
                        · intro w'
                          go_simp
                          with_reducible rfl
                        rotate_left
                        · simp only [Act.put, List.setIfInBounds_toArray, List.set_cons_zero, List.set_cons_succ, i64_w, i32_w]
                          rfl
                        refine pure_ (i := 4) (N := some 29) (v := ?_) (a' := ?_) #[true, false, true, true, true, false, false, false, false, false] rfl rfl (any_of HT_.out (by kernel_rfl)) (fun _ _ _ h => h) (Or.inl ⟨by rfl, ?_⟩) ?_ ?_
                        rotate_left
                        · intro w'
                          go_simp
                          with_reducible rfl
                        rotate_left
                        · simp only [Act.put, List.setIfInBounds_toArray, List.set_cons_zero, List.set_cons_succ, i64_w, i32_w]
                          rfl
                        refine take_ (i := 1) (N := some 26) (v := ?_) (a' := ?_) #[true, true, true, true, true, false, false, false, false, false] rfl rfl (take_ofW HT_.out HW_.out (by kernel_rfl)) (fun _ _ _ h => h) (Or.inl ⟨by rfl, ?_⟩) hHeld ?_ ?_
                        rotate_left
                        · rintro w' ⟨s0, s1, s2, s3, s4, s5, s6, s7⟩
                          go_simp
                          with_reducible rfl
                        rotate_left
                        · simp only [Act.put, List.setIfInBounds_toArray, List.set_cons_zero, List.set_cons_succ, i64_w, i32_w]
                          rfl
                        refine take_ (i := 5) (N := some 30) (v := ?_) (a' := ?_) #[true, true, true, true, true, true, false, false, false, false] rfl rfl (take_ofW HT_.out HW_.out (by kernel_rfl)) (fun _ _ _ h => h) (Or.inl ⟨by rfl, ?_⟩) hHeld ?_ ?_
                        rotate_left
                        · rintro w' ⟨s0, s1, s2, s3, s4, s5, s6, s7⟩
                          go_simp
                          with_reducible rfl
                        rotate_left
                        · simp only [Act.put, List.setIfInBounds_toArray, List.set_cons_zero, List.set_cons_succ, i64_w, i32_w]
                          rfl
                        refine pure_ (i := 6) (N := some 31) (v := ?_) (a' := ?_) #[true, true, true, true, true, true, true, false, false, false] rfl rfl (any_of HT_.out (by kernel_rfl)) (fun _ _ _ h => h) (Or.inl ⟨by rfl, ?_⟩) ?_ ?_
                        rotate_left
                        · intro w'
                          go_simp
                          with_reducible rfl
                        rotate_left
                        · simp only [Act.put, List.setIfInBounds_toArray, List.set_cons_zero, List.set_cons_succ, i64_w, i32_w]
                          rfl
                        refine pure_ (i := 7) (N := some 32) (v := ?_) (a' := ?_) #[true, true, true, true, true, true, true, true, false, false] rfl rfl (any_of HT_.out (by kernel_rfl)) (fun _ _ _ h => h) (Or.inl ⟨by rfl, ?_⟩) ?_ ?_
                        rotate_left
                        · intro w'
                          go_simp
                          with_reducible rfl
                        rotate_left
                        · simp only [Act.put, List.setIfInBounds_toArray, List.set_cons_zero, List.set_cons_succ, i64_w, i32_w]
                          rfl
                        refine take_ (i := 8) (N := some 33) (v := ?_) (a' := ?_) #[true, true, true, true, true, true, true, true, true, false] rfl rfl (take_ofW HT_.out HW_.out (by kernel_rfl)) (fun _ _ _ h => h) (Or.inl ⟨by rfl, ?_⟩) hHeld ?_ ?_
                        rotate_left
                        · rintro w' ⟨s0, s1, s2, s3, s4, s5, s6, s7⟩
                          go_simp
                          with_reducible rfl
                        rotate_left
                        · simp only [Act.put, List.setIfInBounds_toArray, List.set_cons_zero, List.set_cons_succ, i64_w, i32_w]
                          rfl
                        refine pure_ (i := 9) (N := some 34) (v := ?_) (a' := ?_) #[true, true, true, true, true, true, true, true, true, true] rfl rfl (any_of HT_.out (by kernel_rfl)) (fun _ _ _ h => h) (Or.inl ⟨by rfl, ?_⟩) ?_ ?_
                        rotate_left
                        · intro w'
                          go_simp
                          with_reducible rfl
                        rotate_left
                        · simp only [Act.put, List.setIfInBounds_toArray, List.set_cons_zero, List.set_cons_succ, i64_w, i32_w]
                          rfl
                        refine done_ (done_of HT_.out (by kernel_rfl)) ?_
                        try go_wp2
                        have n0_ := Aside0.mk (Kd.R_drew HO_4.out)
                        have n1_ := Aside0.mk (blk_drew BK222.out)
                        have n2_ := Aside0.mk (below_drew1 HB.out)
                        clear HO_4
                        clear BK222
                        clear HB
                        have HO_4 := n0_
                        have BK222 := n1_
                        have HB := n2_
                        clear n0_ n1_ n2_
                        have p233 : 0 ≤ (x6_1 : Int) := of_decide_eq_true (by first | (with_reducible assumption) | assumption)
                        have q233 : x6_1 < (((rd_T52 l0_0 a0_1).f4).length : Int) := of_decide_eq_true (by first | (with_reducible assumption) | assumption)
                        obtain ⟨ad233, e233, hx233_0⟩ := Kd.at_int HR230_4.out x6_1 p233 q233
                        have hw233_0 := hx233_0
                        obtain rfl : ad231 = ad233 := (by injection e233)
                        replace hx233_0 := (HB.out.cell (World.block_lt_of_cell? w _ hx233_0)).trans hx233_0
                        replace p233 := eq_true p233
                        replace q233 := eq_true q233
                        have p234 : 0 ≤ ((rd ((rd_T52 l0_0 a0_1).f4) x6_1) : Int) := of_decide_eq_true (by first | (with_reducible assumption) | assumption)
                        have q234 : (rd ((rd_T52 l0_0 a0_1).f4) x6_1) < (l0_0.length : Int) := of_decide_eq_true (by first | (with_reducible assumption) | assumption)
                        obtain ⟨ad234, A234_3, c234_3, A234_4, c234_4, e234, hx234_0, hx234_1, hx234_2, hx234_3, hx234_4, hl234_3, hi234_3, hl234_4, hi234_4⟩ := at_T52 HR0_0.out (rd ((rd_T52 l0_0 a0_1).f4) x6_1) p234 q234
                        have hw234_4 := hx234_4
                        have hw234_3 := hx234_3
                        have hw234_2 := hx234_2
                        have hw234_1 := hx234_1
                        have hw234_0 := hx234_0
                        obtain rfl : ad230 = ad234 := (by injection e234)
                        replace hx234_0 := (HB.out.cell (World.block_lt_of_cell? w _ hx234_0)).trans hx234_0
                        replace hx234_1 := (HB.out.cell (World.block_lt_of_cell? w _ hx234_1)).trans hx234_1
                        replace hx234_2 := (HB.out.cell (World.block_lt_of_cell? w _ hx234_2)).trans hx234_2
                        replace hx234_3 := (HB.out.cell (World.block_lt_of_cell? w _ hx234_3)).trans hx234_3
                        replace hx234_4 := (HB.out.cell (World.block_lt_of_cell? w _ hx234_4)).trans hx234_4
                        have HR234_3 := Aside0.mk hi234_3
                        have HC234_3 := Aside0.mk hl234_3
                        clear hi234_3 hl234_3
                        have HR234_4 := Aside0.mk hi234_4
                        have HC234_4 := Aside0.mk hl234_4
                        clear hi234_4 hl234_4
                        replace p234 := eq_true p234
                        replace q234 := eq_true q234
                        refine start_ (n := 13) (S := fun w' => w'.cell? ⟨gb222, 0, none⟩ = some (.slice (some ad230) l0_0.length c0_0) ∧ w'.cell? ⟨gb222, 1, none⟩ = some (.int .i64 a0_1) ∧ w'.cell? (ad231.add (x6_1).toNat) = some (.int .i64 (rd ((rd_T52 l0_0 a0_1).f4) x6_1)) ∧ w'.cell? (ad230.add (((rd ((rd_T52 l0_0 a0_1).f4) x6_1)).toNat * 5)) = some (.int .i64 ((rd_T52 l0_0 (rd ((rd_T52 l0_0 a0_1).f4) x6_1)).f0)) ∧ w'.cell? ⟨(ad230.add (((rd ((rd_T52 l0_0 a0_1).f4) x6_1)).toNat * 5)).block, (ad230.add (((rd ((rd_T52 l0_0 a0_1).f4) x6_1)).toNat * 5)).off + 1, none⟩ = some (.int .i64 ((rd_T52 l0_0 (rd ((rd_T52 l0_0 a0_1).f4) x6_1)).f1)) ∧ w'.cell? ⟨(ad230.add (((rd ((rd_T52 l0_0 a0_1).f4) x6_1)).toNat * 5)).block, (ad230.add (((rd ((rd_T52 l0_0 a0_1).f4) x6_1)).toNat * 5)).off + 2, none⟩ = some (.string ((rd_T52 l0_0 (rd ((rd_T52 l0_0 a0_1).f4) x6_1)).f2)) ∧ w'.cell? ⟨(ad230.add (((rd ((rd_T52 l0_0 a0_1).f4) x6_1)).toNat * 5)).block, (ad230.add (((rd ((rd_T52 l0_0 a0_1).f4) x6_1)).toNat * 5)).off + 3, none⟩ = some (.slice A234_3 ((rd_T52 l0_0 (rd ((rd_T52 l0_0 a0_1).f4) x6_1)).f3).length c234_3) ∧ w'.cell? ⟨(ad230.add (((rd ((rd_T52 l0_0 a0_1).f4) x6_1)).toNat * 5)).block, (ad230.add (((rd ((rd_T52 l0_0 a0_1).f4) x6_1)).toNat * 5)).off + 4, none⟩ = some (.slice A234_4 ((rd_T52 l0_0 (rd ((rd_T52 l0_0 a0_1).f4) x6_1)).f4).length c234_4)) (ds := []) #[false, false, false, false, false, false, false, false, false, false, false, false, false] (by kernel_rfl) rfl rfl ⟨(blk_cell BK222.out 0).trans rfl, (blk_cell BK222.out 1).trans rfl, ((HB.out.cell (World.block_lt_of_cell? w _ hw233_0)).trans hw233_0), ((HB.out.cell (World.block_lt_of_cell? w _ hw234_0)).trans hw234_0), ((HB.out.cell (World.block_lt_of_cell? w _ hw234_1)).trans hw234_1), ((HB.out.cell (World.block_lt_of_cell? w _ hw234_2)).trans hw234_2), ((HB.out.cell (World.block_lt_of_cell? w _ hw234_3)).trans hw234_3), ((HB.out.cell (World.block_lt_of_cell? w _ hw234_4)).trans hw234_4)⟩ (fun hHeld => ?_); refine with_tabW spec_FuncsOf.tab9 spec_FuncsOf.bits9 (fun HT_ HW_ => ?_)
                        generalize w18.drew = w19 at HO_4 BK222 HB HR234_3 HR234_4 hx233_0 hx234_0 hx234_1 hx234_2 hx234_3 hx234_4 hHeld ⊢
                        refine pure_ (i := 0) (N := some 35) (v := ?_) (a' := ?_) #[true, false, false, false, false, false, false, false, false, false, false, false, false] rfl rfl (any_of HT_.out (by kernel_rfl)) (fun _ _ _ h => h) (Or.inl ⟨by rfl, ?_⟩) ?_ ?_
                        rotate_left
                        · intro w'
                          go_simp
                          with_reducible rfl
                        rotate_left
                        · simp only [Act.put, List.setIfInBounds_toArray, List.set_cons_zero, List.set_cons_succ, i64_w, i32_w]
                          rfl
                        refine pure_ (i := 1) (N := some 36) (v := ?_) (a' := ?_) #[true, true, false, false, false, false, false, false, false, false, false, false, false] rfl rfl (any_of HT_.out (by kernel_rfl)) (fun _ _ _ h => h) (Or.inl ⟨by rfl, ?_⟩) ?_ ?_
                        rotate_left
                        · intro w'
                          go_simp
                          with_reducible rfl
                        rotate_left
                        · simp only [Act.put, List.setIfInBounds_toArray, List.set_cons_zero, List.set_cons_succ, i64_w, i32_w]
                          rfl
                        refine pure_ (i := 3) (N := some 38) (v := ?_) (a' := ?_) #[true, true, false, true, false, false, false, false, false, false, false, false, false] rfl rfl (any_of HT_.out (by kernel_rfl)) (fun _ _ _ h => h) (Or.inl ⟨by rfl, ?_⟩) ?_ ?_
                        rotate_left
                        · intro w'
                          go_simp
                          with_reducible rfl
                        rotate_left
                        · simp only [Act.put, List.setIfInBounds_toArray, List.set_cons_zero, List.set_cons_succ, i64_w, i32_w]
                          rfl
                        refine pure_ (i := 4) (N := some 39) (v := ?_) (a' := ?_) #[true, true, false, true, true, false, false, false, false, false, false, false, false] rfl rfl (any_of HT_.out (by kernel_rfl)) (fun _ _ _ h => h) (Or.inl ⟨by rfl, ?_⟩) ?_ ?_
                        rotate_left
                        · intro w'
                          go_simp
                          with_reducible rfl
                        rotate_left
                        · simp only [Act.put, List.setIfInBounds_toArray, List.set_cons_zero, List.set_cons_succ, i64_w, i32_w]
                          rfl
                        refine pure_ (i := 5) (N := some 40) (v := ?_) (a' := ?_) #[true, true, false, true, true, true, false, false, false, false, false, false, false] rfl rfl (any_of HT_.out (by kernel_rfl)) (fun _ _ _ h => h) (Or.inl ⟨by rfl, ?_⟩) ?_ ?_
                        rotate_left
                        · intro w'
                          go_simp
                          with_reducible rfl
                        rotate_left
                        · simp only [Act.put, List.setIfInBounds_toArray, List.set_cons_zero, List.set_cons_succ, i64_w, i32_w]
                          rfl
                        refine take_ (i := 2) (N := some 37) (v := ?_) (a' := ?_) #[true, true, true, true, true, true, false, false, false, false, false, false, false] rfl rfl (take_ofW HT_.out HW_.out (by kernel_rfl)) (fun _ _ _ h => h) (Or.inl ⟨by rfl, ?_⟩) hHeld ?_ ?_
                        rotate_left
                        · rintro w' ⟨s0, s1, s2, s3, s4, s5, s6, s7⟩
                          go_simp
                          with_reducible rfl
                        rotate_left
                        · simp only [Act.put, List.setIfInBounds_toArray, List.set_cons_zero, List.set_cons_succ, i64_w, i32_w]
                          rfl
                        refine take_ (i := 6) (N := some 41) (v := ?_) (a' := ?_) #[true, true, true, true, true, true, true, false, false, false, false, false, false] rfl rfl (take_ofW HT_.out HW_.out (by kernel_rfl)) (fun _ _ _ h => h) (Or.inl ⟨by rfl, ?_⟩) hHeld ?_ ?_
                        rotate_left
                        · rintro w' ⟨s0, s1, s2, s3, s4, s5, s6, s7⟩
                          go_simp
                          with_reducible rfl
                        rotate_left
                        · simp only [Act.put, List.setIfInBounds_toArray, List.set_cons_zero, List.set_cons_succ, i64_w, i32_w]
                          rfl
                        refine pure_ (i := 7) (N := some 42) (v := ?_) (a' := ?_) #[true, true, true, true, true, true, true, true, false, false, false, false, false] rfl rfl (any_of HT_.out (by kernel_rfl)) (fun _ _ _ h => h) (Or.inl ⟨by rfl, ?_⟩) ?_ ?_
                        rotate_left
                        · intro w'
                          go_simp
                          with_reducible rfl
                        rotate_left
                        · simp only [Act.put, List.setIfInBounds_toArray, List.set_cons_zero, List.set_cons_succ, i64_w, i32_w]
                          rfl
                        refine pure_ (i := 8) (N := some 43) (v := ?_) (a' := ?_) #[true, true, true, true, true, true, true, true, true, false, false, false, false] rfl rfl (any_of HT_.out (by kernel_rfl)) (fun _ _ _ h => h) (Or.inl ⟨by rfl, ?_⟩) ?_ ?_
                        rotate_left
                        · intro w'
                          go_simp
                          with_reducible rfl
                        rotate_left
                        · simp only [Act.put, List.setIfInBounds_toArray, List.set_cons_zero, List.set_cons_succ, i64_w, i32_w]
                          rfl
                        refine take_ (i := 9) (N := some 44) (v := ?_) (a' := ?_) #[true, true, true, true, true, true, true, true, true, true, false, false, false] rfl rfl (take_ofW HT_.out HW_.out (by kernel_rfl)) (fun _ _ _ h => h) (Or.inl ⟨by rfl, ?_⟩) hHeld ?_ ?_
                        rotate_left
                        · rintro w' ⟨s0, s1, s2, s3, s4, s5, s6, s7⟩
                          go_simp
                          with_reducible rfl
                        rotate_left
                        · simp only [Act.put, List.setIfInBounds_toArray, List.set_cons_zero, List.set_cons_succ, i64_w, i32_w]
                          rfl
                        refine one_ (i := 10) (N := some 45) #[true, true, true, true, true, true, true, true, true, true, true, false, false] rfl rfl (one_of HT_.out (by kernel_rfl)) (by decide) (fun K hK => ?_)
                        refine value_ (w1 := ?_) (v := ?_) (by rfl) rfl ?_ ?_
                        rotate_left 2
                        · go_simp
                          constructor
                          · rfl
                          · rfl
                        refine hK.out _ _ ⟨(blk_cell (blk_alloc BK222.out _) 0).trans rfl, (blk_cell (blk_alloc BK222.out _) 1).trans rfl, (World.cell?_alloc_lt _ _ _ (World.block_lt_of_cell? _ _ (((HB.out.cell (World.block_lt_of_cell? w _ hw233_0)).trans hw233_0)))).trans (((HB.out.cell (World.block_lt_of_cell? w _ hw233_0)).trans hw233_0)), (World.cell?_alloc_lt _ _ _ (World.block_lt_of_cell? _ _ (((HB.out.cell (World.block_lt_of_cell? w _ hw234_0)).trans hw234_0)))).trans (((HB.out.cell (World.block_lt_of_cell? w _ hw234_0)).trans hw234_0)), (World.cell?_alloc_lt _ _ _ (World.block_lt_of_cell? _ _ (((HB.out.cell (World.block_lt_of_cell? w _ hw234_1)).trans hw234_1)))).trans (((HB.out.cell (World.block_lt_of_cell? w _ hw234_1)).trans hw234_1)), (World.cell?_alloc_lt _ _ _ (World.block_lt_of_cell? _ _ (((HB.out.cell (World.block_lt_of_cell? w _ hw234_2)).trans hw234_2)))).trans (((HB.out.cell (World.block_lt_of_cell? w _ hw234_2)).trans hw234_2)), (World.cell?_alloc_lt _ _ _ (World.block_lt_of_cell? _ _ (((HB.out.cell (World.block_lt_of_cell? w _ hw234_3)).trans hw234_3)))).trans (((HB.out.cell (World.block_lt_of_cell? w _ hw234_3)).trans hw234_3)), (World.cell?_alloc_lt _ _ _ (World.block_lt_of_cell? _ _ (((HB.out.cell (World.block_lt_of_cell? w _ hw234_4)).trans hw234_4)))).trans (((HB.out.cell (World.block_lt_of_cell? w _ hw234_4)).trans hw234_4))⟩ (fun hHeld => ?_)
                        clear hK K
                        refine norm_ (a' := ?_) ?_ ?_
                        rotate_left
                        · show Act.put _ (some 45) _ = _
                          simp only [Act.put, List.setIfInBounds_toArray, List.set_cons_zero, List.set_cons_succ, i64_w, i32_w]
                          rfl
                        refine one_ (i := 11) (N := some 46) #[true, true, true, true, true, true, true, true, true, true, true, true, false] rfl rfl (one_of HT_.out (by kernel_rfl)) (by decide) (fun K hK => ?_)
                        refine Kd.R_append_step Kd.string (w0 := w) w.heap.size (by rfl) (.tmp 35) (.tmp 45) 39 9 (.string ⟨#[]⟩) 16 rfl Try.underlying39 info9 rfl (by decide) (by omega) u4 x4_1 ((rd_T52 l0_0 (rd ((rd_T52 l0_0 a0_1).f4) x6_1)).f2) [.string ((rd_T52 l0_0 (rd ((rd_T52 l0_0 a0_1).f4) x6_1)).f2)] (fun _ => True) (fun _ => False) rfl rfl ?aP (fun _ hk => hk.elim) ?aF ?aO ?aB ?aS ?aL ?_
                        (case aP => exact rfl)
                        (case aB => exact (by repeat (first | (with_reducible first | exact HB.out | apply below_alloc | apply pw_below_drewN | apply below_drew1 | refine below_set ?_ GE222.out) | exact HB.out)))
                        (case aF => exact (fun _ _ => trivial))
                        (case aO => exact (by (with_reducible repeat (first | apply Kd.R_alloc | apply Kd.R_drewN | apply Kd.R_drew)); exact HO_4.out))
                        (case aS => exact (below_size (by repeat (first | (with_reducible first | exact HB.out | apply below_alloc | apply pw_below_drewN | apply below_drew1 | refine below_set ?_ GE222.out) | exact HB.out))))
                        (case aL => have := LMc17.out; omega)
                        intro v236 w20 ho hb hg hat
                        rw [← Ny235.out] at ho
                        have n0_ := Aside0.mk (blk_grown (g := gb222) (o := .cells #[.slice (some ad230) l0_0.length c0_0, .int .i64 a0_1] 29 (0, 0)) (by (with_reducible repeat (first | refine blk_drewN ?_ _ | refine blk_drew ?_ | refine blk_alloc ?_ _)); exact BK222.out) hg (Kd.R_ne HO_4.out BK222.out (by decide)))
                        have n1_ := Aside0.mk (hb)
                        have n2_ := Aside0.mk (ho)
                        clear BK222
                        clear HB
                        clear HO_4
                        have BK222 := n0_
                        have HB := n1_
                        have HO237 := n2_
                        clear n0_ n1_ n2_
                        clear ho hb hg hat
                        refine hK.out _ _ ⟨(blk_cell BK222.out 0).trans rfl, (blk_cell BK222.out 1).trans rfl, ((HB.out.cell (World.block_lt_of_cell? w _ hw233_0)).trans hw233_0), ((HB.out.cell (World.block_lt_of_cell? w _ hw234_0)).trans hw234_0), ((HB.out.cell (World.block_lt_of_cell? w _ hw234_1)).trans hw234_1), ((HB.out.cell (World.block_lt_of_cell? w _ hw234_2)).trans hw234_2), ((HB.out.cell (World.block_lt_of_cell? w _ hw234_3)).trans hw234_3), ((HB.out.cell (World.block_lt_of_cell? w _ hw234_4)).trans hw234_4)⟩ (fun hHeld => ?_)
                        clear hK K
                        refine norm_ (a' := ?_) ?_ ?_
                        rotate_left
                        · show Act.put _ (some 46) _ = _
                          simp only [Act.put, List.setIfInBounds_toArray, List.set_cons_zero, List.set_cons_succ, i64_w, i32_w]
                          rfl
                        refine pure_ (i := 12) (N := some 4) (v := ?_) (a' := ?_) #[true, true, true, true, true, true, true, true, true, true, true, true, true] rfl rfl (any_of HT_.out (by kernel_rfl)) (fun _ _ _ h => h) (Or.inl ⟨by rfl, ?_⟩) ?_ ?_
                        rotate_left
                        · intro w'
                          go_simp
                          with_reducible rfl
                        rotate_left
                        · simp only [Act.put, List.setIfInBounds_toArray, List.set_cons_zero, List.set_cons_succ, i64_w, i32_w]
                          rfl
                        refine done_ (done_of HT_.out (by kernel_rfl)) ?_
                        try go_wp2
                        go_roundg k1
                        case measure => have := HK1.out; omega
                        case rel => exact ⟨(y235), (wrap64 (x6_1 + 1)), (by first | rfl | (simp; done) | (simp [*]; done)), H', ⟨by have := HK1.out; omega⟩, ⟨by (with_reducible repeat (first | apply Kd.R_alloc | apply Kd.R_drewN | apply Kd.R_drew)); exact HO237.out⟩, ⟨by (with_reducible repeat (first | refine blk_drewN ?_ _ | refine blk_drew ?_ | refine blk_alloc ?_ _)); exact BK222.out⟩, ⟨by repeat (first | (with_reducible first | exact HB.out | apply below_alloc | apply pw_below_drewN | apply below_drew1 | refine below_set ?_ GE222.out) | exact HB.out)⟩⟩
                      · rw [if_neg c17] at H
                        exact absurd H (by simp)
                    · rw [if_neg c16] at H
                      have c16b0 : (((rd_T52 l0_0 (rd ((rd_T52 l0_0 a0_1).f4) x6_1)).f0) == 20) = false := beq_eq_false_iff_ne.mpr c16
                      have c16b1 : (((rd_T52 l0_0 (rd ((rd_T52 l0_0 a0_1).f4) x6_1)).f0) != 20) = true := bne_iff_ne.mpr c16
                      have H' := Aside0.mk H
                      clear H
                      try go_wp2
                      have n0_ := Aside0.mk (Kd.R_drew HO_4.out)
                      have n1_ := Aside0.mk (blk_drew BK222.out)
                      have n2_ := Aside0.mk (below_drew1 HB.out)
                      clear HO_4
                      clear BK222
                      clear HB
                      have HO_4 := n0_
                      have BK222 := n1_
                      have HB := n2_
                      clear n0_ n1_ n2_
                      have p231 : 0 ≤ (x6_1 : Int) := of_decide_eq_true (by first | (with_reducible assumption) | assumption)
                      have q231 : x6_1 < (((rd_T52 l0_0 a0_1).f4).length : Int) := of_decide_eq_true (by first | (with_reducible assumption) | assumption)
                      obtain ⟨ad231, e231, hx231_0⟩ := Kd.at_int HR230_4.out x6_1 p231 q231
                      have hw231_0 := hx231_0
                      cases e231
                      replace hx231_0 := (HB.out.cell (World.block_lt_of_cell? w _ hx231_0)).trans hx231_0
                      replace p231 := eq_true p231
                      replace q231 := eq_true q231
                      have p232 : 0 ≤ ((rd ((rd_T52 l0_0 a0_1).f4) x6_1) : Int) := of_decide_eq_true (by first | (with_reducible assumption) | assumption)
                      have q232 : (rd ((rd_T52 l0_0 a0_1).f4) x6_1) < (l0_0.length : Int) := of_decide_eq_true (by first | (with_reducible assumption) | assumption)
                      obtain ⟨ad232, A232_3, c232_3, A232_4, c232_4, e232, hx232_0, hx232_1, hx232_2, hx232_3, hx232_4, hl232_3, hi232_3, hl232_4, hi232_4⟩ := at_T52 HR0_0.out (rd ((rd_T52 l0_0 a0_1).f4) x6_1) p232 q232
                      have hw232_4 := hx232_4
                      have hw232_3 := hx232_3
                      have hw232_2 := hx232_2
                      have hw232_1 := hx232_1
                      have hw232_0 := hx232_0
                      obtain rfl : ad230 = ad232 := (by injection e232)
                      replace hx232_0 := (HB.out.cell (World.block_lt_of_cell? w _ hx232_0)).trans hx232_0
                      replace hx232_1 := (HB.out.cell (World.block_lt_of_cell? w _ hx232_1)).trans hx232_1
                      replace hx232_2 := (HB.out.cell (World.block_lt_of_cell? w _ hx232_2)).trans hx232_2
                      replace hx232_3 := (HB.out.cell (World.block_lt_of_cell? w _ hx232_3)).trans hx232_3
                      replace hx232_4 := (HB.out.cell (World.block_lt_of_cell? w _ hx232_4)).trans hx232_4
                      have HR232_3 := Aside0.mk hi232_3
                      have HC232_3 := Aside0.mk hl232_3
                      clear hi232_3 hl232_3
                      have HR232_4 := Aside0.mk hi232_4
                      have HC232_4 := Aside0.mk hl232_4
                      clear hi232_4 hl232_4
                      replace p232 := eq_true p232
                      replace q232 := eq_true q232
                      refine start_ (n := 10) (S := fun w' => w'.cell? ⟨gb222, 0, none⟩ = some (.slice (some ad230) l0_0.length c0_0) ∧ w'.cell? ⟨gb222, 1, none⟩ = some (.int .i64 a0_1) ∧ w'.cell? (ad231.add (x6_1).toNat) = some (.int .i64 (rd ((rd_T52 l0_0 a0_1).f4) x6_1)) ∧ w'.cell? (ad230.add (((rd ((rd_T52 l0_0 a0_1).f4) x6_1)).toNat * 5)) = some (.int .i64 ((rd_T52 l0_0 (rd ((rd_T52 l0_0 a0_1).f4) x6_1)).f0)) ∧ w'.cell? ⟨(ad230.add (((rd ((rd_T52 l0_0 a0_1).f4) x6_1)).toNat * 5)).block, (ad230.add (((rd ((rd_T52 l0_0 a0_1).f4) x6_1)).toNat * 5)).off + 1, none⟩ = some (.int .i64 ((rd_T52 l0_0 (rd ((rd_T52 l0_0 a0_1).f4) x6_1)).f1)) ∧ w'.cell? ⟨(ad230.add (((rd ((rd_T52 l0_0 a0_1).f4) x6_1)).toNat * 5)).block, (ad230.add (((rd ((rd_T52 l0_0 a0_1).f4) x6_1)).toNat * 5)).off + 2, none⟩ = some (.string ((rd_T52 l0_0 (rd ((rd_T52 l0_0 a0_1).f4) x6_1)).f2)) ∧ w'.cell? ⟨(ad230.add (((rd ((rd_T52 l0_0 a0_1).f4) x6_1)).toNat * 5)).block, (ad230.add (((rd ((rd_T52 l0_0 a0_1).f4) x6_1)).toNat * 5)).off + 3, none⟩ = some (.slice A232_3 ((rd_T52 l0_0 (rd ((rd_T52 l0_0 a0_1).f4) x6_1)).f3).length c232_3) ∧ w'.cell? ⟨(ad230.add (((rd ((rd_T52 l0_0 a0_1).f4) x6_1)).toNat * 5)).block, (ad230.add (((rd ((rd_T52 l0_0 a0_1).f4) x6_1)).toNat * 5)).off + 4, none⟩ = some (.slice A232_4 ((rd_T52 l0_0 (rd ((rd_T52 l0_0 a0_1).f4) x6_1)).f4).length c232_4)) (ds := []) #[false, false, false, false, false, false, false, false, false, false] (by kernel_rfl) rfl rfl ⟨(blk_cell BK222.out 0).trans rfl, (blk_cell BK222.out 1).trans rfl, ((HB.out.cell (World.block_lt_of_cell? w _ hw231_0)).trans hw231_0), ((HB.out.cell (World.block_lt_of_cell? w _ hw232_0)).trans hw232_0), ((HB.out.cell (World.block_lt_of_cell? w _ hw232_1)).trans hw232_1), ((HB.out.cell (World.block_lt_of_cell? w _ hw232_2)).trans hw232_2), ((HB.out.cell (World.block_lt_of_cell? w _ hw232_3)).trans hw232_3), ((HB.out.cell (World.block_lt_of_cell? w _ hw232_4)).trans hw232_4)⟩ (fun hHeld => ?_); refine with_tabW spec_FuncsOf.tab8 spec_FuncsOf.bits8 (fun HT_ HW_ => ?_)
                      generalize wr.drew = w21 at HO_4 BK222 HB HR232_3 HR232_4 hx231_0 hx232_0 hx232_1 hx232_2 hx232_3 hx232_4 hHeld ⊢
                      refine pure_ (i := 0) (N := some 25) (v := ?_) (a' := ?_) #[true, false, false, false, false, false, false, false, false, false] rfl rfl (any_of HT_.out (by kernel_rfl)) (fun _ _ _ h => h) (Or.inl ⟨by rfl, ?_⟩) ?_ ?_
                      rotate_left
                      · intro w'
                        go_simp
                        with_reducible rfl
                      rotate_left
                      · simp only [Act.put, List.setIfInBounds_toArray, List.set_cons_zero, List.set_cons_succ, i64_w, i32_w]
                        rfl
                      refine pure_ (i := 2) (N := some 27) (v := ?_) (a' := ?_) #[true, false, true, false, false, false, false, false, false, false] rfl rfl (any_of HT_.out (by kernel_rfl)) (fun _ _ _ h => h) (Or.inl ⟨by rfl, ?_⟩) ?_ ?_
                      rotate_left
                      · intro w'
                        go_simp
                        with_reducible rfl
                      rotate_left
                      · simp only [Act.put, List.setIfInBounds_toArray, List.set_cons_zero, List.set_cons_succ, i64_w, i32_w]
                        rfl
                      refine pure_ (i := 3) (N := some 28) (v := ?_) (a' := ?_) #[true, false, true, true, false, false, false, false, false, false] rfl rfl (any_of HT_.out (by kernel_rfl)) (fun _ _ _ h => h) (Or.inl ⟨by rfl, ?_⟩) ?_ ?_
                      rotate_left
                      · intro w'
                        go_simp
                        with_reducible rfl
                      rotate_left
                      · simp only [Act.put, List.setIfInBounds_toArray, List.set_cons_zero, List.set_cons_succ, i64_w, i32_w]
                        rfl
                      refine pure_ (i := 4) (N := some 29) (v := ?_) (a' := ?_) #[true, false, true, true, true, false, false, false, false, false] rfl rfl (any_of HT_.out (by kernel_rfl)) (fun _ _ _ h => h) (Or.inl ⟨by rfl, ?_⟩) ?_ ?_
                      rotate_left
                      · intro w'
                        go_simp
                        with_reducible rfl
                      rotate_left
                      · simp only [Act.put, List.setIfInBounds_toArray, List.set_cons_zero, List.set_cons_succ, i64_w, i32_w]
                        rfl
                      refine take_ (i := 1) (N := some 26) (v := ?_) (a' := ?_) #[true, true, true, true, true, false, false, false, false, false] rfl rfl (take_ofW HT_.out HW_.out (by kernel_rfl)) (fun _ _ _ h => h) (Or.inl ⟨by rfl, ?_⟩) hHeld ?_ ?_
                      rotate_left
                      · rintro w' ⟨s0, s1, s2, s3, s4, s5, s6, s7⟩
                        go_simp
                        with_reducible rfl
                      rotate_left
                      · simp only [Act.put, List.setIfInBounds_toArray, List.set_cons_zero, List.set_cons_succ, i64_w, i32_w]
                        rfl
                      refine take_ (i := 5) (N := some 30) (v := ?_) (a' := ?_) #[true, true, true, true, true, true, false, false, false, false] rfl rfl (take_ofW HT_.out HW_.out (by kernel_rfl)) (fun _ _ _ h => h) (Or.inl ⟨by rfl, ?_⟩) hHeld ?_ ?_
                      rotate_left
                      · rintro w' ⟨s0, s1, s2, s3, s4, s5, s6, s7⟩
                        go_simp
                        with_reducible rfl
                      rotate_left
                      · simp only [Act.put, List.setIfInBounds_toArray, List.set_cons_zero, List.set_cons_succ, i64_w, i32_w]
                        rfl
                      refine pure_ (i := 6) (N := some 31) (v := ?_) (a' := ?_) #[true, true, true, true, true, true, true, false, false, false] rfl rfl (any_of HT_.out (by kernel_rfl)) (fun _ _ _ h => h) (Or.inl ⟨by rfl, ?_⟩) ?_ ?_
                      rotate_left
                      · intro w'
                        go_simp
                        with_reducible rfl
                      rotate_left
                      · simp only [Act.put, List.setIfInBounds_toArray, List.set_cons_zero, List.set_cons_succ, i64_w, i32_w]
                        rfl
                      refine pure_ (i := 7) (N := some 32) (v := ?_) (a' := ?_) #[true, true, true, true, true, true, true, true, false, false] rfl rfl (any_of HT_.out (by kernel_rfl)) (fun _ _ _ h => h) (Or.inl ⟨by rfl, ?_⟩) ?_ ?_
                      rotate_left
                      · intro w'
                        go_simp
                        with_reducible rfl
                      rotate_left
                      · simp only [Act.put, List.setIfInBounds_toArray, List.set_cons_zero, List.set_cons_succ, i64_w, i32_w]
                        rfl
                      refine take_ (i := 8) (N := some 33) (v := ?_) (a' := ?_) #[true, true, true, true, true, true, true, true, true, false] rfl rfl (take_ofW HT_.out HW_.out (by kernel_rfl)) (fun _ _ _ h => h) (Or.inl ⟨by rfl, ?_⟩) hHeld ?_ ?_
                      rotate_left
                      · rintro w' ⟨s0, s1, s2, s3, s4, s5, s6, s7⟩
                        go_simp
                        with_reducible rfl
                      rotate_left
                      · simp only [Act.put, List.setIfInBounds_toArray, List.set_cons_zero, List.set_cons_succ, i64_w, i32_w]
                        rfl
                      refine pure_ (i := 9) (N := some 34) (v := ?_) (a' := ?_) #[true, true, true, true, true, true, true, true, true, true] rfl rfl (any_of HT_.out (by kernel_rfl)) (fun _ _ _ h => h) (Or.inl ⟨by rfl, ?_⟩) ?_ ?_
                      rotate_left
                      · intro w'
                        go_simp
                        with_reducible rfl
                      rotate_left
                      · simp only [Act.put, List.setIfInBounds_toArray, List.set_cons_zero, List.set_cons_succ, i64_w, i32_w]
                        rfl
                      refine done_ (done_of HT_.out (by kernel_rfl)) ?_
                      try go_wp2
                      go_roundg k1
                      case measure => have := HK1.out; omega
                      case rel => exact ⟨(x4_1), (wrap64 (x6_1 + 1)), (by first | rfl | (simp; done) | (simp [*]; done)), H', ⟨by have := HK1.out; omega⟩, ⟨by (with_reducible repeat (first | apply Kd.R_alloc | apply Kd.R_drewN | apply Kd.R_drew)); exact HO_4.out⟩, ⟨by (with_reducible repeat (first | refine blk_drewN ?_ _ | refine blk_drew ?_ | refine blk_alloc ?_ _)); exact BK222.out⟩, ⟨by repeat (first | (with_reducible first | exact HB.out | apply below_alloc | apply pw_below_drewN | apply below_drew1 | refine below_set ?_ GE222.out) | exact HB.out)⟩⟩
                  · rw [if_neg c15] at H
                    exact absurd H (by simp)
                · rw [if_neg c14] at H
                  exact absurd H (by simp)
              · rw [if_neg c13] at H
                exact absurd H (by simp)
            · rw [if_neg c12] at H
              have c12b0 : decide (x6_1 < (((rd_T52 l0_0 a0_1).f4).length : Int)) = false := decide_eq_false c12
              clear c12
              simp only [Option.some.injEq, Prod.mk.injEq] at H
              obtain ⟨rfl, rfl⟩ := H
              go_wp2
              go_ret2
              exact ⟨_, by first | rfl | exact My.ret_isEmpty _ | (simp [errW_none, errW_some] <;> rfl) | (simp [*, errW_none, errW_some] <;> rfl), by (with_reducible repeat (first | apply Kd.R_alloc | apply Kd.R_drewN | apply Kd.R_drew)); exact HO_4.out, by repeat (first | (with_reducible first | exact HB.out | apply below_alloc | apply pw_below_drewN | apply below_drew1 | refine below_set ?_ GE222.out) | exact HB.out)⟩
      · rw [if_neg c5] at H
        exact absurd H (by simp)
    · rw [if_neg c4] at H
      exact absurd H (by simp)
  · replace c3 := Bool.eq_false_iff.mpr c3
    subst c3
    have H1 : (some ((([] : List ByteArray)), 1)) = some (r1, r2) := by rw [if_neg (show ¬ (false = true) by decide)] at H; exact H
    clear H
    have H := H1
    clear H1
    obtain ⟨y224, hy224⟩ : ∃ y_ : List ByteArray, y_ = (([] : List ByteArray)) := ⟨_, rfl⟩
    replace H : (some (y224, 1)) = some (r1, r2) := by first | (rw [hy224]; with_reducible exact H) | (have H2_ := (Option.bind_some _ _).symm.trans H; rw [hy224]; with_reducible exact H2_) | (have H2_ := (Option.bind_some _ _).symm.trans H; with_reducible exact H2_) | with_reducible exact H | (rw [hy224]; exact H) | exact H
    have Ny224 := Aside0.mk hy224
    clear hy224
    simp only [Option.some.injEq, Prod.mk.injEq] at H
    obtain ⟨rfl, rfl⟩ := H
    go_enter Try.func25, Try.ntmps25
    go_wp2_with (first | ((with_reducible refine gate_dst (N := 1) rfl ?_); refine box_event ?hg (N := 1) ?hd (cs := #[.slice A0_0 l0_0.length c0_0, .int .i64 a0_1]) (t := 29) ?hr ?_; (case hd => rfl); (case hg => rfl); (case hr => first | (go_simp; done) | (go_simp; rfl)); intro gb222 hg w22 hbox hb; have n0_ := Aside0.mk (below_step (by repeat (first | (with_reducible first | exact HB.out | apply below_alloc | apply pw_below_drewN | apply below_drew1) | exact HB.out)) hb); have n1_ := Aside0.mk (hbox); have n2_ := Aside0.mk ((by rw [hg]; exact (below_size (by repeat (first | (with_reducible first | exact HB.out | apply below_alloc | apply pw_below_drewN | apply below_drew1) | exact HB.out))) : w.heap.size ≤ gb222)); have n3_ := Aside0.mk ((by rw [hg]; exact (below_size (by repeat (first | (with_reducible first | exact HB.out | apply below_alloc | apply pw_below_drewN | apply below_drew1) | exact HB.out))) : w.heap.size ≤ gb222)); clear HB; have HB := n0_; have BK222 := n1_; have GW222 := n2_; have GE222 := n3_; clear n0_ n1_ n2_ n3_; clear hb hbox hg; have hcz23_0 : w22.cell? ⟨gb222, 0, none⟩ = some (.slice A0_0 l0_0.length c0_0) := (blk_cell BK222.out 0).trans rfl; have hcz23_1 : w22.cell? ⟨gb222, 1, none⟩ = some (.int .i64 a0_1) := (blk_cell BK222.out 1).trans rfl; have hfz23_0 := blk_frozen BK222.out 0; have hfz23_1 := blk_frozen BK222.out 1) | ((with_reducible refine gate_callee (f := 11) rfl ?_); refine goesL_ (some 8) rfl rfl Try.func11 (by kernel_rfl) rfl #[.agg #[.slice A0_0 l0_0.length c0_0, .int .i64 a0_1]] rfl (by (try simp only [List.map_toArray, List.map_cons, List.map_nil]); first | done | rfl | (simp only [List.length_drop, List.length_take]; rfl)) ?_; (with_reducible refine (spec_TreeOK.calls k _ _ l0_0 a0_1 false _ ?side1 ?side2 A2.out).mono ?_); (case side1 => repeat (first | exact (Kd.C_below HR0_0.out HB.out) | (with_reducible refine Kd.C_alloc ?_ _) | (with_reducible refine Kd.C_drewN ?_ _) | (with_reducible refine Kd.C_drew ?_))); (case side2 => exact HC0_0.out); rintro e w24 ⟨rfl, hb⟩; refine ⟨_, rfl, ?_⟩; have n0_ := Aside0.mk (blk_below (g := gb222) (o := .cells #[.slice A0_0 l0_0.length c0_0, .int .i64 a0_1] 29 (0, 0)) (by (with_reducible repeat (first | refine blk_drewN ?_ _ | refine blk_drew ?_ | refine blk_alloc ?_ _)); exact BK222.out) hb); have n1_ := Aside0.mk (below_step (by repeat (first | (with_reducible first | exact HB.out | apply below_alloc | apply pw_below_drewN | apply below_drew1 | refine below_set ?_ GE222.out) | exact HB.out)) hb); clear BK222; clear HB; have BK222 := n0_; have HB := n1_; clear n0_ n1_; (try clear hb); (try clear hb2); (try clear hk); (try clear hi)) | ((with_reducible refine gate_dst (N := 10) rfl ?_); refine Kd.R_lit Kd.string _ 9 ?hg (N := 10) ?hd (xs := ([] : List ByteArray)) (inner := []) (ok := fun _ => True) (okp := fun _ => True) ?hr ?hp (fun _ hk => hk) trivial (Below.refl _ _) (Nat.le_refl _) (by simp) ?_; (case hd => rfl); (case hg => rfl); (case hr => first | (go_simp; done) | (go_simp; rfl)); (case hp => exact (Reps.none _ _)); intro v225 w25 ho26 hb hg_ hnew_; clear hg_ hnew_; (first | rw [← Ny224.out] at ho26 | (simp only [Int.reduceToNat] at ho26; rw [← Ny224.out] at ho26)); have n0_ := Aside0.mk (Kd.R_lower ho26 (below_size (by repeat (first | (with_reducible first | exact HB.out | apply below_alloc | apply pw_below_drewN | apply below_drew1 | refine below_set ?_ GE222.out) | exact HB.out)))); have n1_ := Aside0.mk (blk_below (g := gb222) (o := .cells #[.slice A0_0 l0_0.length c0_0, .int .i64 a0_1] 29 (0, 0)) (by (with_reducible repeat (first | refine blk_drewN ?_ _ | refine blk_drew ?_ | refine blk_alloc ?_ _)); exact BK222.out) hb); have n2_ := Aside0.mk (below_step (by repeat (first | (with_reducible first | exact HB.out | apply below_alloc | apply pw_below_drewN | apply below_drew1 | refine below_set ?_ GE222.out) | exact HB.out)) hb); clear BK222; clear HB; have HO226 := n0_; have BK222 := n1_; have HB := n2_; clear n0_ n1_ n2_; clear hb ho26))
    go_ret2
    exact ⟨_, by first | rfl | exact My.ret_isEmpty _ | (simp [errW_none, errW_some] <;> rfl) | (simp [*, errW_none, errW_some] <;> rfl), by (with_reducible repeat (first | apply Kd.R_alloc | apply Kd.R_drewN | apply Kd.R_drew)); exact HO226.out, by repeat (first | (with_reducible first | exact HB.out | apply below_alloc | apply pw_below_drewN | apply below_drew1 | refine below_set ?_ GE222.out) | exact HB.out)⟩

/-! ### impl_within: function 34 -/
def impl_within.f (a0 : Int) (a1 : Int) (a2 : Int) : Option (Bool) := if a0 ≥ a1 then (some (decide (a0 ≤ a2))) else (some false)
set_option maxHeartbeats 8000000 in
set_option maxRecDepth 100000 in
theorem impl_within.calls (a0 : Int) (a1 : Int) (a2 : Int) (r : Bool) (w : World) (h : impl_within.f a0 a1 a2 = some r) :
    Calls Try.prog 34 #[.int .i64 a0, .int .i64 a1, .int .i64 a2] w fun e w' => e = .returned (.bool r) ∧ Drawn0 w w' := by
  have H : (if a0 ≥ a1 then (some (decide (a0 ≤ a2))) else (some false)) = some r := h
  clear h
  by_cases c4 : a0 ≥ a1
  · rw [if_pos c4] at H
    have c4b0 : decide (a1 ≤ a0) = true := decide_eq_true c4
    clear c4
    obtain rfl := Option.some.inj H
    go_enter Try.func34, Try.ntmps34
    go_wp2
    go_ret
    exact ⟨by first | rfl | (simp; done) | (simp [*]; done), by repeat (first | exact Drawn0.refl _ | apply Drawn0.step)⟩
  · rw [if_neg c4] at H
    have c4b0 : decide (a1 ≤ a0) = false := decide_eq_false c4
    clear c4
    obtain rfl := Option.some.inj H
    go_enter Try.func34, Try.ntmps34
    go_wp2
    go_ret
    exact ⟨by first | rfl | (simp; done) | (simp [*]; done), by repeat (first | exact Drawn0.refl _ | apply Drawn0.step)⟩

/-! ### impl_Node_plain: function 71 -/
theorem impl_Node_plain.mixed : Try.prog.follows Departure.mixedOrders = true := by kernel_rfl
/-- What of a node plain keeps. -/
def impl_Node_plain.keptN (a0 a1 : Int) : Int := if a0 = 1 ∨ a0 = 3 then a1 else 0
def impl_Node_plain.keptT (a0 : Int) (a2 : ByteArray) : ByteArray := if a0 = 2 ∨ a0 = 5 ∨ a0 = 6 ∨ a0 = 7 ∨ a0 = 10 ∨ a0 = 11 ∨ a0 = 12 ∨ a0 = 17 ∨ a0 = 20 then a2 else ⟨#[]⟩
def impl_Node_plain.keptV (a0 : Int) (v : Value) : Value := if a0 = 20 then v else .slice none 0 0
set_option maxHeartbeats 4000000 in
set_option maxRecDepth 100000 in
theorem impl_Node_plain.at1 (a1 : Int) (a2 : ByteArray) (A3 : Option Addr) (n3 c3 : Nat) (A4 : Option Addr) (n4 c4 : Nat) (w : World) : Calls Try.prog 71 #[.agg #[.int .i64 1, .int .i64 a1, .string a2, .slice A3 n3 c3, .slice A4 n4 c4]] w fun e w' => e = .returned (.agg #[.int .i64 1, .int .i64 a1, .string ⟨#[]⟩, .slice none 0 0, .slice A4 n4 c4]) ∧ Below w.heap.size w w' := by
  have huN := Try.underlying52
  have hm := impl_Node_plain.mixed
  go_enter Try.func71, Try.ntmps71
  go_wp2
  refine bodyPost_ret (results_cell_row rfl _ _ (w.heap.size + 1) 52 #[.int .i64 1, .int .i64 a1, .string ⟨#[]⟩, .slice none 0 0, .slice A4 n4 c4] (0, 0) _ rfl (by (with_reducible repeat (first | refine blk_drewN ?_ _ | refine blk_drew ?_)); refine blk_alloc ?_ _; exact Hd.at_alloc _ _ _ (by simp only [Hd.size_alloc])) Try.underlying52 rfl (by kernel_rfl)) rfl ?_
  exact ⟨rfl, by repeat (first | exact Below.refl _ _ | apply below_alloc | apply below_drew1)⟩
set_option maxHeartbeats 4000000 in
set_option maxRecDepth 100000 in
theorem impl_Node_plain.at3 (a1 : Int) (a2 : ByteArray) (A3 : Option Addr) (n3 c3 : Nat) (A4 : Option Addr) (n4 c4 : Nat) (w : World) : Calls Try.prog 71 #[.agg #[.int .i64 3, .int .i64 a1, .string a2, .slice A3 n3 c3, .slice A4 n4 c4]] w fun e w' => e = .returned (.agg #[.int .i64 3, .int .i64 a1, .string ⟨#[]⟩, .slice none 0 0, .slice A4 n4 c4]) ∧ Below w.heap.size w w' := by
  have huN := Try.underlying52
  have hm := impl_Node_plain.mixed
  go_enter Try.func71, Try.ntmps71
  go_wp2
  refine bodyPost_ret (results_cell_row rfl _ _ (w.heap.size + 1) 52 #[.int .i64 3, .int .i64 a1, .string ⟨#[]⟩, .slice none 0 0, .slice A4 n4 c4] (0, 0) _ rfl (by (with_reducible repeat (first | refine blk_drewN ?_ _ | refine blk_drew ?_)); refine blk_alloc ?_ _; exact Hd.at_alloc _ _ _ (by simp only [Hd.size_alloc])) Try.underlying52 rfl (by kernel_rfl)) rfl ?_
  exact ⟨rfl, by repeat (first | exact Below.refl _ _ | apply below_alloc | apply below_drew1)⟩
set_option maxHeartbeats 4000000 in
set_option maxRecDepth 100000 in
theorem impl_Node_plain.at2 (a1 : Int) (a2 : ByteArray) (A3 : Option Addr) (n3 c3 : Nat) (A4 : Option Addr) (n4 c4 : Nat) (w : World) : Calls Try.prog 71 #[.agg #[.int .i64 2, .int .i64 a1, .string a2, .slice A3 n3 c3, .slice A4 n4 c4]] w fun e w' => e = .returned (.agg #[.int .i64 2, .int .i64 0, .string a2, .slice none 0 0, .slice A4 n4 c4]) ∧ Below w.heap.size w w' := by
  have huN := Try.underlying52
  have hm := impl_Node_plain.mixed
  go_enter Try.func71, Try.ntmps71
  go_wp2
  refine bodyPost_ret (results_cell_row rfl _ _ (w.heap.size + 1) 52 #[.int .i64 2, .int .i64 0, .string a2, .slice none 0 0, .slice A4 n4 c4] (0, 0) _ rfl (by (with_reducible repeat (first | refine blk_drewN ?_ _ | refine blk_drew ?_)); refine blk_alloc ?_ _; exact Hd.at_alloc _ _ _ (by simp only [Hd.size_alloc])) Try.underlying52 rfl (by kernel_rfl)) rfl ?_
  exact ⟨rfl, by repeat (first | exact Below.refl _ _ | apply below_alloc | apply below_drew1)⟩
set_option maxHeartbeats 4000000 in
set_option maxRecDepth 100000 in
theorem impl_Node_plain.at5 (a1 : Int) (a2 : ByteArray) (A3 : Option Addr) (n3 c3 : Nat) (A4 : Option Addr) (n4 c4 : Nat) (w : World) : Calls Try.prog 71 #[.agg #[.int .i64 5, .int .i64 a1, .string a2, .slice A3 n3 c3, .slice A4 n4 c4]] w fun e w' => e = .returned (.agg #[.int .i64 5, .int .i64 0, .string a2, .slice none 0 0, .slice A4 n4 c4]) ∧ Below w.heap.size w w' := by
  have huN := Try.underlying52
  have hm := impl_Node_plain.mixed
  go_enter Try.func71, Try.ntmps71
  go_wp2
  refine bodyPost_ret (results_cell_row rfl _ _ (w.heap.size + 1) 52 #[.int .i64 5, .int .i64 0, .string a2, .slice none 0 0, .slice A4 n4 c4] (0, 0) _ rfl (by (with_reducible repeat (first | refine blk_drewN ?_ _ | refine blk_drew ?_)); refine blk_alloc ?_ _; exact Hd.at_alloc _ _ _ (by simp only [Hd.size_alloc])) Try.underlying52 rfl (by kernel_rfl)) rfl ?_
  exact ⟨rfl, by repeat (first | exact Below.refl _ _ | apply below_alloc | apply below_drew1)⟩
set_option maxHeartbeats 4000000 in
set_option maxRecDepth 100000 in
theorem impl_Node_plain.at6 (a1 : Int) (a2 : ByteArray) (A3 : Option Addr) (n3 c3 : Nat) (A4 : Option Addr) (n4 c4 : Nat) (w : World) : Calls Try.prog 71 #[.agg #[.int .i64 6, .int .i64 a1, .string a2, .slice A3 n3 c3, .slice A4 n4 c4]] w fun e w' => e = .returned (.agg #[.int .i64 6, .int .i64 0, .string a2, .slice none 0 0, .slice A4 n4 c4]) ∧ Below w.heap.size w w' := by
  have huN := Try.underlying52
  have hm := impl_Node_plain.mixed
  go_enter Try.func71, Try.ntmps71
  go_wp2
  refine bodyPost_ret (results_cell_row rfl _ _ (w.heap.size + 1) 52 #[.int .i64 6, .int .i64 0, .string a2, .slice none 0 0, .slice A4 n4 c4] (0, 0) _ rfl (by (with_reducible repeat (first | refine blk_drewN ?_ _ | refine blk_drew ?_)); refine blk_alloc ?_ _; exact Hd.at_alloc _ _ _ (by simp only [Hd.size_alloc])) Try.underlying52 rfl (by kernel_rfl)) rfl ?_
  exact ⟨rfl, by repeat (first | exact Below.refl _ _ | apply below_alloc | apply below_drew1)⟩
set_option maxHeartbeats 4000000 in
set_option maxRecDepth 100000 in
theorem impl_Node_plain.at7 (a1 : Int) (a2 : ByteArray) (A3 : Option Addr) (n3 c3 : Nat) (A4 : Option Addr) (n4 c4 : Nat) (w : World) : Calls Try.prog 71 #[.agg #[.int .i64 7, .int .i64 a1, .string a2, .slice A3 n3 c3, .slice A4 n4 c4]] w fun e w' => e = .returned (.agg #[.int .i64 7, .int .i64 0, .string a2, .slice none 0 0, .slice A4 n4 c4]) ∧ Below w.heap.size w w' := by
  have huN := Try.underlying52
  have hm := impl_Node_plain.mixed
  go_enter Try.func71, Try.ntmps71
  go_wp2
  refine bodyPost_ret (results_cell_row rfl _ _ (w.heap.size + 1) 52 #[.int .i64 7, .int .i64 0, .string a2, .slice none 0 0, .slice A4 n4 c4] (0, 0) _ rfl (by (with_reducible repeat (first | refine blk_drewN ?_ _ | refine blk_drew ?_)); refine blk_alloc ?_ _; exact Hd.at_alloc _ _ _ (by simp only [Hd.size_alloc])) Try.underlying52 rfl (by kernel_rfl)) rfl ?_
  exact ⟨rfl, by repeat (first | exact Below.refl _ _ | apply below_alloc | apply below_drew1)⟩
set_option maxHeartbeats 4000000 in
set_option maxRecDepth 100000 in
theorem impl_Node_plain.at10 (a1 : Int) (a2 : ByteArray) (A3 : Option Addr) (n3 c3 : Nat) (A4 : Option Addr) (n4 c4 : Nat) (w : World) : Calls Try.prog 71 #[.agg #[.int .i64 10, .int .i64 a1, .string a2, .slice A3 n3 c3, .slice A4 n4 c4]] w fun e w' => e = .returned (.agg #[.int .i64 10, .int .i64 0, .string a2, .slice none 0 0, .slice A4 n4 c4]) ∧ Below w.heap.size w w' := by
  have huN := Try.underlying52
  have hm := impl_Node_plain.mixed
  go_enter Try.func71, Try.ntmps71
  go_wp2
  refine bodyPost_ret (results_cell_row rfl _ _ (w.heap.size + 1) 52 #[.int .i64 10, .int .i64 0, .string a2, .slice none 0 0, .slice A4 n4 c4] (0, 0) _ rfl (by (with_reducible repeat (first | refine blk_drewN ?_ _ | refine blk_drew ?_)); refine blk_alloc ?_ _; exact Hd.at_alloc _ _ _ (by simp only [Hd.size_alloc])) Try.underlying52 rfl (by kernel_rfl)) rfl ?_
  exact ⟨rfl, by repeat (first | exact Below.refl _ _ | apply below_alloc | apply below_drew1)⟩
set_option maxHeartbeats 4000000 in
set_option maxRecDepth 100000 in
theorem impl_Node_plain.at11 (a1 : Int) (a2 : ByteArray) (A3 : Option Addr) (n3 c3 : Nat) (A4 : Option Addr) (n4 c4 : Nat) (w : World) : Calls Try.prog 71 #[.agg #[.int .i64 11, .int .i64 a1, .string a2, .slice A3 n3 c3, .slice A4 n4 c4]] w fun e w' => e = .returned (.agg #[.int .i64 11, .int .i64 0, .string a2, .slice none 0 0, .slice A4 n4 c4]) ∧ Below w.heap.size w w' := by
  have huN := Try.underlying52
  have hm := impl_Node_plain.mixed
  go_enter Try.func71, Try.ntmps71
  go_wp2
  refine bodyPost_ret (results_cell_row rfl _ _ (w.heap.size + 1) 52 #[.int .i64 11, .int .i64 0, .string a2, .slice none 0 0, .slice A4 n4 c4] (0, 0) _ rfl (by (with_reducible repeat (first | refine blk_drewN ?_ _ | refine blk_drew ?_)); refine blk_alloc ?_ _; exact Hd.at_alloc _ _ _ (by simp only [Hd.size_alloc])) Try.underlying52 rfl (by kernel_rfl)) rfl ?_
  exact ⟨rfl, by repeat (first | exact Below.refl _ _ | apply below_alloc | apply below_drew1)⟩
set_option maxHeartbeats 4000000 in
set_option maxRecDepth 100000 in
theorem impl_Node_plain.at12 (a1 : Int) (a2 : ByteArray) (A3 : Option Addr) (n3 c3 : Nat) (A4 : Option Addr) (n4 c4 : Nat) (w : World) : Calls Try.prog 71 #[.agg #[.int .i64 12, .int .i64 a1, .string a2, .slice A3 n3 c3, .slice A4 n4 c4]] w fun e w' => e = .returned (.agg #[.int .i64 12, .int .i64 0, .string a2, .slice none 0 0, .slice A4 n4 c4]) ∧ Below w.heap.size w w' := by
  have huN := Try.underlying52
  have hm := impl_Node_plain.mixed
  go_enter Try.func71, Try.ntmps71
  go_wp2
  refine bodyPost_ret (results_cell_row rfl _ _ (w.heap.size + 1) 52 #[.int .i64 12, .int .i64 0, .string a2, .slice none 0 0, .slice A4 n4 c4] (0, 0) _ rfl (by (with_reducible repeat (first | refine blk_drewN ?_ _ | refine blk_drew ?_)); refine blk_alloc ?_ _; exact Hd.at_alloc _ _ _ (by simp only [Hd.size_alloc])) Try.underlying52 rfl (by kernel_rfl)) rfl ?_
  exact ⟨rfl, by repeat (first | exact Below.refl _ _ | apply below_alloc | apply below_drew1)⟩
set_option maxHeartbeats 4000000 in
set_option maxRecDepth 100000 in
theorem impl_Node_plain.at17 (a1 : Int) (a2 : ByteArray) (A3 : Option Addr) (n3 c3 : Nat) (A4 : Option Addr) (n4 c4 : Nat) (w : World) : Calls Try.prog 71 #[.agg #[.int .i64 17, .int .i64 a1, .string a2, .slice A3 n3 c3, .slice A4 n4 c4]] w fun e w' => e = .returned (.agg #[.int .i64 17, .int .i64 0, .string a2, .slice none 0 0, .slice A4 n4 c4]) ∧ Below w.heap.size w w' := by
  have huN := Try.underlying52
  have hm := impl_Node_plain.mixed
  go_enter Try.func71, Try.ntmps71
  go_wp2
  refine bodyPost_ret (results_cell_row rfl _ _ (w.heap.size + 1) 52 #[.int .i64 17, .int .i64 0, .string a2, .slice none 0 0, .slice A4 n4 c4] (0, 0) _ rfl (by (with_reducible repeat (first | refine blk_drewN ?_ _ | refine blk_drew ?_)); refine blk_alloc ?_ _; exact Hd.at_alloc _ _ _ (by simp only [Hd.size_alloc])) Try.underlying52 rfl (by kernel_rfl)) rfl ?_
  exact ⟨rfl, by repeat (first | exact Below.refl _ _ | apply below_alloc | apply below_drew1)⟩
set_option maxHeartbeats 4000000 in
set_option maxRecDepth 100000 in
theorem impl_Node_plain.at20 (a1 : Int) (a2 : ByteArray) (A3 : Option Addr) (n3 c3 : Nat) (A4 : Option Addr) (n4 c4 : Nat) (w : World) : Calls Try.prog 71 #[.agg #[.int .i64 20, .int .i64 a1, .string a2, .slice A3 n3 c3, .slice A4 n4 c4]] w fun e w' => e = .returned (.agg #[.int .i64 20, .int .i64 0, .string a2, .slice A3 n3 c3, .slice A4 n4 c4]) ∧ Below w.heap.size w w' := by
  have huN := Try.underlying52
  have hm := impl_Node_plain.mixed
  go_enter Try.func71, Try.ntmps71
  go_wp2
  go_region_o
  all_goals go_wp2
  all_goals refine bodyPost_ret (results_cell_row rfl _ _ (w.heap.size + 1) 52 #[.int .i64 20, .int .i64 0, .string a2, .slice A3 n3 c3, .slice A4 n4 c4] (0, 0) _ rfl (by (with_reducible repeat (first | refine blk_drewN ?_ _ | refine blk_drew ?_)); refine blk_alloc ?_ _; exact Hd.at_alloc _ _ _ (by simp only [Hd.size_alloc])) Try.underlying52 rfl (by kernel_rfl)) rfl ?_
  all_goals exact ⟨rfl, by repeat (first | exact Below.refl _ _ | apply below_alloc | apply below_drew1)⟩
set_option maxHeartbeats 4000000 in
set_option maxRecDepth 100000 in
theorem impl_Node_plain.at0 (a0 : Int) (a1 : Int) (a2 : ByteArray) (A3 : Option Addr) (n3 c3 : Nat) (A4 : Option Addr) (n4 c4 : Nat) (w : World) (h1 : a0 ≠ 1) (h3 : a0 ≠ 3) (h2 : a0 ≠ 2) (h5 : a0 ≠ 5) (h6 : a0 ≠ 6) (h7 : a0 ≠ 7) (h10 : a0 ≠ 10) (h11 : a0 ≠ 11) (h12 : a0 ≠ 12) (h17 : a0 ≠ 17) (h20 : a0 ≠ 20) : Calls Try.prog 71 #[.agg #[.int .i64 a0, .int .i64 a1, .string a2, .slice A3 n3 c3, .slice A4 n4 c4]] w fun e w' => e = .returned (.agg #[.int .i64 a0, .int .i64 0, .string ⟨#[]⟩, .slice none 0 0, .slice A4 n4 c4]) ∧ Below w.heap.size w w' := by
  have huN := Try.underlying52
  have hm := impl_Node_plain.mixed
  have b1 : (a0 == 1) = false := beq_eq_false_iff_ne.mpr h1
  have b3 : (a0 == 3) = false := beq_eq_false_iff_ne.mpr h3
  have b2 : (a0 == 2) = false := beq_eq_false_iff_ne.mpr h2
  have b5 : (a0 == 5) = false := beq_eq_false_iff_ne.mpr h5
  have b6 : (a0 == 6) = false := beq_eq_false_iff_ne.mpr h6
  have b7 : (a0 == 7) = false := beq_eq_false_iff_ne.mpr h7
  have b10 : (a0 == 10) = false := beq_eq_false_iff_ne.mpr h10
  have b11 : (a0 == 11) = false := beq_eq_false_iff_ne.mpr h11
  have b12 : (a0 == 12) = false := beq_eq_false_iff_ne.mpr h12
  have b17 : (a0 == 17) = false := beq_eq_false_iff_ne.mpr h17
  have b20 : (a0 == 20) = false := beq_eq_false_iff_ne.mpr h20
  clear h1 h3 h2 h5 h6 h7 h10 h11 h12 h17 h20
  go_enter Try.func71, Try.ntmps71
  go_wp2
  refine bodyPost_ret (results_cell_row rfl _ _ (w.heap.size + 1) 52 #[.int .i64 a0, .int .i64 0, .string ⟨#[]⟩, .slice none 0 0, .slice A4 n4 c4] (0, 0) _ rfl (by (with_reducible repeat (first | refine blk_drewN ?_ _ | refine blk_drew ?_)); refine blk_alloc ?_ _; exact Hd.at_alloc _ _ _ (by simp only [Hd.size_alloc])) Try.underlying52 rfl (by kernel_rfl)) rfl ?_
  exact ⟨rfl, by repeat (first | exact Below.refl _ _ | apply below_alloc | apply below_drew1)⟩
theorem impl_Node_plain.at (a0 a1 : Int) (a2 : ByteArray) (A3 : Option Addr) (n3 c3 : Nat) (A4 : Option Addr) (n4 c4 : Nat) (w : World) : Calls Try.prog 71 #[.agg #[.int .i64 a0, .int .i64 a1, .string a2, .slice A3 n3 c3, .slice A4 n4 c4]] w fun e w' => e = .returned (.agg #[.int .i64 a0, .int .i64 (impl_Node_plain.keptN a0 a1), .string (impl_Node_plain.keptT a0 a2), impl_Node_plain.keptV a0 (.slice A3 n3 c3), .slice A4 n4 c4]) ∧ Below w.heap.size w w' := by
  by_cases h1 : a0 = 1
  · subst h1; exact impl_Node_plain.at1 a1 a2 A3 n3 c3 A4 n4 c4 w
  by_cases h3 : a0 = 3
  · subst h3; exact impl_Node_plain.at3 a1 a2 A3 n3 c3 A4 n4 c4 w
  by_cases h2 : a0 = 2
  · subst h2; exact impl_Node_plain.at2 a1 a2 A3 n3 c3 A4 n4 c4 w
  by_cases h5 : a0 = 5
  · subst h5; exact impl_Node_plain.at5 a1 a2 A3 n3 c3 A4 n4 c4 w
  by_cases h6 : a0 = 6
  · subst h6; exact impl_Node_plain.at6 a1 a2 A3 n3 c3 A4 n4 c4 w
  by_cases h7 : a0 = 7
  · subst h7; exact impl_Node_plain.at7 a1 a2 A3 n3 c3 A4 n4 c4 w
  by_cases h10 : a0 = 10
  · subst h10; exact impl_Node_plain.at10 a1 a2 A3 n3 c3 A4 n4 c4 w
  by_cases h11 : a0 = 11
  · subst h11; exact impl_Node_plain.at11 a1 a2 A3 n3 c3 A4 n4 c4 w
  by_cases h12 : a0 = 12
  · subst h12; exact impl_Node_plain.at12 a1 a2 A3 n3 c3 A4 n4 c4 w
  by_cases h17 : a0 = 17
  · subst h17; exact impl_Node_plain.at17 a1 a2 A3 n3 c3 A4 n4 c4 w
  by_cases h20 : a0 = 20
  · subst h20; exact impl_Node_plain.at20 a1 a2 A3 n3 c3 A4 n4 c4 w
  have h := impl_Node_plain.at0 a0 a1 a2 A3 n3 c3 A4 n4 c4 w h1 h3 h2 h5 h6 h7 h10 h11 h12 h17 h20
  have e1 : impl_Node_plain.keptN a0 a1 = 0 := by unfold impl_Node_plain.keptN; rw [if_neg]; rintro (h | h) <;> contradiction
  have e2 : impl_Node_plain.keptT a0 a2 = ⟨#[]⟩ := by unfold impl_Node_plain.keptT; rw [if_neg]; rintro (h | h | h | h | h | h | h | h | h) <;> contradiction
  have e3 : impl_Node_plain.keptV a0 (.slice A3 n3 c3) = .slice none 0 0 := by unfold impl_Node_plain.keptV; rw [if_neg h20]
  rw [e1, e2, e3]
  exact h

/-! ### impl_run: function 99 -/
set_option maxHeartbeats 1000000 in
/-- How far the bytes of a text from its begin on meet a predicate that is handed over. -/
theorem impl_run.go (p : Int → Bool) (g : Nat) (s : ByteArray) (w : World) (hp : ∀ (c : Nat) (W : World), c < 256 → Below w.heap.size w W → Calls Try.prog g #[.int .u8 c] W fun e w' => e = .returned (.bool (p c)) ∧ Below w.heap.size w w')
    (eg : ∀ args w, (callFunc g args).run Try.prog w = .ok (.enter g args) w) (hs : s.size ≤ 9223372036854775807) :
    Calls Try.prog 99 #[.string s, .int .i64 0, .func (.func g) #[] #[]] w fun e w' => e = .returned (.int .i64 (My.runFrom p s s.size 0)) ∧ Below w.heap.size w w' := by
  go_enter Try.func99, Try.ntmps99
  go_wp2
  go_loopw [1] (fun i wr => ∃ j : Nat, j ≤ s.size ∧ i = .int .i64 j ∧ Aside0 (My.runFrom p s s.size 0 = My.runFrom p s (s.size - j) j) ∧ Aside0 (Below w.heap.size w wr)) (fun i _ => s.size - (intOf i).toNat)
  case atStart => exact ⟨0, Nat.zero_le _, rfl, ⟨rfl⟩, ⟨Below.refl _ _⟩⟩
  case round =>
    obtain ⟨j, hj, rfl, HA, HB⟩ := hrel
    by_cases hlt : j < s.size
    · have hcall := fun W hb => hp (s[j]).toNat W (s[j]).toNat_lt hb
      have hb := My.bt_at s j hlt
      have hrun : My.runFrom p s (s.size - j) j = if p ((s[j]).toNat : Int) = true then My.runFrom p s (s.size - (j + 1)) (j + 1) else j := by
        rw [show s.size - j = (s.size - (j + 1)) + 1 by omega]
        simp only [My.runFrom, hb]
      have HR := Aside0.mk hrun
      clear hrun hb hp
      cases hq : p ((s[j]).toNat : Int) with
      | true =>
        rw [hq] at hcall
        have HQ := Aside0.mk hq
        clear hq
        go_wp2_with (go_at_fn g; refine (hcall _ HB.out).mono ?_; rintro e w' ⟨rfl, hb2⟩)
        go_roundw
        case rel => exact ⟨j + 1, by omega, by go_num, ⟨by rw [HA.out, HR.out, if_pos HQ.out]⟩, ⟨hb2⟩⟩
        case measure => simp [intOf]; omega
      | false =>
        rw [hq] at hcall
        have HQ := Aside0.mk hq
        clear hq
        go_wp2_with (go_at_fn g; refine (hcall _ HB.out).mono ?_; rintro e w' ⟨rfl, hb2⟩)
        go_ret
        refine ⟨?_, hb2⟩
        show Ending.returned (.int .i64 (j : Int)) = .returned (.int .i64 ((My.runFrom p s s.size 0 : Nat) : Int))
        rw [HA.out, HR.out, if_neg (by rw [HQ.out]; decide)]
    · go_wp2
      go_ret
      refine ⟨?_, HB.out⟩
      show Ending.returned (.int .i64 (j : Int)) = .returned (.int .i64 ((My.runFrom p s s.size 0 : Nat) : Int))
      rw [HA.out, show s.size - j = 0 by omega]
      rfl

/-! ### impl_printable_1: function 100 -/
def impl_printable_1.f (a0 : Int) : Option (Bool) := if a0 ≥ 32 then (some (decide (a0 ≤ 126))) else (some false)
set_option maxHeartbeats 8000000 in
set_option maxRecDepth 100000 in
theorem impl_printable_1.calls (a0 : Int) (r : Bool) (w : World) (h : impl_printable_1.f a0 = some r) :
    Calls Try.prog 100 #[.int .u8 a0] w fun e w' => e = .returned (.bool r) ∧ Drawn0 w w' := by
  have H : (if a0 ≥ 32 then (some (decide (a0 ≤ 126))) else (some false)) = some r := h
  clear h
  by_cases c2 : a0 ≥ 32
  · rw [if_pos c2] at H
    have c2b0 : decide (32 ≤ a0) = true := decide_eq_true c2
    clear c2
    obtain rfl := Option.some.inj H
    go_enter Try.func100, Try.ntmps100
    go_wp2
    go_ret
    exact ⟨by first | rfl | (simp; done) | (simp [*]; done), by repeat (first | exact Drawn0.refl _ | apply Drawn0.step)⟩
  · rw [if_neg c2] at H
    have c2b0 : decide (32 ≤ a0) = false := decide_eq_false c2
    clear c2
    obtain rfl := Option.some.inj H
    go_enter Try.func100, Try.ntmps100
    go_wp2
    go_ret
    exact ⟨by first | rfl | (simp; done) | (simp [*]; done), by repeat (first | exact Drawn0.refl _ | apply Drawn0.step)⟩

/-! ### impl_printable: function 86 -/
def impl_printable.p (c : Int) : Bool := (impl_printable_1.f c).getD false
theorem impl_printable.p_is (c : Int) : impl_printable_1.f c = some (impl_printable.p c) := by
  unfold impl_printable.p impl_printable_1.f
  repeat' split
  all_goals rfl
/-- Are all bytes of the text such. -/
def impl_printable.f (a0 : ByteArray) : Option Bool := if a0.size ≤ 9223372036854775807 then some ((My.runFrom impl_printable.p a0 a0.size 0 : Int) == (a0.size : Int)) else none
theorem impl_printable.calls (a0 : ByteArray) (r : Bool) (w : World) (h : impl_printable.f a0 = some r) : Calls Try.prog 86 #[.string a0] w fun e w' => e = .returned (.bool r) ∧ Below w.heap.size w w' := by
  unfold impl_printable.f at h
  by_cases hs : a0.size ≤ 9223372036854775807
  · rw [if_pos hs] at h
    obtain rfl := Option.some.inj h
    clear h
    have hrun := impl_run.go impl_printable.p 100 a0 w (fun c W hc hb => (impl_printable_1.calls c _ W (impl_printable.p_is c)).mono fun e w' ⟨he, hd⟩ => ⟨he, My.below_drawn hb hd⟩) (fun args w => enters_of Try.func100 (by kernel_rfl) rfl args w) hs
    generalize My.runFrom impl_printable.p a0 a0.size 0 = n at hrun
    go_enter Try.func86, Try.ntmps86
    go_wp2_with (go_at_call 99; refine hrun.mono ?_; rintro e w' ⟨rfl, hb⟩)
    go_ret
    exact ⟨rfl, hb⟩
  · rw [if_neg hs] at h
    cases h

end Go.Proofs.Ytngcheicabbpoaa.QFnExactFuncsOf
