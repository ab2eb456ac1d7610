/- Functions that the law uses, as Lean functions with the same answers, and the walks that show it: by this session's program, after the form of the kit's print. No condition. -/
import Derived.Test.YtlhbcgmmgofcgaaQFnExactProgramOKx0
import Derived.Test.YtlhbcgmmgofcgaaQFnExactProgramOKx10
namespace Go.Proofs.Ytlhbcgmmgofcgaa.QFnExactProgramOK
open Go.RowKit Go.Proofs.YtlhbcgmmgofcgaaW.PrintWords Go.Proofs.YtlhbcgmmgofcgaaW.PrintLast Go.Proofs.YtlhbcgmmgofcgaaW.PrintMore
attribute [local go_sem] max2_int min2_int max_two min_two max_three min_three max_four min_four   -- for this text's walks alone
open Go.Proofs.Ytlhbcgmmgofcgaa
attribute [local go_sem high] My.binOp_gtr_flip
set_option linter.unusedVariables false
set_option linter.unusedSimpArgs false

/-! ### impl_Ins_onward: function 40 -/
mutual
def impl_Ins_onward.j0 : Nat → Int → Int → Int → Bool → Int → Int → Int → ByteArray → Int → Int → ByteArray → Int → Int → Option ((List (S80)) × Bool)
  | 0, _, _, _, _, _, _, _, _, _, _, _, _, _ => none
  | k + 1, x1, x8, x9, x29, x221000, x221001, x221002, x221003, x221004, x221005, x221006, x222000, x222001 => if x29 = true then (some (([] : List (S80)), false)) else (if x221000 = 12 then (impl_Ins_onward.j1 k x1 x221000 (x221000 == 12) x221000 x221001 x221002 x221003 x221004 x221005 x221006 x222000 x222001 (wrap64 ((wrap64 (x222000 - x8)) + x9)) x222001) else (impl_Ins_onward.j1 k x1 x221000 (x221000 == 13) x221000 x221001 x221002 x221003 x221004 x221005 x221006 x222000 x222001 (wrap64 ((wrap64 (x222000 - x8)) + x9)) x222001))
def impl_Ins_onward.j1 : Nat → Int → Int → Bool → Int → Int → Int → ByteArray → Int → Int → ByteArray → Int → Int → Int → Int → Option ((List (S80)) × Bool)
  | 0, _, _, _, _, _, _, _, _, _, _, _, _, _, _ => none
  | k + 1, x1, x40, x41, x221000, x221001, x221002, x221003, x221004, x221005, x221006, x222000, x222001, x225000, x225001 => if x41 = true then (some (([] : List (S80)), true)) else (if x40 = 6 then (some ((([(⟨x221001, (⟨x225000, x225001⟩ : S75)⟩ : S80)] : List (S80))), true)) else (if x40 = 7 then (some ((([(⟨wrap64 (x1 + 1), (⟨x225000, x225001⟩ : S75)⟩ : S80), (⟨x221001, (⟨x225000, x225001⟩ : S75)⟩ : S80)] : List (S80))), true)) else (if x40 = 8 then (impl_Ins_onward.j2 k x1 x40 (x40 == 8) x221000 x221001 x221002 x221003 x221004 x221005 x221006 x222000 x222001 x225000 x225001) else (impl_Ins_onward.j2 k x1 x40 (x40 == 9) x221000 x221001 x221002 x221003 x221004 x221005 x221006 x222000 x222001 x225000 x225001))))
def impl_Ins_onward.j2 : Nat → Int → Int → Bool → Int → Int → Int → ByteArray → Int → Int → ByteArray → Int → Int → Int → Int → Option ((List (S80)) × Bool)
  | 0, _, _, _, _, _, _, _, _, _, _, _, _, _, _ => none
  | k + 1, x1, x40, x62, x221000, x221001, x221002, x221003, x221004, x221005, x221006, x222000, x222001, x225000, x225001 => if x62 = true then (some ((([(⟨wrap64 (x1 + 1), (⟨x225000, x225001⟩ : S75)⟩ : S80), (⟨x221001, (⟨x222000, x222001⟩ : S75)⟩ : S80)] : List (S80))), true)) else (if x40 = 14 then (some ((([(⟨wrap64 (x1 + 1), (⟨x222000, wrap64 (x222001 + 1)⟩ : S75)⟩ : S80), (⟨x221001, (⟨wrap64 (x222000 + 1), x222001⟩ : S75)⟩ : S80)] : List (S80))), true)) else (if x40 = 15 then (some ((([(⟨wrap64 (x1 + 1), (⟨x225000, wrap64 (x225001 - 1)⟩ : S75)⟩ : S80)] : List (S80))), true)) else (some ((([(⟨wrap64 (x1 + 1), (⟨x225000, x225001⟩ : S75)⟩ : S80)] : List (S80))), true))))
end
def impl_Ins_onward.f (k : Nat) (a0_0 : Int) (a0_1 : Int) (a0_2 : Int) (a0_3 : ByteArray) (a0_4 : Int) (a0_5 : Int) (a0_6 : ByteArray) (a1 : Int) (a2_0 : Int) (a2_1 : Int) : Option ((List (S80)) × Bool) := (impl_Ins_needs.f k a0_0 a0_1 a0_2 a0_3 a0_4 a0_5 a0_6).bind fun bt222 => (if bt222.1 > a2_0 then (impl_Ins_onward.j0 k a1 bt222.1 bt222.2 true a0_0 a0_1 a0_2 a0_3 a0_4 a0_5 a0_6 a2_0 a2_1) else (if a0_0 = 15 then (impl_Ins_onward.j0 k a1 bt222.1 bt222.2 (a2_1 == 0) a0_0 a0_1 a0_2 a0_3 a0_4 a0_5 a0_6 a2_0 a2_1) else (impl_Ins_onward.j0 k a1 bt222.1 bt222.2 false a0_0 a0_1 a0_2 a0_3 a0_4 a0_5 a0_6 a2_0 a2_1)))
theorem impl_Ins_onward.mono_l : ∀ k, (∀ y0 y1 y2 y3 y4 y5 y6 y7 y8 y9 y10 y11 y12, LeO (impl_Ins_onward.j0 k y0 y1 y2 y3 y4 y5 y6 y7 y8 y9 y10 y11 y12) (impl_Ins_onward.j0 (k + 1) y0 y1 y2 y3 y4 y5 y6 y7 y8 y9 y10 y11 y12)) ∧ (∀ y0 y1 y2 y3 y4 y5 y6 y7 y8 y9 y10 y11 y12 y13, LeO (impl_Ins_onward.j1 k y0 y1 y2 y3 y4 y5 y6 y7 y8 y9 y10 y11 y12 y13) (impl_Ins_onward.j1 (k + 1) y0 y1 y2 y3 y4 y5 y6 y7 y8 y9 y10 y11 y12 y13)) ∧ (∀ y0 y1 y2 y3 y4 y5 y6 y7 y8 y9 y10 y11 y12 y13, LeO (impl_Ins_onward.j2 k y0 y1 y2 y3 y4 y5 y6 y7 y8 y9 y10 y11 y12 y13) (impl_Ins_onward.j2 (k + 1) y0 y1 y2 y3 y4 y5 y6 y7 y8 y9 y10 y11 y12 y13))
  | 0 => ⟨fun _ _ _ _ _ _ _ _ _ _ _ _ _ r h => by simp [impl_Ins_onward.j0] at h, fun _ _ _ _ _ _ _ _ _ _ _ _ _ _ r h => by simp [impl_Ins_onward.j1] at h, fun _ _ _ _ _ _ _ _ _ _ _ _ _ _ r h => by simp [impl_Ins_onward.j2] at h⟩
  | k + 1 => by
    obtain ⟨ih0, ih1, ih2⟩ := impl_Ins_onward.mono_l k
    refine ⟨?_, ?_, ?_⟩
    · intro y0 y1 y2 y3 y4 y5 y6 y7 y8 y9 y10 y11 y12
      unfold impl_Ins_onward.j0
      repeat' first
      | (with_reducible exact ih0 _ _ _ _ _ _ _ _ _ _ _ _ _)
      | (with_reducible exact ih1 _ _ _ _ _ _ _ _ _ _ _ _ _ _)
      | (with_reducible exact ih2 _ _ _ _ _ _ _ _ _ _ _ _ _ _)
      | (with_reducible exact impl_Ins_needs.mono _ _ _ _ _ _ _ _)
      | (with_reducible exact LeO.refl _)
      | (with_reducible exact LeO.none _)
      | (with_reducible refine LeO.ite ?_ ?_)
      | (with_reducible refine LeO.bind ?_ (fun _ => ?_))
      | exact ih0 _ _ _ _ _ _ _ _ _ _ _ _ _
      | exact ih1 _ _ _ _ _ _ _ _ _ _ _ _ _ _
      | exact ih2 _ _ _ _ _ _ _ _ _ _ _ _ _ _
      | exact impl_Ins_needs.mono _ _ _ _ _ _ _ _
      | exact LeO.none _
      | refine LeO.ite ?_ ?_
      | refine LeO.bind ?_ (fun _ => ?_)
    · intro y0 y1 y2 y3 y4 y5 y6 y7 y8 y9 y10 y11 y12 y13
      unfold impl_Ins_onward.j1
      repeat' first
      | (with_reducible exact ih0 _ _ _ _ _ _ _ _ _ _ _ _ _)
      | (with_reducible exact ih1 _ _ _ _ _ _ _ _ _ _ _ _ _ _)
      | (with_reducible exact ih2 _ _ _ _ _ _ _ _ _ _ _ _ _ _)
      | (with_reducible exact impl_Ins_needs.mono _ _ _ _ _ _ _ _)
      | (with_reducible exact LeO.refl _)
      | (with_reducible exact LeO.none _)
      | (with_reducible refine LeO.ite ?_ ?_)
      | (with_reducible refine LeO.bind ?_ (fun _ => ?_))
      | exact ih0 _ _ _ _ _ _ _ _ _ _ _ _ _
      | exact ih1 _ _ _ _ _ _ _ _ _ _ _ _ _ _
      | exact ih2 _ _ _ _ _ _ _ _ _ _ _ _ _ _
      | exact impl_Ins_needs.mono _ _ _ _ _ _ _ _
      | exact LeO.none _
      | refine LeO.ite ?_ ?_
      | refine LeO.bind ?_ (fun _ => ?_)
    · intro y0 y1 y2 y3 y4 y5 y6 y7 y8 y9 y10 y11 y12 y13
      unfold impl_Ins_onward.j2
      repeat' first
      | (with_reducible exact ih0 _ _ _ _ _ _ _ _ _ _ _ _ _)
      | (with_reducible exact ih1 _ _ _ _ _ _ _ _ _ _ _ _ _ _)
      | (with_reducible exact ih2 _ _ _ _ _ _ _ _ _ _ _ _ _ _)
      | (with_reducible exact impl_Ins_needs.mono _ _ _ _ _ _ _ _)
      | (with_reducible exact LeO.refl _)
      | (with_reducible exact LeO.none _)
      | (with_reducible refine LeO.ite ?_ ?_)
      | (with_reducible refine LeO.bind ?_ (fun _ => ?_))
      | exact ih0 _ _ _ _ _ _ _ _ _ _ _ _ _
      | exact ih1 _ _ _ _ _ _ _ _ _ _ _ _ _ _
      | exact ih2 _ _ _ _ _ _ _ _ _ _ _ _ _ _
      | exact impl_Ins_needs.mono _ _ _ _ _ _ _ _
      | exact LeO.none _
      | refine LeO.ite ?_ ?_
      | refine LeO.bind ?_ (fun _ => ?_)
theorem impl_Ins_onward.mono : ∀ a0 a1 a2 a3 a4 a5 a6 a7 a8 a9 k, LeO (impl_Ins_onward.f k a0 a1 a2 a3 a4 a5 a6 a7 a8 a9) (impl_Ins_onward.f (k + 1) a0 a1 a2 a3 a4 a5 a6 a7 a8 a9) := by
  intro a0 a1 a2 a3 a4 a5 a6 a7 a8 a9 k
  obtain ⟨ih0, ih1, ih2⟩ := impl_Ins_onward.mono_l k
  unfold impl_Ins_onward.f
  repeat' first
      | (with_reducible exact ih0 _ _ _ _ _ _ _ _ _ _ _ _ _)
      | (with_reducible exact ih1 _ _ _ _ _ _ _ _ _ _ _ _ _ _)
      | (with_reducible exact ih2 _ _ _ _ _ _ _ _ _ _ _ _ _ _)
      | (with_reducible exact impl_Ins_needs.mono _ _ _ _ _ _ _ _)
      | (with_reducible exact LeO.refl _)
      | (with_reducible exact LeO.none _)
      | (with_reducible refine LeO.ite ?_ ?_)
      | (with_reducible refine LeO.bind ?_ (fun _ => ?_))
      | exact ih0 _ _ _ _ _ _ _ _ _ _ _ _ _
      | exact ih1 _ _ _ _ _ _ _ _ _ _ _ _ _ _
      | exact ih2 _ _ _ _ _ _ _ _ _ _ _ _ _ _
      | exact impl_Ins_needs.mono _ _ _ _ _ _ _ _
      | exact LeO.none _
      | refine LeO.ite ?_ ?_
      | refine LeO.bind ?_ (fun _ => ?_)
set_option maxHeartbeats 8000000 in
set_option maxRecDepth 100000 in
theorem impl_Ins_onward.calls (k : Nat) (a0_0 : Int) (a0_1 : Int) (a0_2 : Int) (a0_3 : ByteArray) (a0_4 : Int) (a0_5 : Int) (a0_6 : ByteArray) (a1 : Int) (a2_0 : Int) (a2_1 : Int) (r1 : List (S80)) (r2 : Bool) (w : World) (h : impl_Ins_onward.f k a0_0 a0_1 a0_2 a0_3 a0_4 a0_5 a0_6 a1 a2_0 a2_1 = some (r1, r2)) :
    Calls Try.prog 40 #[.agg #[.int .i64 a0_0, .int .i64 a0_1, .int .i64 a0_2, .string a0_3, .int .i64 a0_4, .int .i64 a0_5, .string a0_6], .int .i64 a1, .agg #[.int .i64 a2_0, .int .i64 a2_1]] w fun e w' => ∃ v0_ : Value, e = .returned (.tuple #[v0_, .bool r2]) ∧ Kd.R k80 80 w' w.heap.size (fun _ => True) v0_ r1 ∧ Below w.heap.size w w' := by
  have hu61 := Try.underlying61
  have hu75 := Try.underlying75
  have hu80 := Try.underlying80
  have HB := Aside0.mk (Below.refl w.heap.size w)
  have H : ((impl_Ins_needs.f k a0_0 a0_1 a0_2 a0_3 a0_4 a0_5 a0_6).bind fun bt222 => (if bt222.1 > a2_0 then (impl_Ins_onward.j0 k a1 bt222.1 bt222.2 true a0_0 a0_1 a0_2 a0_3 a0_4 a0_5 a0_6 a2_0 a2_1) else (if a0_0 = 15 then (impl_Ins_onward.j0 k a1 bt222.1 bt222.2 (a2_1 == 0) a0_0 a0_1 a0_2 a0_3 a0_4 a0_5 a0_6 a2_0 a2_1) else (impl_Ins_onward.j0 k a1 bt222.1 bt222.2 false a0_0 a0_1 a0_2 a0_3 a0_4 a0_5 a0_6 a2_0 a2_1)))) = some (r1, r2) := h
  clear h
  replace H := Option.bind_eq_some_iff.mp H
  obtain ⟨⟨t222, t223⟩, A40, H⟩ := H
  replace H : (if t222 > a2_0 then (impl_Ins_onward.j0 k a1 t222 t223 true a0_0 a0_1 a0_2 a0_3 a0_4 a0_5 a0_6 a2_0 a2_1) else (if a0_0 = 15 then (impl_Ins_onward.j0 k a1 t222 t223 (a2_1 == 0) a0_0 a0_1 a0_2 a0_3 a0_4 a0_5 a0_6 a2_0 a2_1) else (impl_Ins_onward.j0 k a1 t222 t223 false a0_0 a0_1 a0_2 a0_3 a0_4 a0_5 a0_6 a2_0 a2_1))) = some (r1, r2) := H
  have A4 := Aside0.mk A40
  clear A40
  have HC5 := Aside0.mk H
  clear H
  go_enter Try.func40, Try.ntmps40
  go_upto_region 2 with (first | ((with_reducible refine gate_dst (N := 3) rfl ?_); refine box_event ?hg (N := 3) ?hd (cs := #[.int .i64 a0_0, .int .i64 a0_1, .int .i64 a0_2, .string a0_3, .int .i64 a0_4, .int .i64 a0_5, .string a0_6]) (t := 61) ?hr ?_; (case hd => rfl); (case hg => rfl); (case hr => first | (go_simp; done) | (go_simp; rfl)); intro gb220 hg w6 hbox hb; have n0_ := Aside0.mk (below_step (by repeat (first | (with_reducible first | exact HB.out | apply below_alloc | apply pw_below_drewN | apply below_drew1) | exact HB.out)) hb); have n1_ := Aside0.mk (hbox); have n2_ := Aside0.mk ((by rw [hg]; exact (below_size (by repeat (first | (with_reducible first | exact HB.out | apply below_alloc | apply pw_below_drewN | apply below_drew1) | exact HB.out))) : w.heap.size ≤ gb220)); have n3_ := Aside0.mk ((by rw [hg]; exact (below_size (by repeat (first | (with_reducible first | exact HB.out | apply below_alloc | apply pw_below_drewN | apply below_drew1) | exact HB.out))) : w.heap.size ≤ gb220)); clear HB; have HB := n0_; have BK220 := n1_; have GW220 := n2_; have GE220 := n3_; clear n0_ n1_ n2_ n3_; clear hb hbox hg) | ((with_reducible refine gate_dst (N := 5) rfl ?_); refine box_event ?hg (N := 5) ?hd (cs := #[.int .i64 a2_0, .int .i64 a2_1]) (t := 75) ?hr ?_; (case hd => rfl); (case hg => rfl); (case hr => first | (go_simp; done) | (go_simp; rfl)); intro gb221 hg w7 hbox hb; have n0_ := Aside0.mk (blk_below (g := gb220) (o := .cells #[.int .i64 a0_0, .int .i64 a0_1, .int .i64 a0_2, .string a0_3, .int .i64 a0_4, .int .i64 a0_5, .string a0_6] 61 (0, 0)) (by (with_reducible repeat (first | refine blk_drewN ?_ _ | refine blk_drew ?_ | refine blk_alloc ?_ _)); exact BK220.out) hb); have n1_ := Aside0.mk (below_step (by repeat (first | (with_reducible first | exact HB.out | apply below_alloc | apply pw_below_drewN | apply below_drew1 | refine below_set ?_ GE220.out) | exact HB.out)) hb); have n2_ := Aside0.mk (hbox); have n3_ := Aside0.mk ((by rw [hg]; exact (below_size (by repeat (first | (with_reducible first | exact HB.out | apply below_alloc | apply pw_below_drewN | apply below_drew1 | refine below_set ?_ GE220.out) | exact HB.out))) : w.heap.size ≤ gb221)); have n4_ := Aside0.mk ((by rw [hg]; exact (below_size (by repeat (first | (with_reducible first | exact HB.out | apply below_alloc | apply pw_below_drewN | apply below_drew1 | refine below_set ?_ GE220.out) | exact HB.out))) : w.heap.size ≤ gb221)); have n5_ := Aside0.mk ((by rw [hg]; exact Nat.ne_of_lt (blk_lt (g := gb220) (o := .cells #[.int .i64 a0_0, .int .i64 a0_1, .int .i64 a0_2, .string a0_3, .int .i64 a0_4, .int .i64 a0_5, .string a0_6] 61 (0, 0)) (by (with_reducible repeat (first | refine blk_drewN ?_ _ | refine blk_drew ?_ | refine blk_alloc ?_ _)); exact BK220.out)) : gb220 ≠ gb221)); have n6_ := Aside0.mk ((by rw [hg]; exact Nat.ne_of_gt (blk_lt (g := gb220) (o := .cells #[.int .i64 a0_0, .int .i64 a0_1, .int .i64 a0_2, .string a0_3, .int .i64 a0_4, .int .i64 a0_5, .string a0_6] 61 (0, 0)) (by (with_reducible repeat (first | refine blk_drewN ?_ _ | refine blk_drew ?_ | refine blk_alloc ?_ _)); exact BK220.out)) : gb221 ≠ gb220)); clear BK220; clear HB; have BK220 := n0_; have HB := n1_; have BK221 := n2_; have GW221 := n3_; have GE221 := n4_; have NB220_221 := n5_; have NB221_220 := n6_; clear n0_ n1_ n2_ n3_ n4_ n5_ n6_; clear hb hbox hg; have hnb8 := NB220_221.out; have hnc8 := NB221_220.out; have hcz9_0 : w7.cell? ⟨gb220, 0, none⟩ = some (.int .i64 a0_0) := (blk_cell BK220.out 0).trans rfl; have hcz9_1 : w7.cell? ⟨gb220, 1, none⟩ = some (.int .i64 a0_1) := (blk_cell BK220.out 1).trans rfl; have hcz9_2 : w7.cell? ⟨gb220, 2, none⟩ = some (.int .i64 a0_2) := (blk_cell BK220.out 2).trans rfl; have hcz9_3 : w7.cell? ⟨gb220, 3, none⟩ = some (.string a0_3) := (blk_cell BK220.out 3).trans rfl; have hcz9_4 : w7.cell? ⟨gb220, 4, none⟩ = some (.int .i64 a0_4) := (blk_cell BK220.out 4).trans rfl; have hcz9_5 : w7.cell? ⟨gb220, 5, none⟩ = some (.int .i64 a0_5) := (blk_cell BK220.out 5).trans rfl; have hcz9_6 : w7.cell? ⟨gb220, 6, none⟩ = some (.string a0_6) := (blk_cell BK220.out 6).trans rfl; have hfz9_0 := blk_frozen BK220.out 0; have hfz9_1 := blk_frozen BK220.out 1; have hfz9_2 := blk_frozen BK220.out 2; have hfz9_3 := blk_frozen BK220.out 3; have hfz9_4 := blk_frozen BK220.out 4; have hfz9_5 := blk_frozen BK220.out 5; have hfz9_6 := blk_frozen BK220.out 6) | ((with_reducible refine gate_callee (f := 69) rfl ?_); refine goesL_ (some 13) rfl rfl Try.func69 (by kernel_rfl) rfl #[.agg #[.int .i64 a0_0, .int .i64 a0_1, .int .i64 a0_2, .string a0_3, .int .i64 a0_4, .int .i64 a0_5, .string a0_6]] rfl (by (try simp only [List.map_toArray, List.map_cons, List.map_nil]); first | done | rfl | (simp only [List.length_drop, List.length_take]; rfl)) ?_; (with_reducible refine (impl_Ins_needs.calls k a0_0 a0_1 a0_2 a0_3 a0_4 a0_5 a0_6 t222 t223 _ A4.out).mono ?_); rintro e w10 ⟨rfl, hb⟩; refine ⟨_, rfl, ?_⟩; have n0_ := Aside0.mk (blk_below (g := gb220) (o := .cells #[.int .i64 a0_0, .int .i64 a0_1, .int .i64 a0_2, .string a0_3, .int .i64 a0_4, .int .i64 a0_5, .string a0_6] 61 (0, 0)) (by (with_reducible repeat (first | refine blk_drewN ?_ _ | refine blk_drew ?_ | refine blk_alloc ?_ _)); exact BK220.out) hb); have n1_ := Aside0.mk (blk_below (g := gb221) (o := .cells #[.int .i64 a2_0, .int .i64 a2_1] 75 (0, 0)) (by (with_reducible repeat (first | refine blk_drewN ?_ _ | refine blk_drew ?_ | refine blk_alloc ?_ _)); exact BK221.out) hb); have n2_ := Aside0.mk (below_step (by repeat (first | (with_reducible first | exact HB.out | apply below_alloc | apply pw_below_drewN | apply below_drew1 | refine below_set ?_ GE220.out | refine below_set ?_ GE221.out) | exact HB.out)) hb); clear BK220; clear BK221; clear HB; have BK220 := n0_; have BK221 := n1_; have HB := n2_; clear n0_ n1_ n2_; (try clear hb); (try clear hb2); (try clear hk); (try clear hi)))
  (try simp only [Act.put, List.setIfInBounds_toArray, List.set_cons_zero, List.set_cons_succ])
  go_cut [29] (fun v29 wc => ∃ (kq : Nat) (x29_4 : Bool), v29 = .bool x29_4 ∧ Aside0 (impl_Ins_onward.j0 kq a1 t222 t223 x29_4 a0_0 a0_1 a0_2 a0_3 a0_4 a0_5 a0_6 a2_0 a2_1 = some (r1, r2)) ∧ Aside0 (kq ≤ k) ∧ Aside0 (wc.heap[gb220]? = some (.cells #[.int .i64 a0_0, .int .i64 a0_1, .int .i64 a0_2, .string a0_3, .int .i64 a0_4, .int .i64 a0_5, .string a0_6] 61 (0, 0))) ∧ Aside0 (wc.heap[gb221]? = some (.cells #[.int .i64 a2_0, .int .i64 a2_1] 75 (0, 0))) ∧ Aside0 (Below w.heap.size w wc))
  case first =>
    have H := HC5.out
    clear HC5
    by_cases c11 : t222 > a2_0
    · rw [if_pos c11] at H
      have c11b0 : decide (a2_0 < t222) = true := decide_eq_true c11
      clear c11
      (first | rw [c11b0] | (simp only [i64_w, i32_w]; rw [c11b0]) | skip)
      have H' := Aside0.mk H
      clear H
      have hnb12 := NB221_220.out
      have hnc12 := NB220_221.out
      have hcz13_0 : w10.cell? ⟨gb221, 0, none⟩ = some (.int .i64 a2_0) := (blk_cell BK221.out 0).trans rfl
      have hcz13_1 : w10.cell? ⟨gb221, 1, none⟩ = some (.int .i64 a2_1) := (blk_cell BK221.out 1).trans rfl
      have hfz13_0 := blk_frozen BK221.out 0
      have hfz13_1 := blk_frozen BK221.out 1
      go_wp2
      go_meet
      case rel => exact ⟨_, (true), (by first | rfl | (simp; done) | (simp [*]; done)), H', ⟨by first | omega | exact Nat.le_refl _⟩, ⟨by (with_reducible repeat (first | refine blk_drewN ?_ _ | refine blk_drew ?_ | refine blk_alloc ?_ _)); exact BK220.out⟩, ⟨by (with_reducible repeat (first | refine blk_drewN ?_ _ | refine blk_drew ?_ | refine blk_alloc ?_ _)); exact BK221.out⟩, ⟨by repeat (first | (with_reducible first | exact HB.out | apply below_alloc | apply pw_below_drewN | apply below_drew1 | refine below_set ?_ GE220.out | refine below_set ?_ GE221.out) | exact HB.out)⟩⟩
    · rw [if_neg c11] at H
      have c11b0 : decide (a2_0 < t222) = false := decide_eq_false c11
      clear c11
      (first | rw [c11b0] | (simp only [i64_w, i32_w]; rw [c11b0]) | skip)
      by_cases c14 : a0_0 = 15
      · rw [if_pos c14] at H
        have c14b0 : (a0_0 == 15) = true := beq_iff_eq.mpr c14
        have c14b1 : (a0_0 != 15) = false := bne_eq_false_iff_eq.mpr c14
        clear c14
        have H' := Aside0.mk H
        clear H
        have hnb15 := NB221_220.out
        have hnc15 := NB220_221.out
        have hcz16_0 : w10.cell? ⟨gb221, 0, none⟩ = some (.int .i64 a2_0) := (blk_cell BK221.out 0).trans rfl
        have hcz16_1 : w10.cell? ⟨gb221, 1, none⟩ = some (.int .i64 a2_1) := (blk_cell BK221.out 1).trans rfl
        have hfz16_0 := blk_frozen BK221.out 0
        have hfz16_1 := blk_frozen BK221.out 1
        have hcz17_0 : w10.cell? ⟨gb220, 0, none⟩ = some (.int .i64 a0_0) := (blk_cell BK220.out 0).trans rfl
        have hcz17_1 : w10.cell? ⟨gb220, 1, none⟩ = some (.int .i64 a0_1) := (blk_cell BK220.out 1).trans rfl
        have hcz17_2 : w10.cell? ⟨gb220, 2, none⟩ = some (.int .i64 a0_2) := (blk_cell BK220.out 2).trans rfl
        have hcz17_3 : w10.cell? ⟨gb220, 3, none⟩ = some (.string a0_3) := (blk_cell BK220.out 3).trans rfl
        have hcz17_4 : w10.cell? ⟨gb220, 4, none⟩ = some (.int .i64 a0_4) := (blk_cell BK220.out 4).trans rfl
        have hcz17_5 : w10.cell? ⟨gb220, 5, none⟩ = some (.int .i64 a0_5) := (blk_cell BK220.out 5).trans rfl
        have hcz17_6 : w10.cell? ⟨gb220, 6, none⟩ = some (.string a0_6) := (blk_cell BK220.out 6).trans rfl
        have hfz17_0 := blk_frozen BK220.out 0
        have hfz17_1 := blk_frozen BK220.out 1
        have hfz17_2 := blk_frozen BK220.out 2
        have hfz17_3 := blk_frozen BK220.out 3
        have hfz17_4 := blk_frozen BK220.out 4
        have hfz17_5 := blk_frozen BK220.out 5
        have hfz17_6 := blk_frozen BK220.out 6
        go_wp2
        go_meet
        case rel => exact ⟨_, ((a2_1 == 0)), (by first | rfl | (simp; done) | (simp [*]; done)), H', ⟨by first | omega | exact Nat.le_refl _⟩, ⟨by (with_reducible repeat (first | refine blk_drewN ?_ _ | refine blk_drew ?_ | refine blk_alloc ?_ _)); exact BK220.out⟩, ⟨by (with_reducible repeat (first | refine blk_drewN ?_ _ | refine blk_drew ?_ | refine blk_alloc ?_ _)); exact BK221.out⟩, ⟨by repeat (first | (with_reducible first | exact HB.out | apply below_alloc | apply pw_below_drewN | apply below_drew1 | refine below_set ?_ GE220.out | refine below_set ?_ GE221.out) | exact HB.out)⟩⟩
      · rw [if_neg c14] at H
        have c14b0 : (a0_0 == 15) = false := beq_eq_false_iff_ne.mpr c14
        have c14b1 : (a0_0 != 15) = true := bne_iff_ne.mpr c14
        have H' := Aside0.mk H
        clear H
        have hnb18 := NB221_220.out
        have hnc18 := NB220_221.out
        have hcz19_0 : w10.cell? ⟨gb221, 0, none⟩ = some (.int .i64 a2_0) := (blk_cell BK221.out 0).trans rfl
        have hcz19_1 : w10.cell? ⟨gb221, 1, none⟩ = some (.int .i64 a2_1) := (blk_cell BK221.out 1).trans rfl
        have hfz19_0 := blk_frozen BK221.out 0
        have hfz19_1 := blk_frozen BK221.out 1
        have hcz20_0 : w10.cell? ⟨gb220, 0, none⟩ = some (.int .i64 a0_0) := (blk_cell BK220.out 0).trans rfl
        have hcz20_1 : w10.cell? ⟨gb220, 1, none⟩ = some (.int .i64 a0_1) := (blk_cell BK220.out 1).trans rfl
        have hcz20_2 : w10.cell? ⟨gb220, 2, none⟩ = some (.int .i64 a0_2) := (blk_cell BK220.out 2).trans rfl
        have hcz20_3 : w10.cell? ⟨gb220, 3, none⟩ = some (.string a0_3) := (blk_cell BK220.out 3).trans rfl
        have hcz20_4 : w10.cell? ⟨gb220, 4, none⟩ = some (.int .i64 a0_4) := (blk_cell BK220.out 4).trans rfl
        have hcz20_5 : w10.cell? ⟨gb220, 5, none⟩ = some (.int .i64 a0_5) := (blk_cell BK220.out 5).trans rfl
        have hcz20_6 : w10.cell? ⟨gb220, 6, none⟩ = some (.string a0_6) := (blk_cell BK220.out 6).trans rfl
        have hfz20_0 := blk_frozen BK220.out 0
        have hfz20_1 := blk_frozen BK220.out 1
        have hfz20_2 := blk_frozen BK220.out 2
        have hfz20_3 := blk_frozen BK220.out 3
        have hfz20_4 := blk_frozen BK220.out 4
        have hfz20_5 := blk_frozen BK220.out 5
        have hfz20_6 := blk_frozen BK220.out 6
        go_wp2
        go_meet
        case rel => exact ⟨_, (false), (by first | rfl | (simp; done) | (simp [*]; done)), H', ⟨by first | omega | exact Nat.le_refl _⟩, ⟨by (with_reducible repeat (first | refine blk_drewN ?_ _ | refine blk_drew ?_ | refine blk_alloc ?_ _)); exact BK220.out⟩, ⟨by (with_reducible repeat (first | refine blk_drewN ?_ _ | refine blk_drew ?_ | refine blk_alloc ?_ _)); exact BK221.out⟩, ⟨by repeat (first | (with_reducible first | exact HB.out | apply below_alloc | apply pw_below_drewN | apply below_drew1 | refine below_set ?_ GE220.out | refine below_set ?_ GE221.out) | exact HB.out)⟩⟩
  case rest =>
    clear HC5
    try clear c1
    try clear p2
    try clear c4
    try clear c6
    try clear c8
    try clear c11
    try clear c11b0
    try clear c12
    try clear c14
    try clear c14b0
    try clear c14b1
    try clear c15
    try clear c18
    try clear hcz13_0
    try clear hcz13_1
    try clear hcz16_0
    try clear hcz16_1
    try clear hcz17_0
    try clear hcz17_1
    try clear hcz17_2
    try clear hcz17_3
    try clear hcz17_4
    try clear hcz17_5
    try clear hcz17_6
    try clear hcz19_0
    try clear hcz19_1
    try clear hcz20_0
    try clear hcz20_1
    try clear hcz20_2
    try clear hcz20_3
    try clear hcz20_4
    try clear hcz20_5
    try clear hcz20_6
    try clear hcz9_0
    try clear hcz9_1
    try clear hcz9_2
    try clear hcz9_3
    try clear hcz9_4
    try clear hcz9_5
    try clear hcz9_6
    try clear hfz13_0
    try clear hfz13_1
    try clear hfz16_0
    try clear hfz16_1
    try clear hfz17_0
    try clear hfz17_1
    try clear hfz17_2
    try clear hfz17_3
    try clear hfz17_4
    try clear hfz17_5
    try clear hfz17_6
    try clear hfz19_0
    try clear hfz19_1
    try clear hfz20_0
    try clear hfz20_1
    try clear hfz20_2
    try clear hfz20_3
    try clear hfz20_4
    try clear hfz20_5
    try clear hfz20_6
    try clear hfz9_0
    try clear hfz9_1
    try clear hfz9_2
    try clear hfz9_3
    try clear hfz9_4
    try clear hfz9_5
    try clear hfz9_6
    obtain ⟨kq, x29_4, rfl, HA, HJ4, BK220, BK221, HB⟩ := hcut
    cases kq with
    | zero => exact absurd HA.out (by simp [impl_Ins_onward.j0])
    | succ kj4 =>
      have H := HA.out
      clear HA
      simp only [impl_Ins_onward.j0] at H
      by_cases c21 : x29_4 = true
      · subst c21
        have H1 : (some (([] : List (S80)), false)) = some (r1, r2) := by rw [if_pos rfl] at H; exact H
        clear H
        have H := H1
        clear H1
        simp only [Option.some.injEq, Prod.mk.injEq] at H
        obtain ⟨rfl, rfl⟩ := H
        go_wp2
        go_ret2
        exact ⟨_, by first | rfl | exact My.ret_isEmpty _ | (simp [errW_none, errW_some] <;> rfl) | (simp [*, errW_none, errW_some] <;> rfl), by first | exact Kd.R_nil _ _ _ _ _ | exact Kd.N_nil _ _ _ _ _ | exact Kd.V_nil _ _ _ _ _ | exact Kd.Q_nil _ _ _ _ _ | exact Kd.S_nil _ _ _ _ _, by repeat (first | (with_reducible first | exact HB.out | apply below_alloc | apply pw_below_drewN | apply below_drew1 | refine below_set ?_ GE220.out | refine below_set ?_ GE221.out) | exact HB.out)⟩
      · replace c21 := Bool.eq_false_iff.mpr c21
        subst c21
        have H1 : (if a0_0 = 12 then (impl_Ins_onward.j1 kj4 a1 a0_0 (a0_0 == 12) a0_0 a0_1 a0_2 a0_3 a0_4 a0_5 a0_6 a2_0 a2_1 (wrap64 ((wrap64 (a2_0 - t222)) + t223)) a2_1) else (impl_Ins_onward.j1 kj4 a1 a0_0 (a0_0 == 13) a0_0 a0_1 a0_2 a0_3 a0_4 a0_5 a0_6 a2_0 a2_1 (wrap64 ((wrap64 (a2_0 - t222)) + t223)) a2_1)) = some (r1, r2) := by rw [if_neg (show ¬ (false = true) by decide)] at H; exact H
        clear H
        have H := H1
        clear H1
        have HC22 := Aside0.mk H
        clear H
        have hnb23 := NB221_220.out
        have hnc23 := NB220_221.out
        have hcz24_0 : wc.cell? ⟨gb221, 0, none⟩ = some (.int .i64 a2_0) := (blk_cell BK221.out 0).trans rfl
        have hcz24_1 : wc.cell? ⟨gb221, 1, none⟩ = some (.int .i64 a2_1) := (blk_cell BK221.out 1).trans rfl
        have hfz24_0 := blk_frozen BK221.out 0
        have hfz24_1 := blk_frozen BK221.out 1
        go_upto_if 41 with (first | ((with_reducible refine gate_dst (N := 10) rfl ?_); refine box_event ?hg (N := 10) ?hd (cs := #[.int .i64 0, .int .i64 0]) (t := 75) ?hr ?_; (case hd => rfl); (case hg => rfl); (case hr => first | (go_simp; done) | (go_simp; rfl)); intro gb224 hg w25 hbox hb; have n0_ := Aside0.mk (blk_below (g := gb220) (o := .cells #[.int .i64 a0_0, .int .i64 a0_1, .int .i64 a0_2, .string a0_3, .int .i64 a0_4, .int .i64 a0_5, .string a0_6] 61 (0, 0)) (by (with_reducible repeat (first | refine blk_drewN ?_ _ | refine blk_drew ?_ | refine blk_alloc ?_ _)); exact BK220.out) hb); have n1_ := Aside0.mk (blk_below (g := gb221) (o := .cells #[.int .i64 a2_0, .int .i64 a2_1] 75 (0, 0)) (by (with_reducible repeat (first | refine blk_drewN ?_ _ | refine blk_drew ?_ | refine blk_alloc ?_ _)); exact BK221.out) hb); have n2_ := Aside0.mk (below_step (by repeat (first | (with_reducible first | exact HB.out | apply below_alloc | apply pw_below_drewN | apply below_drew1 | refine below_set ?_ GE220.out | refine below_set ?_ GE221.out) | exact HB.out)) hb); have n3_ := Aside0.mk (hbox); have n4_ := Aside0.mk ((by rw [hg]; exact (below_size (by repeat (first | (with_reducible first | exact HB.out | apply below_alloc | apply pw_below_drewN | apply below_drew1 | refine below_set ?_ GE220.out | refine below_set ?_ GE221.out) | exact HB.out))) : w.heap.size ≤ gb224)); have n5_ := Aside0.mk ((by rw [hg]; exact (below_size (by repeat (first | (with_reducible first | exact HB.out | apply below_alloc | apply pw_below_drewN | apply below_drew1 | refine below_set ?_ GE220.out | refine below_set ?_ GE221.out) | exact HB.out))) : w.heap.size ≤ gb224)); have n6_ := Aside0.mk ((by rw [hg]; exact Nat.ne_of_lt (blk_lt (g := gb220) (o := .cells #[.int .i64 a0_0, .int .i64 a0_1, .int .i64 a0_2, .string a0_3, .int .i64 a0_4, .int .i64 a0_5, .string a0_6] 61 (0, 0)) (by (with_reducible repeat (first | refine blk_drewN ?_ _ | refine blk_drew ?_ | refine blk_alloc ?_ _)); exact BK220.out)) : gb220 ≠ gb224)); have n7_ := Aside0.mk ((by rw [hg]; exact Nat.ne_of_gt (blk_lt (g := gb220) (o := .cells #[.int .i64 a0_0, .int .i64 a0_1, .int .i64 a0_2, .string a0_3, .int .i64 a0_4, .int .i64 a0_5, .string a0_6] 61 (0, 0)) (by (with_reducible repeat (first | refine blk_drewN ?_ _ | refine blk_drew ?_ | refine blk_alloc ?_ _)); exact BK220.out)) : gb224 ≠ gb220)); have n8_ := Aside0.mk ((by rw [hg]; exact Nat.ne_of_lt (blk_lt (g := gb221) (o := .cells #[.int .i64 a2_0, .int .i64 a2_1] 75 (0, 0)) (by (with_reducible repeat (first | refine blk_drewN ?_ _ | refine blk_drew ?_ | refine blk_alloc ?_ _)); exact BK221.out)) : gb221 ≠ gb224)); have n9_ := Aside0.mk ((by rw [hg]; exact Nat.ne_of_gt (blk_lt (g := gb221) (o := .cells #[.int .i64 a2_0, .int .i64 a2_1] 75 (0, 0)) (by (with_reducible repeat (first | refine blk_drewN ?_ _ | refine blk_drew ?_ | refine blk_alloc ?_ _)); exact BK221.out)) : gb224 ≠ gb221)); clear BK220; clear BK221; clear HB; have BK220 := n0_; have BK221 := n1_; have HB := n2_; have BK224 := n3_; have GW224 := n4_; have GE224 := n5_; have NB220_224 := n6_; have NB224_220 := n7_; have NB221_224 := n8_; have NB224_221 := n9_; clear n0_ n1_ n2_ n3_ n4_ n5_ n6_ n7_ n8_ n9_; clear hb hbox hg; have hnb26 := NB224_220.out; have hnc26 := NB220_224.out; have hnb27 := NB224_221.out; have hnc27 := NB221_224.out; have hcz28_0 : w25.cell? ⟨gb224, 0, none⟩ = some (.int .i64 0) := (blk_cell BK224.out 0).trans rfl; have hcz28_1 : w25.cell? ⟨gb224, 1, none⟩ = some (.int .i64 0) := (blk_cell BK224.out 1).trans rfl; have hfz28_0 := blk_frozen BK224.out 0; have hfz28_1 := blk_frozen BK224.out 1; have hcz29_0 : w25.cell? ⟨gb220, 0, none⟩ = some (.int .i64 a0_0) := (blk_cell BK220.out 0).trans rfl; have hcz29_1 : w25.cell? ⟨gb220, 1, none⟩ = some (.int .i64 a0_1) := (blk_cell BK220.out 1).trans rfl; have hcz29_2 : w25.cell? ⟨gb220, 2, none⟩ = some (.int .i64 a0_2) := (blk_cell BK220.out 2).trans rfl; have hcz29_3 : w25.cell? ⟨gb220, 3, none⟩ = some (.string a0_3) := (blk_cell BK220.out 3).trans rfl; have hcz29_4 : w25.cell? ⟨gb220, 4, none⟩ = some (.int .i64 a0_4) := (blk_cell BK220.out 4).trans rfl; have hcz29_5 : w25.cell? ⟨gb220, 5, none⟩ = some (.int .i64 a0_5) := (blk_cell BK220.out 5).trans rfl; have hcz29_6 : w25.cell? ⟨gb220, 6, none⟩ = some (.string a0_6) := (blk_cell BK220.out 6).trans rfl; have hfz29_0 := blk_frozen BK220.out 0; have hfz29_1 := blk_frozen BK220.out 1; have hfz29_2 := blk_frozen BK220.out 2; have hfz29_3 := blk_frozen BK220.out 3; have hfz29_4 := blk_frozen BK220.out 4; have hfz29_5 := blk_frozen BK220.out 5; have hfz29_6 := blk_frozen BK220.out 6))
        (try simp only [Act.put, List.setIfInBounds_toArray, List.set_cons_zero, List.set_cons_succ])
        go_cut [41] (fun v41 wc => ∃ (kq : Nat) (x41_21 : Bool), v41 = .bool x41_21 ∧ Aside0 (impl_Ins_onward.j1 kq a1 a0_0 x41_21 a0_0 a0_1 a0_2 a0_3 a0_4 a0_5 a0_6 a2_0 a2_1 (wrap64 ((wrap64 (a2_0 - t222)) + t223)) a2_1 = some (r1, r2)) ∧ Aside0 (kq ≤ kj4) ∧ Aside0 (wc.heap[gb220]? = some (.cells #[.int .i64 a0_0, .int .i64 a0_1, .int .i64 a0_2, .string a0_3, .int .i64 a0_4, .int .i64 a0_5, .string a0_6] 61 (0, 0))) ∧ Aside0 (wc.heap[gb221]? = some (.cells #[.int .i64 a2_0, .int .i64 a2_1] 75 (0, 0))) ∧ Aside0 (wc.heap[gb224]? = some (.cells #[.int .i64 (wrap64 ((wrap64 (a2_0 - t222)) + t223)), .int .i64 a2_1] 75 (0, 0))) ∧ Aside0 (Below w.heap.size w wc))
        case first =>
          have H := HC22.out
          clear HC22
          by_cases c30 : a0_0 = 12
          · rw [if_pos c30] at H
            have c30b0 : (a0_0 == 12) = true := beq_iff_eq.mpr c30
            have c30b1 : (a0_0 != 12) = false := bne_eq_false_iff_eq.mpr c30
            clear c30
            (first | rw [c30b0] | (simp only [i64_w, i32_w]; rw [c30b0]) | skip)
            have H' := Aside0.mk H
            clear H
            go_wp2
            go_meet
            case rel => exact ⟨_, ((a0_0 == 12)), (by first | rfl | (simp; done) | (simp [*]; done)), H', ⟨by have := HJ4.out; first | omega | exact Nat.le_refl _⟩, ⟨by (with_reducible repeat (first | refine blk_drewN ?_ _ | refine blk_drew ?_ | refine blk_alloc ?_ _)); refine blk_far ?_ NB220_224.out _; (with_reducible repeat (first | refine blk_drewN ?_ _ | refine blk_drew ?_ | refine blk_alloc ?_ _)); refine blk_far ?_ NB220_224.out _; (with_reducible repeat (first | refine blk_drewN ?_ _ | refine blk_drew ?_ | refine blk_alloc ?_ _)); exact BK220.out⟩, ⟨by (with_reducible repeat (first | refine blk_drewN ?_ _ | refine blk_drew ?_ | refine blk_alloc ?_ _)); refine blk_far ?_ NB221_224.out _; (with_reducible repeat (first | refine blk_drewN ?_ _ | refine blk_drew ?_ | refine blk_alloc ?_ _)); refine blk_far ?_ NB221_224.out _; (with_reducible repeat (first | refine blk_drewN ?_ _ | refine blk_drew ?_ | refine blk_alloc ?_ _)); exact BK221.out⟩, ⟨by (with_reducible repeat (first | refine blk_drewN ?_ _ | refine blk_drew ?_ | refine blk_alloc ?_ _)); refine blk_put (cs := #[.int .i64 (wrap64 ((wrap64 (a2_0 - t222)) + t223)), .int .i64 0]) ?_ 1 _ rfl; (with_reducible repeat (first | refine blk_drewN ?_ _ | refine blk_drew ?_ | refine blk_alloc ?_ _)); refine blk_put (cs := #[.int .i64 0, .int .i64 0]) ?_ 0 _ rfl; (with_reducible repeat (first | refine blk_drewN ?_ _ | refine blk_drew ?_ | refine blk_alloc ?_ _)); exact BK224.out⟩, ⟨by repeat (first | (with_reducible first | exact HB.out | apply below_alloc | apply pw_below_drewN | apply below_drew1 | refine below_set ?_ GE220.out | refine below_set ?_ GE221.out | refine below_set ?_ GE224.out) | exact HB.out)⟩⟩
          · rw [if_neg c30] at H
            have c30b0 : (a0_0 == 12) = false := beq_eq_false_iff_ne.mpr c30
            have c30b1 : (a0_0 != 12) = true := bne_iff_ne.mpr c30
            (first | rw [c30b0] | (simp only [i64_w, i32_w]; rw [c30b0]) | skip)
            have H' := Aside0.mk H
            clear H
            go_wp2
            go_meet
            case rel => exact ⟨_, ((a0_0 == 13)), (by first | rfl | (simp; done) | (simp [*]; done)), H', ⟨by have := HJ4.out; first | omega | exact Nat.le_refl _⟩, ⟨by (with_reducible repeat (first | refine blk_drewN ?_ _ | refine blk_drew ?_ | refine blk_alloc ?_ _)); refine blk_far ?_ NB220_224.out _; (with_reducible repeat (first | refine blk_drewN ?_ _ | refine blk_drew ?_ | refine blk_alloc ?_ _)); refine blk_far ?_ NB220_224.out _; (with_reducible repeat (first | refine blk_drewN ?_ _ | refine blk_drew ?_ | refine blk_alloc ?_ _)); exact BK220.out⟩, ⟨by (with_reducible repeat (first | refine blk_drewN ?_ _ | refine blk_drew ?_ | refine blk_alloc ?_ _)); refine blk_far ?_ NB221_224.out _; (with_reducible repeat (first | refine blk_drewN ?_ _ | refine blk_drew ?_ | refine blk_alloc ?_ _)); refine blk_far ?_ NB221_224.out _; (with_reducible repeat (first | refine blk_drewN ?_ _ | refine blk_drew ?_ | refine blk_alloc ?_ _)); exact BK221.out⟩, ⟨by (with_reducible repeat (first | refine blk_drewN ?_ _ | refine blk_drew ?_ | refine blk_alloc ?_ _)); refine blk_put (cs := #[.int .i64 (wrap64 ((wrap64 (a2_0 - t222)) + t223)), .int .i64 0]) ?_ 1 _ rfl; (with_reducible repeat (first | refine blk_drewN ?_ _ | refine blk_drew ?_ | refine blk_alloc ?_ _)); refine blk_put (cs := #[.int .i64 0, .int .i64 0]) ?_ 0 _ rfl; (with_reducible repeat (first | refine blk_drewN ?_ _ | refine blk_drew ?_ | refine blk_alloc ?_ _)); exact BK224.out⟩, ⟨by repeat (first | (with_reducible first | exact HB.out | apply below_alloc | apply pw_below_drewN | apply below_drew1 | refine below_set ?_ GE220.out | refine below_set ?_ GE221.out | refine below_set ?_ GE224.out) | exact HB.out)⟩⟩
        case rest =>
          clear HC22
          try clear c1
          try clear c2
          try clear p2
          try clear c3
          try clear c4
          try clear c6
          try clear p6
          try clear c8
          try clear c11
          try clear c11b0
          try clear c12
          try clear c14
          try clear c14b0
          try clear c14b1
          try clear c15
          try clear c18
          try clear c21
          try clear c23
          try clear c26
          try clear c27
          try clear c30
          try clear c30b0
          try clear c30b1
          try clear hcz13_0
          try clear hcz13_1
          try clear hcz16_0
          try clear hcz16_1
          try clear hcz17_0
          try clear hcz17_1
          try clear hcz17_2
          try clear hcz17_3
          try clear hcz17_4
          try clear hcz17_5
          try clear hcz17_6
          try clear hcz19_0
          try clear hcz19_1
          try clear hcz20_0
          try clear hcz20_1
          try clear hcz20_2
          try clear hcz20_3
          try clear hcz20_4
          try clear hcz20_5
          try clear hcz20_6
          try clear hcz24_0
          try clear hcz24_1
          try clear hcz28_0
          try clear hcz28_1
          try clear hcz29_0
          try clear hcz29_1
          try clear hcz29_2
          try clear hcz29_3
          try clear hcz29_4
          try clear hcz29_5
          try clear hcz29_6
          try clear hcz9_0
          try clear hcz9_1
          try clear hcz9_2
          try clear hcz9_3
          try clear hcz9_4
          try clear hcz9_5
          try clear hcz9_6
          try clear hfz13_0
          try clear hfz13_1
          try clear hfz16_0
          try clear hfz16_1
          try clear hfz17_0
          try clear hfz17_1
          try clear hfz17_2
          try clear hfz17_3
          try clear hfz17_4
          try clear hfz17_5
          try clear hfz17_6
          try clear hfz19_0
          try clear hfz19_1
          try clear hfz20_0
          try clear hfz20_1
          try clear hfz20_2
          try clear hfz20_3
          try clear hfz20_4
          try clear hfz20_5
          try clear hfz20_6
          try clear hfz24_0
          try clear hfz24_1
          try clear hfz28_0
          try clear hfz28_1
          try clear hfz29_0
          try clear hfz29_1
          try clear hfz29_2
          try clear hfz29_3
          try clear hfz29_4
          try clear hfz29_5
          try clear hfz29_6
          try clear hfz9_0
          try clear hfz9_1
          try clear hfz9_2
          try clear hfz9_3
          try clear hfz9_4
          try clear hfz9_5
          try clear hfz9_6
          try clear p2
          obtain ⟨kq, x41_21, rfl, HA, HJ21, BK220, BK221, BK224, HB⟩ := hcut
          cases kq with
          | zero => exact absurd HA.out (by simp [impl_Ins_onward.j1])
          | succ kj21 =>
            have H := HA.out
            clear HA
            simp only [impl_Ins_onward.j1] at H
            by_cases c31 : x41_21 = true
            · subst c31
              have H1 : (some (([] : List (S80)), true)) = some (r1, r2) := by rw [if_pos rfl] at H; exact H
              clear H
              have H := H1
              clear H1
              simp only [Option.some.injEq, Prod.mk.injEq] at H
              obtain ⟨rfl, rfl⟩ := H
              go_wp2
              go_ret2
              exact ⟨_, by first | rfl | exact My.ret_isEmpty _ | (simp [errW_none, errW_some] <;> rfl) | (simp [*, errW_none, errW_some] <;> rfl), by first | exact Kd.R_nil _ _ _ _ _ | exact Kd.N_nil _ _ _ _ _ | exact Kd.V_nil _ _ _ _ _ | exact Kd.Q_nil _ _ _ _ _ | exact Kd.S_nil _ _ _ _ _, by repeat (first | (with_reducible first | exact HB.out | apply below_alloc | apply pw_below_drewN | apply below_drew1 | refine below_set ?_ GE220.out | refine below_set ?_ GE221.out | refine below_set ?_ GE224.out) | exact HB.out)⟩
            · replace c31 := Bool.eq_false_iff.mpr c31
              subst c31
              have H1 : (if a0_0 = 6 then (some ((([(⟨a0_1, (⟨(wrap64 ((wrap64 (a2_0 - t222)) + t223)), a2_1⟩ : S75)⟩ : S80)] : List (S80))), true)) else (if a0_0 = 7 then (some ((([(⟨wrap64 (a1 + 1), (⟨(wrap64 ((wrap64 (a2_0 - t222)) + t223)), a2_1⟩ : S75)⟩ : S80), (⟨a0_1, (⟨(wrap64 ((wrap64 (a2_0 - t222)) + t223)), a2_1⟩ : S75)⟩ : S80)] : List (S80))), true)) else (if a0_0 = 8 then (impl_Ins_onward.j2 kj21 a1 a0_0 (a0_0 == 8) a0_0 a0_1 a0_2 a0_3 a0_4 a0_5 a0_6 a2_0 a2_1 (wrap64 ((wrap64 (a2_0 - t222)) + t223)) a2_1) else (impl_Ins_onward.j2 kj21 a1 a0_0 (a0_0 == 9) a0_0 a0_1 a0_2 a0_3 a0_4 a0_5 a0_6 a2_0 a2_1 (wrap64 ((wrap64 (a2_0 - t222)) + t223)) a2_1)))) = some (r1, r2) := by rw [if_neg (show ¬ (false = true) by decide)] at H; exact H
              clear H
              have H := H1
              clear H1
              by_cases c32 : a0_0 = 6
              · rw [if_pos c32] at H
                have c32b0 : (a0_0 == 6) = true := beq_iff_eq.mpr c32
                have c32b1 : (a0_0 != 6) = false := bne_eq_false_iff_eq.mpr c32
                clear c32
                obtain ⟨y225, hy225⟩ : ∃ y_ : List (S80), y_ = (([(⟨a0_1, (⟨(wrap64 ((wrap64 (a2_0 - t222)) + t223)), a2_1⟩ : S75)⟩ : S80)] : List (S80))) := ⟨_, rfl⟩
                replace H : (some (y225, true)) = some (r1, r2) := by first | (rw [hy225]; with_reducible exact H) | (have H2_ := (Option.bind_some _ _).symm.trans H; rw [hy225]; with_reducible exact H2_) | (have H2_ := (Option.bind_some _ _).symm.trans H; with_reducible exact H2_) | with_reducible exact H | (rw [hy225]; exact H) | exact H
                have Ny225 := Aside0.mk hy225
                clear hy225
                simp only [Option.some.injEq, Prod.mk.injEq] at H
                obtain ⟨rfl, rfl⟩ := H
                have hnb33 := NB220_221.out
                have hnc33 := NB221_220.out
                have hnb34 := NB220_224.out
                have hnc34 := NB224_220.out
                have hcz35_0 : wc.cell? ⟨gb220, 0, none⟩ = some (.int .i64 a0_0) := (blk_cell BK220.out 0).trans rfl
                have hcz35_1 : wc.cell? ⟨gb220, 1, none⟩ = some (.int .i64 a0_1) := (blk_cell BK220.out 1).trans rfl
                have hcz35_2 : wc.cell? ⟨gb220, 2, none⟩ = some (.int .i64 a0_2) := (blk_cell BK220.out 2).trans rfl
                have hcz35_3 : wc.cell? ⟨gb220, 3, none⟩ = some (.string a0_3) := (blk_cell BK220.out 3).trans rfl
                have hcz35_4 : wc.cell? ⟨gb220, 4, none⟩ = some (.int .i64 a0_4) := (blk_cell BK220.out 4).trans rfl
                have hcz35_5 : wc.cell? ⟨gb220, 5, none⟩ = some (.int .i64 a0_5) := (blk_cell BK220.out 5).trans rfl
                have hcz35_6 : wc.cell? ⟨gb220, 6, none⟩ = some (.string a0_6) := (blk_cell BK220.out 6).trans rfl
                have hfz35_0 := blk_frozen BK220.out 0
                have hfz35_1 := blk_frozen BK220.out 1
                have hfz35_2 := blk_frozen BK220.out 2
                have hfz35_3 := blk_frozen BK220.out 3
                have hfz35_4 := blk_frozen BK220.out 4
                have hfz35_5 := blk_frozen BK220.out 5
                have hfz35_6 := blk_frozen BK220.out 6
                have hnb36 := NB224_221.out
                have hnc36 := NB221_224.out
                have hcz37_0 : wc.cell? ⟨gb224, 0, none⟩ = some (.int .i64 (wrap64 ((wrap64 (a2_0 - t222)) + t223))) := (blk_cell BK224.out 0).trans rfl
                have hcz37_1 : wc.cell? ⟨gb224, 1, none⟩ = some (.int .i64 a2_1) := (blk_cell BK224.out 1).trans rfl
                have hfz37_0 := blk_frozen BK224.out 0
                have hfz37_1 := blk_frozen BK224.out 1
                go_wp2_with (first | ((with_reducible refine gate_dst (N := 50) rfl ?_); refine Kd.R_lit k80 _ 80 ?hg (N := 50) ?hd (xs := ([(⟨a0_1, (⟨(wrap64 ((wrap64 (a2_0 - t222)) + t223)), a2_1⟩ : S75)⟩ : S80)] : List (S80))) (inner := [.int .i64 a0_1, .int .i64 (wrap64 ((wrap64 (a2_0 - t222)) + t223)), .int .i64 a2_1]) (ok := fun _ => True) (okp := fun _ => True) ?hr ?hp (fun _ hk => hk) trivial (Below.refl _ _) (Nat.le_refl _) (by simp) ?_; (case hd => rfl); (case hg => rfl); (case hr => first | (go_simp; done) | (go_simp; rfl)); (case hp => exact (Reps.c3 (show Kd.M k80 _ _ _ (⟨a0_1, (⟨(wrap64 ((wrap64 (a2_0 - t222)) + t223)), a2_1⟩ : S75)⟩ : S80) [.int .i64 a0_1, .int .i64 (wrap64 ((wrap64 (a2_0 - t222)) + t223)), .int .i64 a2_1] from (k80_mkM _ _ _ (⟨a0_1, (⟨(wrap64 ((wrap64 (a2_0 - t222)) + t223)), a2_1⟩ : S75)⟩ : S80) )) (Reps.none _ _))); intro v226 w38 ho39 hb hg_ hnew_; clear hg_ hnew_; (first | rw [← Ny225.out] at ho39 | (simp only [Int.reduceToNat] at ho39; rw [← Ny225.out] at ho39)); have n0_ := Aside0.mk (Kd.R_lower ho39 (below_size (by repeat (first | (with_reducible first | exact HB.out | apply below_alloc | apply pw_below_drewN | apply below_drew1 | refine below_set ?_ GE220.out | refine below_set ?_ GE221.out | refine below_set ?_ GE224.out) | exact HB.out)))); have n1_ := Aside0.mk (blk_below (g := gb220) (o := .cells #[.int .i64 a0_0, .int .i64 a0_1, .int .i64 a0_2, .string a0_3, .int .i64 a0_4, .int .i64 a0_5, .string a0_6] 61 (0, 0)) (by (with_reducible repeat (first | refine blk_drewN ?_ _ | refine blk_drew ?_ | refine blk_alloc ?_ _)); exact BK220.out) hb); have n2_ := Aside0.mk (blk_below (g := gb221) (o := .cells #[.int .i64 a2_0, .int .i64 a2_1] 75 (0, 0)) (by (with_reducible repeat (first | refine blk_drewN ?_ _ | refine blk_drew ?_ | refine blk_alloc ?_ _)); exact BK221.out) hb); have n3_ := Aside0.mk (blk_below (g := gb224) (o := .cells #[.int .i64 (wrap64 ((wrap64 (a2_0 - t222)) + t223)), .int .i64 a2_1] 75 (0, 0)) (by (with_reducible repeat (first | refine blk_drewN ?_ _ | refine blk_drew ?_ | refine blk_alloc ?_ _)); exact BK224.out) hb); have n4_ := Aside0.mk (below_step (by repeat (first | (with_reducible first | exact HB.out | apply below_alloc | apply pw_below_drewN | apply below_drew1 | refine below_set ?_ GE220.out | refine below_set ?_ GE221.out | refine below_set ?_ GE224.out) | exact HB.out)) hb); clear BK220; clear BK221; clear BK224; clear HB; have HO227 := n0_; have BK220 := n1_; have BK221 := n2_; have BK224 := n3_; have HB := n4_; clear n0_ n1_ n2_ n3_ n4_; clear hb ho39))
                go_ret2
                exact ⟨_, by first | rfl | exact My.ret_isEmpty _ | (simp [errW_none, errW_some] <;> rfl) | (simp [*, errW_none, errW_some] <;> rfl), by (with_reducible repeat (first | apply Kd.R_alloc | apply Kd.R_drewN | apply Kd.R_drew)); exact HO227.out, by repeat (first | (with_reducible first | exact HB.out | apply below_alloc | apply pw_below_drewN | apply below_drew1 | refine below_set ?_ GE220.out | refine below_set ?_ GE221.out | refine below_set ?_ GE224.out) | exact HB.out)⟩
              · rw [if_neg c32] at H
                have c32b0 : (a0_0 == 6) = false := beq_eq_false_iff_ne.mpr c32
                have c32b1 : (a0_0 != 6) = true := bne_iff_ne.mpr c32
                by_cases c40 : a0_0 = 7
                · rw [if_pos c40] at H
                  have c40b0 : (a0_0 == 7) = true := beq_iff_eq.mpr c40
                  have c40b1 : (a0_0 != 7) = false := bne_eq_false_iff_eq.mpr c40
                  clear c40
                  obtain ⟨y228, hy228⟩ : ∃ y_ : List (S80), y_ = (([(⟨wrap64 (a1 + 1), (⟨(wrap64 ((wrap64 (a2_0 - t222)) + t223)), a2_1⟩ : S75)⟩ : S80), (⟨a0_1, (⟨(wrap64 ((wrap64 (a2_0 - t222)) + t223)), a2_1⟩ : S75)⟩ : S80)] : List (S80))) := ⟨_, rfl⟩
                  replace H : (some (y228, true)) = some (r1, r2) := by first | (rw [hy228]; with_reducible exact H) | (have H2_ := (Option.bind_some _ _).symm.trans H; rw [hy228]; with_reducible exact H2_) | (have H2_ := (Option.bind_some _ _).symm.trans H; with_reducible exact H2_) | with_reducible exact H | (rw [hy228]; exact H) | exact H
                  have Ny228 := Aside0.mk hy228
                  clear hy228
                  simp only [Option.some.injEq, Prod.mk.injEq] at H
                  obtain ⟨rfl, rfl⟩ := H
                  have hnb41 := NB224_220.out
                  have hnc41 := NB220_224.out
                  have hnb42 := NB224_221.out
                  have hnc42 := NB221_224.out
                  have hcz43_0 : wc.cell? ⟨gb224, 0, none⟩ = some (.int .i64 (wrap64 ((wrap64 (a2_0 - t222)) + t223))) := (blk_cell BK224.out 0).trans rfl
                  have hcz43_1 : wc.cell? ⟨gb224, 1, none⟩ = some (.int .i64 a2_1) := (blk_cell BK224.out 1).trans rfl
                  have hfz43_0 := blk_frozen BK224.out 0
                  have hfz43_1 := blk_frozen BK224.out 1
                  have hnb44 := NB220_221.out
                  have hnc44 := NB221_220.out
                  have hcz45_0 : wc.cell? ⟨gb220, 0, none⟩ = some (.int .i64 a0_0) := (blk_cell BK220.out 0).trans rfl
                  have hcz45_1 : wc.cell? ⟨gb220, 1, none⟩ = some (.int .i64 a0_1) := (blk_cell BK220.out 1).trans rfl
                  have hcz45_2 : wc.cell? ⟨gb220, 2, none⟩ = some (.int .i64 a0_2) := (blk_cell BK220.out 2).trans rfl
                  have hcz45_3 : wc.cell? ⟨gb220, 3, none⟩ = some (.string a0_3) := (blk_cell BK220.out 3).trans rfl
                  have hcz45_4 : wc.cell? ⟨gb220, 4, none⟩ = some (.int .i64 a0_4) := (blk_cell BK220.out 4).trans rfl
                  have hcz45_5 : wc.cell? ⟨gb220, 5, none⟩ = some (.int .i64 a0_5) := (blk_cell BK220.out 5).trans rfl
                  have hcz45_6 : wc.cell? ⟨gb220, 6, none⟩ = some (.string a0_6) := (blk_cell BK220.out 6).trans rfl
                  have hfz45_0 := blk_frozen BK220.out 0
                  have hfz45_1 := blk_frozen BK220.out 1
                  have hfz45_2 := blk_frozen BK220.out 2
                  have hfz45_3 := blk_frozen BK220.out 3
                  have hfz45_4 := blk_frozen BK220.out 4
                  have hfz45_5 := blk_frozen BK220.out 5
                  have hfz45_6 := blk_frozen BK220.out 6
                  go_wp2_with (first | ((with_reducible refine gate_dst (N := 61) rfl ?_); refine Kd.R_lit k80 _ 80 ?hg (N := 61) ?hd (xs := ([(⟨wrap64 (a1 + 1), (⟨(wrap64 ((wrap64 (a2_0 - t222)) + t223)), a2_1⟩ : S75)⟩ : S80), (⟨a0_1, (⟨(wrap64 ((wrap64 (a2_0 - t222)) + t223)), a2_1⟩ : S75)⟩ : S80)] : List (S80))) (inner := [.int .i64 (wrap64 (a1 + 1)), .int .i64 (wrap64 ((wrap64 (a2_0 - t222)) + t223)), .int .i64 a2_1, .int .i64 a0_1, .int .i64 (wrap64 ((wrap64 (a2_0 - t222)) + t223)), .int .i64 a2_1]) (ok := fun _ => True) (okp := fun _ => True) ?hr ?hp (fun _ hk => hk) trivial (Below.refl _ _) (Nat.le_refl _) (by simp) ?_; (case hd => rfl); (case hg => rfl); (case hr => first | (go_simp; done) | (go_simp; rfl)); (case hp => exact (Reps.c3 (show Kd.M k80 _ _ _ (⟨wrap64 (a1 + 1), (⟨(wrap64 ((wrap64 (a2_0 - t222)) + t223)), a2_1⟩ : S75)⟩ : S80) [.int .i64 (wrap64 (a1 + 1)), .int .i64 (wrap64 ((wrap64 (a2_0 - t222)) + t223)), .int .i64 a2_1] from (k80_mkM _ _ _ (⟨wrap64 (a1 + 1), (⟨(wrap64 ((wrap64 (a2_0 - t222)) + t223)), a2_1⟩ : S75)⟩ : S80) )) (Reps.c3 (show Kd.M k80 _ _ _ (⟨a0_1, (⟨(wrap64 ((wrap64 (a2_0 - t222)) + t223)), a2_1⟩ : S75)⟩ : S80) [.int .i64 a0_1, .int .i64 (wrap64 ((wrap64 (a2_0 - t222)) + t223)), .int .i64 a2_1] from (k80_mkM _ _ _ (⟨a0_1, (⟨(wrap64 ((wrap64 (a2_0 - t222)) + t223)), a2_1⟩ : S75)⟩ : S80) )) (Reps.none _ _)))); intro v229 w46 ho47 hb hg_ hnew_; clear hg_ hnew_; (first | rw [← Ny228.out] at ho47 | (simp only [Int.reduceToNat] at ho47; rw [← Ny228.out] at ho47)); have n0_ := Aside0.mk (Kd.R_lower ho47 (below_size (by repeat (first | (with_reducible first | exact HB.out | apply below_alloc | apply pw_below_drewN | apply below_drew1 | refine below_set ?_ GE220.out | refine below_set ?_ GE221.out | refine below_set ?_ GE224.out) | exact HB.out)))); have n1_ := Aside0.mk (blk_below (g := gb220) (o := .cells #[.int .i64 a0_0, .int .i64 a0_1, .int .i64 a0_2, .string a0_3, .int .i64 a0_4, .int .i64 a0_5, .string a0_6] 61 (0, 0)) (by (with_reducible repeat (first | refine blk_drewN ?_ _ | refine blk_drew ?_ | refine blk_alloc ?_ _)); exact BK220.out) hb); have n2_ := Aside0.mk (blk_below (g := gb221) (o := .cells #[.int .i64 a2_0, .int .i64 a2_1] 75 (0, 0)) (by (with_reducible repeat (first | refine blk_drewN ?_ _ | refine blk_drew ?_ | refine blk_alloc ?_ _)); exact BK221.out) hb); have n3_ := Aside0.mk (blk_below (g := gb224) (o := .cells #[.int .i64 (wrap64 ((wrap64 (a2_0 - t222)) + t223)), .int .i64 a2_1] 75 (0, 0)) (by (with_reducible repeat (first | refine blk_drewN ?_ _ | refine blk_drew ?_ | refine blk_alloc ?_ _)); exact BK224.out) hb); have n4_ := Aside0.mk (below_step (by repeat (first | (with_reducible first | exact HB.out | apply below_alloc | apply pw_below_drewN | apply below_drew1 | refine below_set ?_ GE220.out | refine below_set ?_ GE221.out | refine below_set ?_ GE224.out) | exact HB.out)) hb); clear BK220; clear BK221; clear BK224; clear HB; have HO230 := n0_; have BK220 := n1_; have BK221 := n2_; have BK224 := n3_; have HB := n4_; clear n0_ n1_ n2_ n3_ n4_; clear hb ho47))
                  go_ret2
                  exact ⟨_, by first | rfl | exact My.ret_isEmpty _ | (simp [errW_none, errW_some] <;> rfl) | (simp [*, errW_none, errW_some] <;> rfl), by (with_reducible repeat (first | apply Kd.R_alloc | apply Kd.R_drewN | apply Kd.R_drew)); exact HO230.out, by repeat (first | (with_reducible first | exact HB.out | apply below_alloc | apply pw_below_drewN | apply below_drew1 | refine below_set ?_ GE220.out | refine below_set ?_ GE221.out | refine below_set ?_ GE224.out) | exact HB.out)⟩
                · rw [if_neg c40] at H
                  have c40b0 : (a0_0 == 7) = false := beq_eq_false_iff_ne.mpr c40
                  have c40b1 : (a0_0 != 7) = true := bne_iff_ne.mpr c40
                  have HC48 := Aside0.mk H
                  clear H
                  go_upto_if 62 with (fail)
                  go_cut [62] (fun v62 wc => ∃ (kq : Nat) (x62_47 : Bool), v62 = .bool x62_47 ∧ Aside0 (impl_Ins_onward.j2 kq a1 a0_0 x62_47 a0_0 a0_1 a0_2 a0_3 a0_4 a0_5 a0_6 a2_0 a2_1 (wrap64 ((wrap64 (a2_0 - t222)) + t223)) a2_1 = some (r1, r2)) ∧ Aside0 (kq ≤ kj21) ∧ Aside0 (wc.heap[gb220]? = some (.cells #[.int .i64 a0_0, .int .i64 a0_1, .int .i64 a0_2, .string a0_3, .int .i64 a0_4, .int .i64 a0_5, .string a0_6] 61 (0, 0))) ∧ Aside0 (wc.heap[gb221]? = some (.cells #[.int .i64 a2_0, .int .i64 a2_1] 75 (0, 0))) ∧ Aside0 (wc.heap[gb224]? = some (.cells #[.int .i64 (wrap64 ((wrap64 (a2_0 - t222)) + t223)), .int .i64 a2_1] 75 (0, 0))) ∧ Aside0 (Below w.heap.size w wc))
                  case first =>
                    have H := HC48.out
                    clear HC48
                    by_cases c49 : a0_0 = 8
                    · rw [if_pos c49] at H
                      have c49b0 : (a0_0 == 8) = true := beq_iff_eq.mpr c49
                      have c49b1 : (a0_0 != 8) = false := bne_eq_false_iff_eq.mpr c49
                      clear c49
                      (first | rw [c49b0] | (simp only [i64_w, i32_w]; rw [c49b0]) | skip)
                      have H' := Aside0.mk H
                      clear H
                      go_wp2
                      go_meet
                      case rel => exact ⟨_, ((a0_0 == 8)), (by first | rfl | (simp; done) | (simp [*]; done)), H', ⟨by have := HJ4.out; have := HJ21.out; first | omega | exact Nat.le_refl _⟩, ⟨by (with_reducible repeat (first | refine blk_drewN ?_ _ | refine blk_drew ?_ | refine blk_alloc ?_ _)); exact BK220.out⟩, ⟨by (with_reducible repeat (first | refine blk_drewN ?_ _ | refine blk_drew ?_ | refine blk_alloc ?_ _)); exact BK221.out⟩, ⟨by (with_reducible repeat (first | refine blk_drewN ?_ _ | refine blk_drew ?_ | refine blk_alloc ?_ _)); exact BK224.out⟩, ⟨by repeat (first | (with_reducible first | exact HB.out | apply below_alloc | apply pw_below_drewN | apply below_drew1 | refine below_set ?_ GE220.out | refine below_set ?_ GE221.out | refine below_set ?_ GE224.out) | exact HB.out)⟩⟩
                    · rw [if_neg c49] at H
                      have c49b0 : (a0_0 == 8) = false := beq_eq_false_iff_ne.mpr c49
                      have c49b1 : (a0_0 != 8) = true := bne_iff_ne.mpr c49
                      (first | rw [c49b0] | (simp only [i64_w, i32_w]; rw [c49b0]) | skip)
                      have H' := Aside0.mk H
                      clear H
                      go_wp2
                      go_meet
                      case rel => exact ⟨_, ((a0_0 == 9)), (by first | rfl | (simp; done) | (simp [*]; done)), H', ⟨by have := HJ4.out; have := HJ21.out; first | omega | exact Nat.le_refl _⟩, ⟨by (with_reducible repeat (first | refine blk_drewN ?_ _ | refine blk_drew ?_ | refine blk_alloc ?_ _)); exact BK220.out⟩, ⟨by (with_reducible repeat (first | refine blk_drewN ?_ _ | refine blk_drew ?_ | refine blk_alloc ?_ _)); exact BK221.out⟩, ⟨by (with_reducible repeat (first | refine blk_drewN ?_ _ | refine blk_drew ?_ | refine blk_alloc ?_ _)); exact BK224.out⟩, ⟨by repeat (first | (with_reducible first | exact HB.out | apply below_alloc | apply pw_below_drewN | apply below_drew1 | refine below_set ?_ GE220.out | refine below_set ?_ GE221.out | refine below_set ?_ GE224.out) | exact HB.out)⟩⟩
                  case rest =>
                    clear HC48
                    try clear c1
                    try clear c2
                    try clear p2
                    try clear c3
                    try clear c4
                    try clear c6
                    try clear p6
                    try clear c8
                    try clear c11
                    try clear c11b0
                    try clear c12
                    try clear c14
                    try clear c14b0
                    try clear c14b1
                    try clear c15
                    try clear c18
                    try clear c21
                    try clear c23
                    try clear c26
                    try clear c27
                    try clear c30
                    try clear c30b0
                    try clear c30b1
                    try clear c31
                    try clear c32
                    try clear c32b0
                    try clear c32b1
                    try clear c33
                    try clear c34
                    try clear c36
                    try clear c40
                    try clear c40b0
                    try clear c40b1
                    try clear c41
                    try clear c42
                    try clear c44
                    try clear c49
                    try clear c49b0
                    try clear c49b1
                    try clear hcz13_0
                    try clear hcz13_1
                    try clear hcz16_0
                    try clear hcz16_1
                    try clear hcz17_0
                    try clear hcz17_1
                    try clear hcz17_2
                    try clear hcz17_3
                    try clear hcz17_4
                    try clear hcz17_5
                    try clear hcz17_6
                    try clear hcz19_0
                    try clear hcz19_1
                    try clear hcz20_0
                    try clear hcz20_1
                    try clear hcz20_2
                    try clear hcz20_3
                    try clear hcz20_4
                    try clear hcz20_5
                    try clear hcz20_6
                    try clear hcz24_0
                    try clear hcz24_1
                    try clear hcz28_0
                    try clear hcz28_1
                    try clear hcz29_0
                    try clear hcz29_1
                    try clear hcz29_2
                    try clear hcz29_3
                    try clear hcz29_4
                    try clear hcz29_5
                    try clear hcz29_6
                    try clear hcz35_0
                    try clear hcz35_1
                    try clear hcz35_2
                    try clear hcz35_3
                    try clear hcz35_4
                    try clear hcz35_5
                    try clear hcz35_6
                    try clear hcz37_0
                    try clear hcz37_1
                    try clear hcz43_0
                    try clear hcz43_1
                    try clear hcz45_0
                    try clear hcz45_1
                    try clear hcz45_2
                    try clear hcz45_3
                    try clear hcz45_4
                    try clear hcz45_5
                    try clear hcz45_6
                    try clear hcz9_0
                    try clear hcz9_1
                    try clear hcz9_2
                    try clear hcz9_3
                    try clear hcz9_4
                    try clear hcz9_5
                    try clear hcz9_6
                    try clear hfz13_0
                    try clear hfz13_1
                    try clear hfz16_0
                    try clear hfz16_1
                    try clear hfz17_0
                    try clear hfz17_1
                    try clear hfz17_2
                    try clear hfz17_3
                    try clear hfz17_4
                    try clear hfz17_5
                    try clear hfz17_6
                    try clear hfz19_0
                    try clear hfz19_1
                    try clear hfz20_0
                    try clear hfz20_1
                    try clear hfz20_2
                    try clear hfz20_3
                    try clear hfz20_4
                    try clear hfz20_5
                    try clear hfz20_6
                    try clear hfz24_0
                    try clear hfz24_1
                    try clear hfz28_0
                    try clear hfz28_1
                    try clear hfz29_0
                    try clear hfz29_1
                    try clear hfz29_2
                    try clear hfz29_3
                    try clear hfz29_4
                    try clear hfz29_5
                    try clear hfz29_6
                    try clear hfz35_0
                    try clear hfz35_1
                    try clear hfz35_2
                    try clear hfz35_3
                    try clear hfz35_4
                    try clear hfz35_5
                    try clear hfz35_6
                    try clear hfz37_0
                    try clear hfz37_1
                    try clear hfz43_0
                    try clear hfz43_1
                    try clear hfz45_0
                    try clear hfz45_1
                    try clear hfz45_2
                    try clear hfz45_3
                    try clear hfz45_4
                    try clear hfz45_5
                    try clear hfz45_6
                    try clear hfz9_0
                    try clear hfz9_1
                    try clear hfz9_2
                    try clear hfz9_3
                    try clear hfz9_4
                    try clear hfz9_5
                    try clear hfz9_6
                    try clear p2
                    try clear p6
                    obtain ⟨kq, x62_47, rfl, HA, HJ47, BK220, BK221, BK224, HB⟩ := hcut
                    cases kq with
                    | zero => exact absurd HA.out (by simp [impl_Ins_onward.j2])
                    | succ kj47 =>
                      have H := HA.out
                      clear HA
                      simp only [impl_Ins_onward.j2] at H
                      by_cases c50 : x62_47 = true
                      · subst c50
                        have H1 : (some ((([(⟨wrap64 (a1 + 1), (⟨(wrap64 ((wrap64 (a2_0 - t222)) + t223)), a2_1⟩ : S75)⟩ : S80), (⟨a0_1, (⟨a2_0, a2_1⟩ : S75)⟩ : S80)] : List (S80))), true)) = some (r1, r2) := by rw [if_pos rfl] at H; exact H
                        clear H
                        have H := H1
                        clear H1
                        obtain ⟨y231, hy231⟩ : ∃ y_ : List (S80), y_ = (([(⟨wrap64 (a1 + 1), (⟨(wrap64 ((wrap64 (a2_0 - t222)) + t223)), a2_1⟩ : S75)⟩ : S80), (⟨a0_1, (⟨a2_0, a2_1⟩ : S75)⟩ : S80)] : List (S80))) := ⟨_, rfl⟩
                        replace H : (some (y231, true)) = some (r1, r2) := by first | (rw [hy231]; with_reducible exact H) | (have H2_ := (Option.bind_some _ _).symm.trans H; rw [hy231]; with_reducible exact H2_) | (have H2_ := (Option.bind_some _ _).symm.trans H; with_reducible exact H2_) | with_reducible exact H | (rw [hy231]; exact H) | exact H
                        have Ny231 := Aside0.mk hy231
                        clear hy231
                        simp only [Option.some.injEq, Prod.mk.injEq] at H
                        obtain ⟨rfl, rfl⟩ := H
                        have hnb51 := NB224_220.out
                        have hnc51 := NB220_224.out
                        have hnb52 := NB224_221.out
                        have hnc52 := NB221_224.out
                        have hcz53_0 : wc.cell? ⟨gb224, 0, none⟩ = some (.int .i64 (wrap64 ((wrap64 (a2_0 - t222)) + t223))) := (blk_cell BK224.out 0).trans rfl
                        have hcz53_1 : wc.cell? ⟨gb224, 1, none⟩ = some (.int .i64 a2_1) := (blk_cell BK224.out 1).trans rfl
                        have hfz53_0 := blk_frozen BK224.out 0
                        have hfz53_1 := blk_frozen BK224.out 1
                        have hnb54 := NB220_221.out
                        have hnc54 := NB221_220.out
                        have hcz55_0 : wc.cell? ⟨gb220, 0, none⟩ = some (.int .i64 a0_0) := (blk_cell BK220.out 0).trans rfl
                        have hcz55_1 : wc.cell? ⟨gb220, 1, none⟩ = some (.int .i64 a0_1) := (blk_cell BK220.out 1).trans rfl
                        have hcz55_2 : wc.cell? ⟨gb220, 2, none⟩ = some (.int .i64 a0_2) := (blk_cell BK220.out 2).trans rfl
                        have hcz55_3 : wc.cell? ⟨gb220, 3, none⟩ = some (.string a0_3) := (blk_cell BK220.out 3).trans rfl
                        have hcz55_4 : wc.cell? ⟨gb220, 4, none⟩ = some (.int .i64 a0_4) := (blk_cell BK220.out 4).trans rfl
                        have hcz55_5 : wc.cell? ⟨gb220, 5, none⟩ = some (.int .i64 a0_5) := (blk_cell BK220.out 5).trans rfl
                        have hcz55_6 : wc.cell? ⟨gb220, 6, none⟩ = some (.string a0_6) := (blk_cell BK220.out 6).trans rfl
                        have hfz55_0 := blk_frozen BK220.out 0
                        have hfz55_1 := blk_frozen BK220.out 1
                        have hfz55_2 := blk_frozen BK220.out 2
                        have hfz55_3 := blk_frozen BK220.out 3
                        have hfz55_4 := blk_frozen BK220.out 4
                        have hfz55_5 := blk_frozen BK220.out 5
                        have hfz55_6 := blk_frozen BK220.out 6
                        have hcz56_0 : wc.cell? ⟨gb221, 0, none⟩ = some (.int .i64 a2_0) := (blk_cell BK221.out 0).trans rfl
                        have hcz56_1 : wc.cell? ⟨gb221, 1, none⟩ = some (.int .i64 a2_1) := (blk_cell BK221.out 1).trans rfl
                        have hfz56_0 := blk_frozen BK221.out 0
                        have hfz56_1 := blk_frozen BK221.out 1
                        go_wp2_with (first | ((with_reducible refine gate_dst (N := 73) rfl ?_); refine Kd.R_lit k80 _ 80 ?hg (N := 73) ?hd (xs := ([(⟨wrap64 (a1 + 1), (⟨(wrap64 ((wrap64 (a2_0 - t222)) + t223)), a2_1⟩ : S75)⟩ : S80), (⟨a0_1, (⟨a2_0, a2_1⟩ : S75)⟩ : S80)] : List (S80))) (inner := [.int .i64 (wrap64 (a1 + 1)), .int .i64 (wrap64 ((wrap64 (a2_0 - t222)) + t223)), .int .i64 a2_1, .int .i64 a0_1, .int .i64 a2_0, .int .i64 a2_1]) (ok := fun _ => True) (okp := fun _ => True) ?hr ?hp (fun _ hk => hk) trivial (Below.refl _ _) (Nat.le_refl _) (by simp) ?_; (case hd => rfl); (case hg => rfl); (case hr => first | (go_simp; done) | (go_simp; rfl)); (case hp => exact (Reps.c3 (show Kd.M k80 _ _ _ (⟨wrap64 (a1 + 1), (⟨(wrap64 ((wrap64 (a2_0 - t222)) + t223)), a2_1⟩ : S75)⟩ : S80) [.int .i64 (wrap64 (a1 + 1)), .int .i64 (wrap64 ((wrap64 (a2_0 - t222)) + t223)), .int .i64 a2_1] from (k80_mkM _ _ _ (⟨wrap64 (a1 + 1), (⟨(wrap64 ((wrap64 (a2_0 - t222)) + t223)), a2_1⟩ : S75)⟩ : S80) )) (Reps.c3 (show Kd.M k80 _ _ _ (⟨a0_1, (⟨a2_0, a2_1⟩ : S75)⟩ : S80) [.int .i64 a0_1, .int .i64 a2_0, .int .i64 a2_1] from (k80_mkM _ _ _ (⟨a0_1, (⟨a2_0, a2_1⟩ : S75)⟩ : S80) )) (Reps.none _ _)))); intro v232 w57 ho58 hb hg_ hnew_; clear hg_ hnew_; (first | rw [← Ny231.out] at ho58 | (simp only [Int.reduceToNat] at ho58; rw [← Ny231.out] at ho58)); have n0_ := Aside0.mk (Kd.R_lower ho58 (below_size (by repeat (first | (with_reducible first | exact HB.out | apply below_alloc | apply pw_below_drewN | apply below_drew1 | refine below_set ?_ GE220.out | refine below_set ?_ GE221.out | refine below_set ?_ GE224.out) | exact HB.out)))); have n1_ := Aside0.mk (blk_below (g := gb220) (o := .cells #[.int .i64 a0_0, .int .i64 a0_1, .int .i64 a0_2, .string a0_3, .int .i64 a0_4, .int .i64 a0_5, .string a0_6] 61 (0, 0)) (by (with_reducible repeat (first | refine blk_drewN ?_ _ | refine blk_drew ?_ | refine blk_alloc ?_ _)); exact BK220.out) hb); have n2_ := Aside0.mk (blk_below (g := gb221) (o := .cells #[.int .i64 a2_0, .int .i64 a2_1] 75 (0, 0)) (by (with_reducible repeat (first | refine blk_drewN ?_ _ | refine blk_drew ?_ | refine blk_alloc ?_ _)); exact BK221.out) hb); have n3_ := Aside0.mk (blk_below (g := gb224) (o := .cells #[.int .i64 (wrap64 ((wrap64 (a2_0 - t222)) + t223)), .int .i64 a2_1] 75 (0, 0)) (by (with_reducible repeat (first | refine blk_drewN ?_ _ | refine blk_drew ?_ | refine blk_alloc ?_ _)); exact BK224.out) hb); have n4_ := Aside0.mk (below_step (by repeat (first | (with_reducible first | exact HB.out | apply below_alloc | apply pw_below_drewN | apply below_drew1 | refine below_set ?_ GE220.out | refine below_set ?_ GE221.out | refine below_set ?_ GE224.out) | exact HB.out)) hb); clear BK220; clear BK221; clear BK224; clear HB; have HO233 := n0_; have BK220 := n1_; have BK221 := n2_; have BK224 := n3_; have HB := n4_; clear n0_ n1_ n2_ n3_ n4_; clear hb ho58))
                        go_ret2
                        exact ⟨_, by first | rfl | exact My.ret_isEmpty _ | (simp [errW_none, errW_some] <;> rfl) | (simp [*, errW_none, errW_some] <;> rfl), by (with_reducible repeat (first | apply Kd.R_alloc | apply Kd.R_drewN | apply Kd.R_drew)); exact HO233.out, by repeat (first | (with_reducible first | exact HB.out | apply below_alloc | apply pw_below_drewN | apply below_drew1 | refine below_set ?_ GE220.out | refine below_set ?_ GE221.out | refine below_set ?_ GE224.out) | exact HB.out)⟩
                      · replace c50 := Bool.eq_false_iff.mpr c50
                        subst c50
                        have H1 : (if a0_0 = 14 then (some ((([(⟨wrap64 (a1 + 1), (⟨a2_0, wrap64 (a2_1 + 1)⟩ : S75)⟩ : S80), (⟨a0_1, (⟨wrap64 (a2_0 + 1), a2_1⟩ : S75)⟩ : S80)] : List (S80))), true)) else (if a0_0 = 15 then (some ((([(⟨wrap64 (a1 + 1), (⟨(wrap64 ((wrap64 (a2_0 - t222)) + t223)), wrap64 (a2_1 - 1)⟩ : S75)⟩ : S80)] : List (S80))), true)) else (some ((([(⟨wrap64 (a1 + 1), (⟨(wrap64 ((wrap64 (a2_0 - t222)) + t223)), a2_1⟩ : S75)⟩ : S80)] : List (S80))), true)))) = some (r1, r2) := by rw [if_neg (show ¬ (false = true) by decide)] at H; exact H
                        clear H
                        have H := H1
                        clear H1
                        by_cases c59 : a0_0 = 14
                        · rw [if_pos c59] at H
                          have c59b0 : (a0_0 == 14) = true := beq_iff_eq.mpr c59
                          have c59b1 : (a0_0 != 14) = false := bne_eq_false_iff_eq.mpr c59
                          clear c59
                          obtain ⟨y234, hy234⟩ : ∃ y_ : List (S80), y_ = (([(⟨wrap64 (a1 + 1), (⟨a2_0, wrap64 (a2_1 + 1)⟩ : S75)⟩ : S80), (⟨a0_1, (⟨wrap64 (a2_0 + 1), a2_1⟩ : S75)⟩ : S80)] : List (S80))) := ⟨_, rfl⟩
                          replace H : (some (y234, true)) = some (r1, r2) := by first | (rw [hy234]; with_reducible exact H) | (have H2_ := (Option.bind_some _ _).symm.trans H; rw [hy234]; with_reducible exact H2_) | (have H2_ := (Option.bind_some _ _).symm.trans H; with_reducible exact H2_) | with_reducible exact H | (rw [hy234]; exact H) | exact H
                          have Ny234 := Aside0.mk hy234
                          clear hy234
                          simp only [Option.some.injEq, Prod.mk.injEq] at H
                          obtain ⟨rfl, rfl⟩ := H
                          have hnb60 := NB221_220.out
                          have hnc60 := NB220_221.out
                          have hnb61 := NB221_224.out
                          have hnc61 := NB224_221.out
                          have hcz62_0 : wc.cell? ⟨gb221, 0, none⟩ = some (.int .i64 a2_0) := (blk_cell BK221.out 0).trans rfl
                          have hcz62_1 : wc.cell? ⟨gb221, 1, none⟩ = some (.int .i64 a2_1) := (blk_cell BK221.out 1).trans rfl
                          have hfz62_0 := blk_frozen BK221.out 0
                          have hfz62_1 := blk_frozen BK221.out 1
                          have hnb63 := NB220_224.out
                          have hnc63 := NB224_220.out
                          have hcz64_0 : wc.cell? ⟨gb220, 0, none⟩ = some (.int .i64 a0_0) := (blk_cell BK220.out 0).trans rfl
                          have hcz64_1 : wc.cell? ⟨gb220, 1, none⟩ = some (.int .i64 a0_1) := (blk_cell BK220.out 1).trans rfl
                          have hcz64_2 : wc.cell? ⟨gb220, 2, none⟩ = some (.int .i64 a0_2) := (blk_cell BK220.out 2).trans rfl
                          have hcz64_3 : wc.cell? ⟨gb220, 3, none⟩ = some (.string a0_3) := (blk_cell BK220.out 3).trans rfl
                          have hcz64_4 : wc.cell? ⟨gb220, 4, none⟩ = some (.int .i64 a0_4) := (blk_cell BK220.out 4).trans rfl
                          have hcz64_5 : wc.cell? ⟨gb220, 5, none⟩ = some (.int .i64 a0_5) := (blk_cell BK220.out 5).trans rfl
                          have hcz64_6 : wc.cell? ⟨gb220, 6, none⟩ = some (.string a0_6) := (blk_cell BK220.out 6).trans rfl
                          have hfz64_0 := blk_frozen BK220.out 0
                          have hfz64_1 := blk_frozen BK220.out 1
                          have hfz64_2 := blk_frozen BK220.out 2
                          have hfz64_3 := blk_frozen BK220.out 3
                          have hfz64_4 := blk_frozen BK220.out 4
                          have hfz64_5 := blk_frozen BK220.out 5
                          have hfz64_6 := blk_frozen BK220.out 6
                          go_wp2_with (first | ((with_reducible refine gate_dst (N := 94) rfl ?_); refine Kd.R_lit k80 _ 80 ?hg (N := 94) ?hd (xs := ([(⟨wrap64 (a1 + 1), (⟨a2_0, wrap64 (a2_1 + 1)⟩ : S75)⟩ : S80), (⟨a0_1, (⟨wrap64 (a2_0 + 1), a2_1⟩ : S75)⟩ : S80)] : List (S80))) (inner := [.int .i64 (wrap64 (a1 + 1)), .int .i64 a2_0, .int .i64 (wrap64 (a2_1 + 1)), .int .i64 a0_1, .int .i64 (wrap64 (a2_0 + 1)), .int .i64 a2_1]) (ok := fun _ => True) (okp := fun _ => True) ?hr ?hp (fun _ hk => hk) trivial (Below.refl _ _) (Nat.le_refl _) (by simp) ?_; (case hd => rfl); (case hg => rfl); (case hr => first | (go_simp; done) | (go_simp; rfl)); (case hp => exact (Reps.c3 (show Kd.M k80 _ _ _ (⟨wrap64 (a1 + 1), (⟨a2_0, wrap64 (a2_1 + 1)⟩ : S75)⟩ : S80) [.int .i64 (wrap64 (a1 + 1)), .int .i64 a2_0, .int .i64 (wrap64 (a2_1 + 1))] from (k80_mkM _ _ _ (⟨wrap64 (a1 + 1), (⟨a2_0, wrap64 (a2_1 + 1)⟩ : S75)⟩ : S80) )) (Reps.c3 (show Kd.M k80 _ _ _ (⟨a0_1, (⟨wrap64 (a2_0 + 1), a2_1⟩ : S75)⟩ : S80) [.int .i64 a0_1, .int .i64 (wrap64 (a2_0 + 1)), .int .i64 a2_1] from (k80_mkM _ _ _ (⟨a0_1, (⟨wrap64 (a2_0 + 1), a2_1⟩ : S75)⟩ : S80) )) (Reps.none _ _)))); intro v235 w65 ho66 hb hg_ hnew_; clear hg_ hnew_; (first | rw [← Ny234.out] at ho66 | (simp only [Int.reduceToNat] at ho66; rw [← Ny234.out] at ho66)); have n0_ := Aside0.mk (Kd.R_lower ho66 (below_size (by repeat (first | (with_reducible first | exact HB.out | apply below_alloc | apply pw_below_drewN | apply below_drew1 | refine below_set ?_ GE220.out | refine below_set ?_ GE221.out | refine below_set ?_ GE224.out) | exact HB.out)))); have n1_ := Aside0.mk (blk_below (g := gb220) (o := .cells #[.int .i64 a0_0, .int .i64 a0_1, .int .i64 a0_2, .string a0_3, .int .i64 a0_4, .int .i64 a0_5, .string a0_6] 61 (0, 0)) (by (with_reducible repeat (first | refine blk_drewN ?_ _ | refine blk_drew ?_ | refine blk_alloc ?_ _)); exact BK220.out) hb); have n2_ := Aside0.mk (blk_below (g := gb221) (o := .cells #[.int .i64 a2_0, .int .i64 a2_1] 75 (0, 0)) (by (with_reducible repeat (first | refine blk_drewN ?_ _ | refine blk_drew ?_ | refine blk_alloc ?_ _)); exact BK221.out) hb); have n3_ := Aside0.mk (blk_below (g := gb224) (o := .cells #[.int .i64 (wrap64 ((wrap64 (a2_0 - t222)) + t223)), .int .i64 a2_1] 75 (0, 0)) (by (with_reducible repeat (first | refine blk_drewN ?_ _ | refine blk_drew ?_ | refine blk_alloc ?_ _)); exact BK224.out) hb); have n4_ := Aside0.mk (below_step (by repeat (first | (with_reducible first | exact HB.out | apply below_alloc | apply pw_below_drewN | apply below_drew1 | refine below_set ?_ GE220.out | refine below_set ?_ GE221.out | refine below_set ?_ GE224.out) | exact HB.out)) hb); clear BK220; clear BK221; clear BK224; clear HB; have HO236 := n0_; have BK220 := n1_; have BK221 := n2_; have BK224 := n3_; have HB := n4_; clear n0_ n1_ n2_ n3_ n4_; clear hb ho66))
                          go_ret2
                          exact ⟨_, by first | rfl | exact My.ret_isEmpty _ | (simp [errW_none, errW_some] <;> rfl) | (simp [*, errW_none, errW_some] <;> rfl), by (with_reducible repeat (first | apply Kd.R_alloc | apply Kd.R_drewN | apply Kd.R_drew)); exact HO236.out, by repeat (first | (with_reducible first | exact HB.out | apply below_alloc | apply pw_below_drewN | apply below_drew1 | refine below_set ?_ GE220.out | refine below_set ?_ GE221.out | refine below_set ?_ GE224.out) | exact HB.out)⟩
                        · rw [if_neg c59] at H
                          have c59b0 : (a0_0 == 14) = false := beq_eq_false_iff_ne.mpr c59
                          have c59b1 : (a0_0 != 14) = true := bne_iff_ne.mpr c59
                          by_cases c67 : a0_0 = 15
                          · rw [if_pos c67] at H
                            have c67b0 : (a0_0 == 15) = true := beq_iff_eq.mpr c67
                            have c67b1 : (a0_0 != 15) = false := bne_eq_false_iff_eq.mpr c67
                            clear c67
                            obtain ⟨y237, hy237⟩ : ∃ y_ : List (S80), y_ = (([(⟨wrap64 (a1 + 1), (⟨(wrap64 ((wrap64 (a2_0 - t222)) + t223)), wrap64 (a2_1 - 1)⟩ : S75)⟩ : S80)] : List (S80))) := ⟨_, rfl⟩
                            replace H : (some (y237, true)) = some (r1, r2) := by first | (rw [hy237]; with_reducible exact H) | (have H2_ := (Option.bind_some _ _).symm.trans H; rw [hy237]; with_reducible exact H2_) | (have H2_ := (Option.bind_some _ _).symm.trans H; with_reducible exact H2_) | with_reducible exact H | (rw [hy237]; exact H) | exact H
                            have Ny237 := Aside0.mk hy237
                            clear hy237
                            simp only [Option.some.injEq, Prod.mk.injEq] at H
                            obtain ⟨rfl, rfl⟩ := H
                            have hnb68 := NB224_220.out
                            have hnc68 := NB220_224.out
                            have hnb69 := NB224_221.out
                            have hnc69 := NB221_224.out
                            have hcz70_0 : wc.cell? ⟨gb224, 0, none⟩ = some (.int .i64 (wrap64 ((wrap64 (a2_0 - t222)) + t223))) := (blk_cell BK224.out 0).trans rfl
                            have hcz70_1 : wc.cell? ⟨gb224, 1, none⟩ = some (.int .i64 a2_1) := (blk_cell BK224.out 1).trans rfl
                            have hfz70_0 := blk_frozen BK224.out 0
                            have hfz70_1 := blk_frozen BK224.out 1
                            go_wp2_with (first | ((with_reducible refine gate_dst (N := 105) rfl ?_); refine Kd.R_lit k80 _ 80 ?hg (N := 105) ?hd (xs := ([(⟨wrap64 (a1 + 1), (⟨(wrap64 ((wrap64 (a2_0 - t222)) + t223)), wrap64 (a2_1 - 1)⟩ : S75)⟩ : S80)] : List (S80))) (inner := [.int .i64 (wrap64 (a1 + 1)), .int .i64 (wrap64 ((wrap64 (a2_0 - t222)) + t223)), .int .i64 (wrap64 (a2_1 - 1))]) (ok := fun _ => True) (okp := fun _ => True) ?hr ?hp (fun _ hk => hk) trivial (Below.refl _ _) (Nat.le_refl _) (by simp) ?_; (case hd => rfl); (case hg => rfl); (case hr => first | (go_simp; done) | (go_simp; rfl)); (case hp => exact (Reps.c3 (show Kd.M k80 _ _ _ (⟨wrap64 (a1 + 1), (⟨(wrap64 ((wrap64 (a2_0 - t222)) + t223)), wrap64 (a2_1 - 1)⟩ : S75)⟩ : S80) [.int .i64 (wrap64 (a1 + 1)), .int .i64 (wrap64 ((wrap64 (a2_0 - t222)) + t223)), .int .i64 (wrap64 (a2_1 - 1))] from (k80_mkM _ _ _ (⟨wrap64 (a1 + 1), (⟨(wrap64 ((wrap64 (a2_0 - t222)) + t223)), wrap64 (a2_1 - 1)⟩ : S75)⟩ : S80) )) (Reps.none _ _))); intro v238 w71 ho72 hb hg_ hnew_; clear hg_ hnew_; (first | rw [← Ny237.out] at ho72 | (simp only [Int.reduceToNat] at ho72; rw [← Ny237.out] at ho72)); have n0_ := Aside0.mk (Kd.R_lower ho72 (below_size (by repeat (first | (with_reducible first | exact HB.out | apply below_alloc | apply pw_below_drewN | apply below_drew1 | refine below_set ?_ GE220.out | refine below_set ?_ GE221.out | refine below_set ?_ GE224.out) | exact HB.out)))); have n1_ := Aside0.mk (blk_below (g := gb220) (o := .cells #[.int .i64 a0_0, .int .i64 a0_1, .int .i64 a0_2, .string a0_3, .int .i64 a0_4, .int .i64 a0_5, .string a0_6] 61 (0, 0)) (by (with_reducible repeat (first | refine blk_drewN ?_ _ | refine blk_drew ?_ | refine blk_alloc ?_ _)); refine blk_far ?_ NB220_224.out _; (with_reducible repeat (first | refine blk_drewN ?_ _ | refine blk_drew ?_ | refine blk_alloc ?_ _)); exact BK220.out) hb); have n2_ := Aside0.mk (blk_below (g := gb221) (o := .cells #[.int .i64 a2_0, .int .i64 a2_1] 75 (0, 0)) (by (with_reducible repeat (first | refine blk_drewN ?_ _ | refine blk_drew ?_ | refine blk_alloc ?_ _)); refine blk_far ?_ NB221_224.out _; (with_reducible repeat (first | refine blk_drewN ?_ _ | refine blk_drew ?_ | refine blk_alloc ?_ _)); exact BK221.out) hb); have n3_ := Aside0.mk (blk_below (g := gb224) (o := .cells #[.int .i64 (wrap64 ((wrap64 (a2_0 - t222)) + t223)), .int .i64 (wrap64 (a2_1 - 1))] 75 (0, 0)) (by (with_reducible repeat (first | refine blk_drewN ?_ _ | refine blk_drew ?_ | refine blk_alloc ?_ _)); refine blk_put (cs := #[.int .i64 (wrap64 ((wrap64 (a2_0 - t222)) + t223)), .int .i64 a2_1]) ?_ 1 _ rfl; (with_reducible repeat (first | refine blk_drewN ?_ _ | refine blk_drew ?_ | refine blk_alloc ?_ _)); exact BK224.out) hb); have n4_ := Aside0.mk (below_step (by repeat (first | (with_reducible first | exact HB.out | apply below_alloc | apply pw_below_drewN | apply below_drew1 | refine below_set ?_ GE220.out | refine below_set ?_ GE221.out | refine below_set ?_ GE224.out) | exact HB.out)) hb); clear BK220; clear BK221; clear BK224; clear HB; have HO239 := n0_; have BK220 := n1_; have BK221 := n2_; have BK224 := n3_; have HB := n4_; clear n0_ n1_ n2_ n3_ n4_; clear hb ho72))
                            go_ret2
                            exact ⟨_, by first | rfl | exact My.ret_isEmpty _ | (simp [errW_none, errW_some] <;> rfl) | (simp [*, errW_none, errW_some] <;> rfl), by (with_reducible repeat (first | apply Kd.R_alloc | apply Kd.R_drewN | apply Kd.R_drew)); exact HO239.out, by repeat (first | (with_reducible first | exact HB.out | apply below_alloc | apply pw_below_drewN | apply below_drew1 | refine below_set ?_ GE220.out | refine below_set ?_ GE221.out | refine below_set ?_ GE224.out) | exact HB.out)⟩
                          · rw [if_neg c67] at H
                            have c67b0 : (a0_0 == 15) = false := beq_eq_false_iff_ne.mpr c67
                            have c67b1 : (a0_0 != 15) = true := bne_iff_ne.mpr c67
                            obtain ⟨y240, hy240⟩ : ∃ y_ : List (S80), y_ = (([(⟨wrap64 (a1 + 1), (⟨(wrap64 ((wrap64 (a2_0 - t222)) + t223)), a2_1⟩ : S75)⟩ : S80)] : List (S80))) := ⟨_, rfl⟩
                            replace H : (some (y240, true)) = some (r1, r2) := by first | (rw [hy240]; with_reducible exact H) | (have H2_ := (Option.bind_some _ _).symm.trans H; rw [hy240]; with_reducible exact H2_) | (have H2_ := (Option.bind_some _ _).symm.trans H; with_reducible exact H2_) | with_reducible exact H | (rw [hy240]; exact H) | exact H
                            have Ny240 := Aside0.mk hy240
                            clear hy240
                            simp only [Option.some.injEq, Prod.mk.injEq] at H
                            obtain ⟨rfl, rfl⟩ := H
                            have hnb73 := NB224_220.out
                            have hnc73 := NB220_224.out
                            have hnb74 := NB224_221.out
                            have hnc74 := NB221_224.out
                            have hcz75_0 : wc.cell? ⟨gb224, 0, none⟩ = some (.int .i64 (wrap64 ((wrap64 (a2_0 - t222)) + t223))) := (blk_cell BK224.out 0).trans rfl
                            have hcz75_1 : wc.cell? ⟨gb224, 1, none⟩ = some (.int .i64 a2_1) := (blk_cell BK224.out 1).trans rfl
                            have hfz75_0 := blk_frozen BK224.out 0
                            have hfz75_1 := blk_frozen BK224.out 1
                            go_wp2_with (first | ((with_reducible refine gate_dst (N := 105) rfl ?_); refine Kd.R_lit k80 _ 80 ?hg (N := 105) ?hd (xs := ([(⟨wrap64 (a1 + 1), (⟨(wrap64 ((wrap64 (a2_0 - t222)) + t223)), a2_1⟩ : S75)⟩ : S80)] : List (S80))) (inner := [.int .i64 (wrap64 (a1 + 1)), .int .i64 (wrap64 ((wrap64 (a2_0 - t222)) + t223)), .int .i64 a2_1]) (ok := fun _ => True) (okp := fun _ => True) ?hr ?hp (fun _ hk => hk) trivial (Below.refl _ _) (Nat.le_refl _) (by simp) ?_; (case hd => rfl); (case hg => rfl); (case hr => first | (go_simp; done) | (go_simp; rfl)); (case hp => exact (Reps.c3 (show Kd.M k80 _ _ _ (⟨wrap64 (a1 + 1), (⟨(wrap64 ((wrap64 (a2_0 - t222)) + t223)), a2_1⟩ : S75)⟩ : S80) [.int .i64 (wrap64 (a1 + 1)), .int .i64 (wrap64 ((wrap64 (a2_0 - t222)) + t223)), .int .i64 a2_1] from (k80_mkM _ _ _ (⟨wrap64 (a1 + 1), (⟨(wrap64 ((wrap64 (a2_0 - t222)) + t223)), a2_1⟩ : S75)⟩ : S80) )) (Reps.none _ _))); intro v241 w76 ho77 hb hg_ hnew_; clear hg_ hnew_; (first | rw [← Ny240.out] at ho77 | (simp only [Int.reduceToNat] at ho77; rw [← Ny240.out] at ho77)); have n0_ := Aside0.mk (Kd.R_lower ho77 (below_size (by repeat (first | (with_reducible first | exact HB.out | apply below_alloc | apply pw_below_drewN | apply below_drew1 | refine below_set ?_ GE220.out | refine below_set ?_ GE221.out | refine below_set ?_ GE224.out) | exact HB.out)))); have n1_ := Aside0.mk (blk_below (g := gb220) (o := .cells #[.int .i64 a0_0, .int .i64 a0_1, .int .i64 a0_2, .string a0_3, .int .i64 a0_4, .int .i64 a0_5, .string a0_6] 61 (0, 0)) (by (with_reducible repeat (first | refine blk_drewN ?_ _ | refine blk_drew ?_ | refine blk_alloc ?_ _)); exact BK220.out) hb); have n2_ := Aside0.mk (blk_below (g := gb221) (o := .cells #[.int .i64 a2_0, .int .i64 a2_1] 75 (0, 0)) (by (with_reducible repeat (first | refine blk_drewN ?_ _ | refine blk_drew ?_ | refine blk_alloc ?_ _)); exact BK221.out) hb); have n3_ := Aside0.mk (blk_below (g := gb224) (o := .cells #[.int .i64 (wrap64 ((wrap64 (a2_0 - t222)) + t223)), .int .i64 a2_1] 75 (0, 0)) (by (with_reducible repeat (first | refine blk_drewN ?_ _ | refine blk_drew ?_ | refine blk_alloc ?_ _)); exact BK224.out) hb); have n4_ := Aside0.mk (below_step (by repeat (first | (with_reducible first | exact HB.out | apply below_alloc | apply pw_below_drewN | apply below_drew1 | refine below_set ?_ GE220.out | refine below_set ?_ GE221.out | refine below_set ?_ GE224.out) | exact HB.out)) hb); clear BK220; clear BK221; clear BK224; clear HB; have HO242 := n0_; have BK220 := n1_; have BK221 := n2_; have BK224 := n3_; have HB := n4_; clear n0_ n1_ n2_ n3_ n4_; clear hb ho77))
                            go_ret2
                            exact ⟨_, by first | rfl | exact My.ret_isEmpty _ | (simp [errW_none, errW_some] <;> rfl) | (simp [*, errW_none, errW_some] <;> rfl), by (with_reducible repeat (first | apply Kd.R_alloc | apply Kd.R_drewN | apply Kd.R_drew)); exact HO242.out, by repeat (first | (with_reducible first | exact HB.out | apply below_alloc | apply pw_below_drewN | apply below_drew1 | refine below_set ?_ GE220.out | refine below_set ?_ GE221.out | refine below_set ?_ GE224.out) | exact HB.out)⟩

-- NOT PRINTED: function 132 (bits_Mul32)

-- NOT PRINTED: function 133 (bits_Mul64)

-- NOT PRINTED: function 120 (bits_Mul)

end Go.Proofs.Ytlhbcgmmgofcgaa.QFnExactProgramOK
