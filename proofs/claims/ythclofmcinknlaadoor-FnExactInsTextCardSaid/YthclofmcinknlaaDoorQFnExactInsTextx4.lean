/- Functions that the law uses, as Lean functions with the same answers, and the walks that show it: by this session's program, after the form of the kit's print. No condition. -/
import Derived.Test.YthclofmcinknlaaDoorQFnExactInsTextx0
import Derived.Test.YthclofmcinknlaaDoorQFnExactInsTextx2
import Derived.Test.YthclofmcinknlaaDoorQFnExactInsTextx3
namespace Go.Proofs.YthclofmcinknlaaDoor.QFnExactInsText
open Go.RowKit Go.Proofs.YthclofmcinknlaaDoorW.PrintWords Go.Proofs.YthclofmcinknlaaDoorW.PrintLast Go.Proofs.YthclofmcinknlaaDoorW.PrintMore
attribute [local go_sem] max2_int min2_int max_two min_two max_three min_three max_four min_four   -- for this text's walks alone
open Go.Proofs.YthclofmcinknlaaDoor
attribute [local go_sem high] My.binOp_gtr_flip
set_option linter.unusedVariables false
set_option linter.unusedSimpArgs false

/-! ### spec_InsText: function 21 -/
mutual
def spec_InsText.j0 : Nat → Bool → Int → Int → Int → ByteArray → Int → Int → ByteArray → Option (ByteArray × Int)
  | 0, _, _, _, _, _, _, _, _ => none
  | k + 1, x32, x142000, x142001, x142002, x142003, x142004, x142005, x142006 => if x32 = true then (some ((⟨#[]⟩ : ByteArray), 1)) else ((spec_l05Names.f).bind fun t146 => (if 0 ≤ x142000 then (if x142000 < (t146.length : Int) then (if x142000 = 1 then (if x142004 = 3 then (if (rdOf ByteArray.empty t146 x142000).size + 1 ≤ 9223372036854775807 then ((spec_l02Quote.f k x142006).bind fun t150 => (if ((rdOf ByteArray.empty t146 x142000) ++ (⟨#[32]⟩ : ByteArray)).size + t150.size ≤ 9223372036854775807 then (some (((rdOf ByteArray.empty t146 x142000) ++ (⟨#[32]⟩ : ByteArray)) ++ t150, 0)) else (none))) else (none)) else (if (rdOf ByteArray.empty t146 x142000).size + 1 ≤ 9223372036854775807 then ((spec_l01ValueText.f k x142004 x142005 x142006).bind fun t151 => (if ((rdOf ByteArray.empty t146 x142000) ++ (⟨#[32]⟩ : ByteArray)).size + t151.size ≤ 9223372036854775807 then (some (((rdOf ByteArray.empty t146 x142000) ++ (⟨#[32]⟩ : ByteArray)) ++ t151, 0)) else (none))) else (none))) else (if x142000 = 4 then (spec_InsText.j1 k (rdOf ByteArray.empty t146 x142000) x142000 (x142000 == 4) x142000 x142001 x142002 x142003 x142004 x142005 x142006) else (spec_InsText.j1 k (rdOf ByteArray.empty t146 x142000) x142000 (x142000 == 5) x142000 x142001 x142002 x142003 x142004 x142005 x142006))) else (none)) else (none)))
def spec_InsText.j1 : Nat → ByteArray → Int → Bool → Int → Int → Int → ByteArray → Int → Int → ByteArray → Option (ByteArray × Int)
  | 0, _, _, _, _, _, _, _, _, _, _ => none
  | k + 1, x4, x39, x59, x142000, x142001, x142002, x142003, x142004, x142005, x142006 => if x59 = true then (if x4.size + 1 ≤ 9223372036854775807 then (if (x4 ++ (⟨#[32]⟩ : ByteArray)).size + x142003.size ≤ 9223372036854775807 then (some ((x4 ++ (⟨#[32]⟩ : ByteArray)) ++ x142003, 0)) else (none)) else (none)) else (if x39 = 11 then (if x4.size + 1 ≤ 9223372036854775807 then (if (x4 ++ (⟨#[32]⟩ : ByteArray)).size + x142003.size ≤ 9223372036854775807 then (if ((x4 ++ (⟨#[32]⟩ : ByteArray)) ++ x142003).size + 1 ≤ 9223372036854775807 then ((spec_l00Digits.f k x142001).bind fun t152 => (if (((x4 ++ (⟨#[32]⟩ : ByteArray)) ++ x142003) ++ (⟨#[32]⟩ : ByteArray)).size + t152.size ≤ 9223372036854775807 then (some ((((x4 ++ (⟨#[32]⟩ : ByteArray)) ++ x142003) ++ (⟨#[32]⟩ : ByteArray)) ++ t152, 0)) else (none))) else (none)) else (none)) else (none)) else (if x39 = 10 then (if x4.size + 1 ≤ 9223372036854775807 then ((spec_l00Digits.f k x142001).bind fun t153 => (if (x4 ++ (⟨#[32]⟩ : ByteArray)).size + t153.size ≤ 9223372036854775807 then (if ((x4 ++ (⟨#[32]⟩ : ByteArray)) ++ t153).size + 1 ≤ 9223372036854775807 then ((spec_l00Digits.f k x142002).bind fun t154 => (if (((x4 ++ (⟨#[32]⟩ : ByteArray)) ++ t153) ++ (⟨#[32]⟩ : ByteArray)).size + t154.size ≤ 9223372036854775807 then (some ((((x4 ++ (⟨#[32]⟩ : ByteArray)) ++ t153) ++ (⟨#[32]⟩ : ByteArray)) ++ t154, 0)) else (none))) else (none)) else (none))) else (none)) else (if x39 = 12 then (some (x4, 0)) else (if x39 = 13 then (some (x4, 0)) else (if x39 = 15 then (some (x4, 0)) else (if x39 = 16 then (some (x4, 0)) else (if x4.size + 1 ≤ 9223372036854775807 then ((spec_l00Digits.f k x142001).bind fun t155 => (if (x4 ++ (⟨#[32]⟩ : ByteArray)).size + t155.size ≤ 9223372036854775807 then (some ((x4 ++ (⟨#[32]⟩ : ByteArray)) ++ t155, 0)) else (none))) else (none))))))))
end
def spec_InsText.f (k : Nat) (a0_0 : Int) (a0_1 : Int) (a0_2 : Int) (a0_3 : ByteArray) (a0_4 : Int) (a0_5 : Int) (a0_6 : ByteArray) : Option (ByteArray × Int) := (spec_l01In.f a0_0 1 16).bind fun t142 => (if t142 = true then ((spec_ValueOK.f a0_4 a0_5 a0_6).bind fun t143 => (if t143 = true then (if (a0_3.size : Int) > 20 then (spec_InsText.j0 k true a0_0 a0_1 a0_2 a0_3 a0_4 a0_5 a0_6) else ((spec_l01In.f a0_1 0 10000).bind fun t144 => (if t144 = true then ((spec_l01In.f a0_2 0 10000).bind fun t145 => (spec_InsText.j0 k (!t145) a0_0 a0_1 a0_2 a0_3 a0_4 a0_5 a0_6)) else (spec_InsText.j0 k true a0_0 a0_1 a0_2 a0_3 a0_4 a0_5 a0_6)))) else (spec_InsText.j0 k true a0_0 a0_1 a0_2 a0_3 a0_4 a0_5 a0_6))) else (spec_InsText.j0 k true a0_0 a0_1 a0_2 a0_3 a0_4 a0_5 a0_6))
theorem spec_InsText.mono_l : ∀ k, (∀ y0 y1 y2 y3 y4 y5 y6 y7, LeO (spec_InsText.j0 k y0 y1 y2 y3 y4 y5 y6 y7) (spec_InsText.j0 (k + 1) y0 y1 y2 y3 y4 y5 y6 y7)) ∧ (∀ y0 y1 y2 y3 y4 y5 y6 y7 y8 y9, LeO (spec_InsText.j1 k y0 y1 y2 y3 y4 y5 y6 y7 y8 y9) (spec_InsText.j1 (k + 1) y0 y1 y2 y3 y4 y5 y6 y7 y8 y9))
  | 0 => ⟨fun _ _ _ _ _ _ _ _ r h => by simp [spec_InsText.j0] at h, fun _ _ _ _ _ _ _ _ _ _ r h => by simp [spec_InsText.j1] at h⟩
  | k + 1 => by
    obtain ⟨ih0, ih1⟩ := spec_InsText.mono_l k
    refine ⟨?_, ?_⟩
    · intro y0 y1 y2 y3 y4 y5 y6 y7
      unfold spec_InsText.j0
      repeat' first
      | (with_reducible exact ih0 _ _ _ _ _ _ _ _)
      | (with_reducible exact ih1 _ _ _ _ _ _ _ _ _ _)
      | (with_reducible exact spec_l00Digits.mono _ _)
      | (with_reducible exact spec_l01ValueText.mono _ _ _ _)
      | (with_reducible exact spec_l02Quote.mono _ _)
      | (with_reducible exact LeO.refl _)
      | (with_reducible exact LeO.none _)
      | (with_reducible refine LeO.ite ?_ ?_)
      | (with_reducible refine LeO.bind ?_ (fun _ => ?_))
      | exact ih0 _ _ _ _ _ _ _ _
      | exact ih1 _ _ _ _ _ _ _ _ _ _
      | exact spec_l00Digits.mono _ _
      | exact spec_l01ValueText.mono _ _ _ _
      | exact spec_l02Quote.mono _ _
      | exact LeO.none _
      | refine LeO.ite ?_ ?_
      | refine LeO.bind ?_ (fun _ => ?_)
    · intro y0 y1 y2 y3 y4 y5 y6 y7 y8 y9
      unfold spec_InsText.j1
      repeat' first
      | (with_reducible exact ih0 _ _ _ _ _ _ _ _)
      | (with_reducible exact ih1 _ _ _ _ _ _ _ _ _ _)
      | (with_reducible exact spec_l00Digits.mono _ _)
      | (with_reducible exact spec_l01ValueText.mono _ _ _ _)
      | (with_reducible exact spec_l02Quote.mono _ _)
      | (with_reducible exact LeO.refl _)
      | (with_reducible exact LeO.none _)
      | (with_reducible refine LeO.ite ?_ ?_)
      | (with_reducible refine LeO.bind ?_ (fun _ => ?_))
      | exact ih0 _ _ _ _ _ _ _ _
      | exact ih1 _ _ _ _ _ _ _ _ _ _
      | exact spec_l00Digits.mono _ _
      | exact spec_l01ValueText.mono _ _ _ _
      | exact spec_l02Quote.mono _ _
      | exact LeO.none _
      | refine LeO.ite ?_ ?_
      | refine LeO.bind ?_ (fun _ => ?_)
theorem spec_InsText.mono : ∀ a0 a1 a2 a3 a4 a5 a6 k, LeO (spec_InsText.f k a0 a1 a2 a3 a4 a5 a6) (spec_InsText.f (k + 1) a0 a1 a2 a3 a4 a5 a6) := by
  intro a0 a1 a2 a3 a4 a5 a6 k
  obtain ⟨ih0, ih1⟩ := spec_InsText.mono_l k
  unfold spec_InsText.f
  repeat' first
      | (with_reducible exact ih0 _ _ _ _ _ _ _ _)
      | (with_reducible exact ih1 _ _ _ _ _ _ _ _ _ _)
      | (with_reducible exact spec_l00Digits.mono _ _)
      | (with_reducible exact spec_l01ValueText.mono _ _ _ _)
      | (with_reducible exact spec_l02Quote.mono _ _)
      | (with_reducible exact LeO.refl _)
      | (with_reducible exact LeO.none _)
      | (with_reducible refine LeO.ite ?_ ?_)
      | (with_reducible refine LeO.bind ?_ (fun _ => ?_))
      | exact ih0 _ _ _ _ _ _ _ _
      | exact ih1 _ _ _ _ _ _ _ _ _ _
      | exact spec_l00Digits.mono _ _
      | exact spec_l01ValueText.mono _ _ _ _
      | exact spec_l02Quote.mono _ _
      | exact LeO.none _
      | refine LeO.ite ?_ ?_
      | refine LeO.bind ?_ (fun _ => ?_)
def spec_InsText.T13 : Bool × List (List Nat × List Nat) := (true, [([], []), ([0], [0]), ([], []), ([2], [2]), ([1, 3], [1, 3]), ([4], [4]), ([], []), ([6], [6]), ([7], [7]), ([5, 8], [5, 8]), ([9, 8, 0, 1, 2, 3, 4, 5, 6, 7, 8, 9], [9]), ([10, 0, 1, 2, 3, 4, 5, 6, 7, 8, 9, 10], [])])
def spec_InsText.B13 : List Nat := [0, 1, 0, 4, 15, 31, 0, 64, 192, 511, 1023, 2047]
theorem spec_InsText.tab13 : rtab .any (opsOf Tryd.f21 13) = spec_InsText.T13 := by kernel_rfl
theorem spec_InsText.bits13 : waitsOk spec_InsText.T13.2 spec_InsText.B13 = true := by kernel_rfl
def spec_InsText.T15 : Bool × List (List Nat × List Nat) := (true, [([], []), ([0], [0]), ([], []), ([2], [2]), ([3], [3]), ([1, 4], [1, 4]), ([5], [5]), ([], []), ([7], [7]), ([8, 4], [8]), ([6, 9], [6, 9]), ([10, 9, 0, 1, 2, 3, 4, 5, 6, 7, 8, 9, 10], [10]), ([11, 0, 1, 2, 3, 4, 5, 6, 7, 8, 9, 10, 11], [])])
def spec_InsText.B15 : List Nat := [0, 1, 0, 4, 12, 31, 63, 0, 128, 412, 1023, 2047, 4095]
theorem spec_InsText.tab15 : rtab .any (opsOf Tryd.f21 15) = spec_InsText.T15 := by kernel_rfl
theorem spec_InsText.bits15 : waitsOk spec_InsText.T15.2 spec_InsText.B15 = true := by kernel_rfl
set_option maxHeartbeats 8000000 in
set_option maxRecDepth 100000 in
theorem spec_InsText.calls (k : Nat) (a0_0 : Int) (a0_1 : Int) (a0_2 : Int) (a0_3 : ByteArray) (a0_4 : Int) (a0_5 : Int) (a0_6 : ByteArray) (r1 : ByteArray) (r2 : Int) (w : World) (h : spec_InsText.f k a0_0 a0_1 a0_2 a0_3 a0_4 a0_5 a0_6 = some (r1, r2)) :
    Calls Tryd.prog 21 #[.agg #[.int .i64 a0_0, .int .i64 a0_1, .int .i64 a0_2, .string a0_3, .int .i64 a0_4, .int .i64 a0_5, .string a0_6]] w fun e w' => e = .returned (.tuple #[.string r1, .int .i64 r2]) ∧ Below w.heap.size w w' := by
  have hu44 := Tryd.underlying44
  have hu29 := Tryd.underlying29
  have HB := Aside0.mk (Below.refl w.heap.size w)
  have H : ((spec_l01In.f a0_0 1 16).bind fun t142 => (if t142 = true then ((spec_ValueOK.f a0_4 a0_5 a0_6).bind fun t143 => (if t143 = true then (if (a0_3.size : Int) > 20 then (spec_InsText.j0 k true a0_0 a0_1 a0_2 a0_3 a0_4 a0_5 a0_6) else ((spec_l01In.f a0_1 0 10000).bind fun t144 => (if t144 = true then ((spec_l01In.f a0_2 0 10000).bind fun t145 => (spec_InsText.j0 k (!t145) a0_0 a0_1 a0_2 a0_3 a0_4 a0_5 a0_6)) else (spec_InsText.j0 k true a0_0 a0_1 a0_2 a0_3 a0_4 a0_5 a0_6)))) else (spec_InsText.j0 k true a0_0 a0_1 a0_2 a0_3 a0_4 a0_5 a0_6))) else (spec_InsText.j0 k true a0_0 a0_1 a0_2 a0_3 a0_4 a0_5 a0_6))) = some (r1, r2) := h
  clear h
  have HC2 := Aside0.mk H
  clear H
  go_enter Tryd.func21, Tryd.ntmps21
  go_upto_region 1 with (first | ((with_reducible refine gate_dst (N := 1) rfl ?_); (try (refine gate_guard (by rfl) ?_; dsimp only)); refine box_event ?hg (N := 1) ?hd (cs := #[.int .i64 a0_0, .int .i64 a0_1, .int .i64 a0_2, .string a0_3, .int .i64 a0_4, .int .i64 a0_5, .string a0_6]) (t := 44) ?hr ?_; (case hd => rfl); (case hg => rfl); (case hr => first | (go_simp; done) | (go_simp; rfl)); intro gb141 hg w3 hbox hb; have n0_ := Aside0.mk (below_step (by repeat (first | (with_reducible first | exact HB.out | apply below_alloc | apply pw_below_drewN | apply below_drew1) | exact HB.out)) hb); have n1_ := Aside0.mk (hbox); have n2_ := Aside0.mk ((by rw [hg]; exact (below_size (by repeat (first | (with_reducible first | exact HB.out | apply below_alloc | apply pw_below_drewN | apply below_drew1) | exact HB.out))) : w.heap.size ≤ gb141)); have n3_ := Aside0.mk ((by rw [hg]; exact (below_size (by repeat (first | (with_reducible first | exact HB.out | apply below_alloc | apply pw_below_drewN | apply below_drew1) | exact HB.out))) : w.heap.size ≤ gb141)); clear HB; have HB := n0_; have BK141 := n1_; have GW141 := n2_; have GE141 := n3_; clear n0_ n1_ n2_ n3_; clear hb hbox hg))
  (try simp only [Act.put, List.setIfInBounds_toArray, List.set_cons_zero, List.set_cons_succ])
  go_cut [32] (fun v32 wc => ∃ (kq : Nat) (x32_1 : Bool), v32 = .bool x32_1 ∧ Aside0 (spec_InsText.j0 kq x32_1 a0_0 a0_1 a0_2 a0_3 a0_4 a0_5 a0_6 = some (r1, r2)) ∧ Aside0 (kq ≤ k) ∧ Aside0 (wc.heap[gb141]? = some (.cells #[.int .i64 a0_0, .int .i64 a0_1, .int .i64 a0_2, .string a0_3, .int .i64 a0_4, .int .i64 a0_5, .string a0_6] 44 (0, 0))) ∧ Aside0 (Below w.heap.size w wc))
  case first =>
    have H := HC2.out
    clear HC2
    replace H := Option.bind_eq_some_iff.mp H
    obtain ⟨t142, A40, H⟩ := H
    replace H : (if t142 = true then ((spec_ValueOK.f a0_4 a0_5 a0_6).bind fun t143 => (if t143 = true then (if (a0_3.size : Int) > 20 then (spec_InsText.j0 k true a0_0 a0_1 a0_2 a0_3 a0_4 a0_5 a0_6) else ((spec_l01In.f a0_1 0 10000).bind fun t144 => (if t144 = true then ((spec_l01In.f a0_2 0 10000).bind fun t145 => (spec_InsText.j0 k (!t145) a0_0 a0_1 a0_2 a0_3 a0_4 a0_5 a0_6)) else (spec_InsText.j0 k true a0_0 a0_1 a0_2 a0_3 a0_4 a0_5 a0_6)))) else (spec_InsText.j0 k true a0_0 a0_1 a0_2 a0_3 a0_4 a0_5 a0_6))) else (spec_InsText.j0 k true a0_0 a0_1 a0_2 a0_3 a0_4 a0_5 a0_6)) = some (r1, r2) := H
    have A4 := Aside0.mk A40
    clear A40
    by_cases c5 : t142 = true
    · subst c5
      have H1 : ((spec_ValueOK.f a0_4 a0_5 a0_6).bind fun t143 => (if t143 = true then (if (a0_3.size : Int) > 20 then (spec_InsText.j0 k true a0_0 a0_1 a0_2 a0_3 a0_4 a0_5 a0_6) else ((spec_l01In.f a0_1 0 10000).bind fun t144 => (if t144 = true then ((spec_l01In.f a0_2 0 10000).bind fun t145 => (spec_InsText.j0 k (!t145) a0_0 a0_1 a0_2 a0_3 a0_4 a0_5 a0_6)) else (spec_InsText.j0 k true a0_0 a0_1 a0_2 a0_3 a0_4 a0_5 a0_6)))) else (spec_InsText.j0 k true a0_0 a0_1 a0_2 a0_3 a0_4 a0_5 a0_6))) = some (r1, r2) := by rw [if_pos rfl] at H; exact H
      clear H
      have H := H1
      clear H1
      replace H := Option.bind_eq_some_iff.mp H
      obtain ⟨t143, A60, H⟩ := H
      replace H : (if t143 = true then (if (a0_3.size : Int) > 20 then (spec_InsText.j0 k true a0_0 a0_1 a0_2 a0_3 a0_4 a0_5 a0_6) else ((spec_l01In.f a0_1 0 10000).bind fun t144 => (if t144 = true then ((spec_l01In.f a0_2 0 10000).bind fun t145 => (spec_InsText.j0 k (!t145) a0_0 a0_1 a0_2 a0_3 a0_4 a0_5 a0_6)) else (spec_InsText.j0 k true a0_0 a0_1 a0_2 a0_3 a0_4 a0_5 a0_6)))) else (spec_InsText.j0 k true a0_0 a0_1 a0_2 a0_3 a0_4 a0_5 a0_6)) = some (r1, r2) := H
      have A6 := Aside0.mk A60
      clear A60
      by_cases c7 : t143 = true
      · subst c7
        have H1 : (if (a0_3.size : Int) > 20 then (spec_InsText.j0 k true a0_0 a0_1 a0_2 a0_3 a0_4 a0_5 a0_6) else ((spec_l01In.f a0_1 0 10000).bind fun t144 => (if t144 = true then ((spec_l01In.f a0_2 0 10000).bind fun t145 => (spec_InsText.j0 k (!t145) a0_0 a0_1 a0_2 a0_3 a0_4 a0_5 a0_6)) else (spec_InsText.j0 k true a0_0 a0_1 a0_2 a0_3 a0_4 a0_5 a0_6)))) = some (r1, r2) := by rw [if_pos rfl] at H; exact H
        clear H
        have H := H1
        clear H1
        by_cases c8 : (a0_3.size : Int) > 20
        · rw [if_pos c8] at H
          have c8b0 : decide (20 < (a0_3.size : Int)) = true := decide_eq_true c8
          have c8b1 : decide (20 < a0_3.size) = true := decide_eq_true (by omega)
          clear c8
          (first | rw [c8b0] | (simp only [i64_w, i32_w]; rw [c8b0]) | skip)
          have H' := Aside0.mk H
          clear H
          have hcz9_0 : w3.cell? ⟨gb141, 0, none⟩ = some (.int .i64 a0_0) := (blk_cell BK141.out 0).trans rfl
          have hcz9_1 : w3.cell? ⟨gb141, 1, none⟩ = some (.int .i64 a0_1) := (blk_cell BK141.out 1).trans rfl
          have hcz9_2 : w3.cell? ⟨gb141, 2, none⟩ = some (.int .i64 a0_2) := (blk_cell BK141.out 2).trans rfl
          have hcz9_3 : w3.cell? ⟨gb141, 3, none⟩ = some (.string a0_3) := (blk_cell BK141.out 3).trans rfl
          have hcz9_4 : w3.cell? ⟨gb141, 4, none⟩ = some (.int .i64 a0_4) := (blk_cell BK141.out 4).trans rfl
          have hcz9_5 : w3.cell? ⟨gb141, 5, none⟩ = some (.int .i64 a0_5) := (blk_cell BK141.out 5).trans rfl
          have hcz9_6 : w3.cell? ⟨gb141, 6, none⟩ = some (.string a0_6) := (blk_cell BK141.out 6).trans rfl
          have hfz9_0 := blk_frozen BK141.out 0
          have hfz9_1 := blk_frozen BK141.out 1
          have hfz9_2 := blk_frozen BK141.out 2
          have hfz9_3 := blk_frozen BK141.out 3
          have hfz9_4 := blk_frozen BK141.out 4
          have hfz9_5 := blk_frozen BK141.out 5
          have hfz9_6 := blk_frozen BK141.out 6
          go_wp2_with (first | ((with_reducible refine gate_callee (f := 53) rfl ?_); refine goesL_ (some 7) rfl rfl Tryd.func53 (by kernel_rfl) rfl #[.int .i64 a0_0, .int .i64 1, .int .i64 16] rfl (by (try simp only [List.map_toArray, List.map_cons, List.map_nil]); first | done | rfl | (simp only [List.length_drop, List.length_take]; rfl)) ?_; (with_reducible refine (spec_l01In.calls a0_0 1 16 true _ A4.out).mono ?_); rintro e w' ⟨rfl, ⟨nd, rfl⟩⟩; refine ⟨_, rfl, ?_⟩) | (go_at_call 44; (with_reducible refine (spec_ValueOK.calls a0_4 a0_5 a0_6 true _ A6.out).mono ?_); rintro e w10 ⟨rfl, hb⟩; have n0_ := Aside0.mk (blk_below (g := gb141) (o := .cells #[.int .i64 a0_0, .int .i64 a0_1, .int .i64 a0_2, .string a0_3, .int .i64 a0_4, .int .i64 a0_5, .string a0_6] 44 (0, 0)) (by (with_reducible repeat (first | refine blk_drewN ?_ _ | refine blk_drew ?_ | refine blk_alloc ?_ _)); exact BK141.out) hb); have n1_ := Aside0.mk (below_step (by repeat (first | (with_reducible first | exact HB.out | apply below_alloc | apply pw_below_drewN | apply below_drew1 | refine below_set ?_ GE141.out) | exact HB.out)) hb); clear BK141; clear HB; have BK141 := n0_; have HB := n1_; clear n0_ n1_; (try clear hb); (try clear hb2); (try clear hk); (try clear hi); have hcz11_0 : w10.cell? ⟨gb141, 0, none⟩ = some (.int .i64 a0_0) := (blk_cell BK141.out 0).trans rfl; have hcz11_1 : w10.cell? ⟨gb141, 1, none⟩ = some (.int .i64 a0_1) := (blk_cell BK141.out 1).trans rfl; have hcz11_2 : w10.cell? ⟨gb141, 2, none⟩ = some (.int .i64 a0_2) := (blk_cell BK141.out 2).trans rfl; have hcz11_3 : w10.cell? ⟨gb141, 3, none⟩ = some (.string a0_3) := (blk_cell BK141.out 3).trans rfl; have hcz11_4 : w10.cell? ⟨gb141, 4, none⟩ = some (.int .i64 a0_4) := (blk_cell BK141.out 4).trans rfl; have hcz11_5 : w10.cell? ⟨gb141, 5, none⟩ = some (.int .i64 a0_5) := (blk_cell BK141.out 5).trans rfl; have hcz11_6 : w10.cell? ⟨gb141, 6, none⟩ = some (.string a0_6) := (blk_cell BK141.out 6).trans rfl; have hfz11_0 := blk_frozen BK141.out 0; have hfz11_1 := blk_frozen BK141.out 1; have hfz11_2 := blk_frozen BK141.out 2; have hfz11_3 := blk_frozen BK141.out 3; have hfz11_4 := blk_frozen BK141.out 4; have hfz11_5 := blk_frozen BK141.out 5; have hfz11_6 := blk_frozen BK141.out 6))
          go_meet
          case rel => exact ⟨_, (true), (by first | rfl | (simp; done) | (simp [*]; done)), H', ⟨by first | omega | exact Nat.le_refl _⟩, ⟨by (with_reducible repeat (first | refine blk_drewN ?_ _ | refine blk_drew ?_ | refine blk_alloc ?_ _)); exact BK141.out⟩, ⟨by repeat (first | (with_reducible first | exact HB.out | apply below_alloc | apply pw_below_drewN | apply below_drew1 | refine below_set ?_ GE141.out) | exact HB.out)⟩⟩
        · rw [if_neg c8] at H
          have c8b0 : decide (20 < (a0_3.size : Int)) = false := decide_eq_false c8
          have c8b1 : decide (20 < a0_3.size) = false := decide_eq_false (by omega)
          clear c8
          (first | rw [c8b0] | (simp only [i64_w, i32_w]; rw [c8b0]) | skip)
          replace H := Option.bind_eq_some_iff.mp H
          obtain ⟨t144, A120, H⟩ := H
          replace H : (if t144 = true then ((spec_l01In.f a0_2 0 10000).bind fun t145 => (spec_InsText.j0 k (!t145) a0_0 a0_1 a0_2 a0_3 a0_4 a0_5 a0_6)) else (spec_InsText.j0 k true a0_0 a0_1 a0_2 a0_3 a0_4 a0_5 a0_6)) = some (r1, r2) := H
          have A12 := Aside0.mk A120
          clear A120
          by_cases c13 : t144 = true
          · subst c13
            have H1 : ((spec_l01In.f a0_2 0 10000).bind fun t145 => (spec_InsText.j0 k (!t145) a0_0 a0_1 a0_2 a0_3 a0_4 a0_5 a0_6)) = some (r1, r2) := by rw [if_pos rfl] at H; exact H
            clear H
            have H := H1
            clear H1
            replace H := Option.bind_eq_some_iff.mp H
            obtain ⟨t145, A140, H⟩ := H
            replace H : (spec_InsText.j0 k (!t145) a0_0 a0_1 a0_2 a0_3 a0_4 a0_5 a0_6) = some (r1, r2) := H
            have A14 := Aside0.mk A140
            clear A140
            have H' := Aside0.mk H
            clear H
            have hcz15_0 : w3.cell? ⟨gb141, 0, none⟩ = some (.int .i64 a0_0) := (blk_cell BK141.out 0).trans rfl
            have hcz15_1 : w3.cell? ⟨gb141, 1, none⟩ = some (.int .i64 a0_1) := (blk_cell BK141.out 1).trans rfl
            have hcz15_2 : w3.cell? ⟨gb141, 2, none⟩ = some (.int .i64 a0_2) := (blk_cell BK141.out 2).trans rfl
            have hcz15_3 : w3.cell? ⟨gb141, 3, none⟩ = some (.string a0_3) := (blk_cell BK141.out 3).trans rfl
            have hcz15_4 : w3.cell? ⟨gb141, 4, none⟩ = some (.int .i64 a0_4) := (blk_cell BK141.out 4).trans rfl
            have hcz15_5 : w3.cell? ⟨gb141, 5, none⟩ = some (.int .i64 a0_5) := (blk_cell BK141.out 5).trans rfl
            have hcz15_6 : w3.cell? ⟨gb141, 6, none⟩ = some (.string a0_6) := (blk_cell BK141.out 6).trans rfl
            have hfz15_0 := blk_frozen BK141.out 0
            have hfz15_1 := blk_frozen BK141.out 1
            have hfz15_2 := blk_frozen BK141.out 2
            have hfz15_3 := blk_frozen BK141.out 3
            have hfz15_4 := blk_frozen BK141.out 4
            have hfz15_5 := blk_frozen BK141.out 5
            have hfz15_6 := blk_frozen BK141.out 6
            go_wp2_with (first | ((with_reducible refine gate_callee (f := 53) rfl ?_); refine goesL_ (some 7) rfl rfl Tryd.func53 (by kernel_rfl) rfl #[.int .i64 a0_0, .int .i64 1, .int .i64 16] rfl (by (try simp only [List.map_toArray, List.map_cons, List.map_nil]); first | done | rfl | (simp only [List.length_drop, List.length_take]; rfl)) ?_; (with_reducible refine (spec_l01In.calls a0_0 1 16 true _ A4.out).mono ?_); rintro e w' ⟨rfl, ⟨nd, rfl⟩⟩; refine ⟨_, rfl, ?_⟩) | (go_at_call 44; (with_reducible refine (spec_ValueOK.calls a0_4 a0_5 a0_6 true _ A6.out).mono ?_); rintro e w16 ⟨rfl, hb⟩; have n0_ := Aside0.mk (blk_below (g := gb141) (o := .cells #[.int .i64 a0_0, .int .i64 a0_1, .int .i64 a0_2, .string a0_3, .int .i64 a0_4, .int .i64 a0_5, .string a0_6] 44 (0, 0)) (by (with_reducible repeat (first | refine blk_drewN ?_ _ | refine blk_drew ?_ | refine blk_alloc ?_ _)); exact BK141.out) hb); have n1_ := Aside0.mk (below_step (by repeat (first | (with_reducible first | exact HB.out | apply below_alloc | apply pw_below_drewN | apply below_drew1 | refine below_set ?_ GE141.out) | exact HB.out)) hb); clear BK141; clear HB; have BK141 := n0_; have HB := n1_; clear n0_ n1_; (try clear hb); (try clear hb2); (try clear hk); (try clear hi); have hcz17_0 : w16.cell? ⟨gb141, 0, none⟩ = some (.int .i64 a0_0) := (blk_cell BK141.out 0).trans rfl; have hcz17_1 : w16.cell? ⟨gb141, 1, none⟩ = some (.int .i64 a0_1) := (blk_cell BK141.out 1).trans rfl; have hcz17_2 : w16.cell? ⟨gb141, 2, none⟩ = some (.int .i64 a0_2) := (blk_cell BK141.out 2).trans rfl; have hcz17_3 : w16.cell? ⟨gb141, 3, none⟩ = some (.string a0_3) := (blk_cell BK141.out 3).trans rfl; have hcz17_4 : w16.cell? ⟨gb141, 4, none⟩ = some (.int .i64 a0_4) := (blk_cell BK141.out 4).trans rfl; have hcz17_5 : w16.cell? ⟨gb141, 5, none⟩ = some (.int .i64 a0_5) := (blk_cell BK141.out 5).trans rfl; have hcz17_6 : w16.cell? ⟨gb141, 6, none⟩ = some (.string a0_6) := (blk_cell BK141.out 6).trans rfl; have hfz17_0 := blk_frozen BK141.out 0; have hfz17_1 := blk_frozen BK141.out 1; have hfz17_2 := blk_frozen BK141.out 2; have hfz17_3 := blk_frozen BK141.out 3; have hfz17_4 := blk_frozen BK141.out 4; have hfz17_5 := blk_frozen BK141.out 5; have hfz17_6 := blk_frozen BK141.out 6) | (go_at_call 53; (with_reducible refine (spec_l01In.calls a0_1 0 10000 true _ A12.out).mono ?_); rintro e w' ⟨rfl, ⟨nd, rfl⟩⟩) | (go_at_call 53; (with_reducible refine (spec_l01In.calls a0_2 0 10000 t145 _ A14.out).mono ?_); rintro e w' ⟨rfl, ⟨nd, rfl⟩⟩))
            go_meet
            case rel => exact ⟨_, (!t145), (by first | rfl | (simp; done) | (simp [*]; done)), H', ⟨by first | omega | exact Nat.le_refl _⟩, ⟨by (with_reducible repeat (first | refine blk_drewN ?_ _ | refine blk_drew ?_ | refine blk_alloc ?_ _)); exact BK141.out⟩, ⟨by repeat (first | (with_reducible first | exact HB.out | apply below_alloc | apply pw_below_drewN | apply below_drew1 | refine below_set ?_ GE141.out) | exact HB.out)⟩⟩
          · replace c13 := Bool.eq_false_iff.mpr c13
            subst c13
            have H1 : (spec_InsText.j0 k true a0_0 a0_1 a0_2 a0_3 a0_4 a0_5 a0_6) = some (r1, r2) := by rw [if_neg (show ¬ (false = true) by decide)] at H; exact H
            clear H
            have H := H1
            clear H1
            have H' := Aside0.mk H
            clear H
            have hcz18_0 : w3.cell? ⟨gb141, 0, none⟩ = some (.int .i64 a0_0) := (blk_cell BK141.out 0).trans rfl
            have hcz18_1 : w3.cell? ⟨gb141, 1, none⟩ = some (.int .i64 a0_1) := (blk_cell BK141.out 1).trans rfl
            have hcz18_2 : w3.cell? ⟨gb141, 2, none⟩ = some (.int .i64 a0_2) := (blk_cell BK141.out 2).trans rfl
            have hcz18_3 : w3.cell? ⟨gb141, 3, none⟩ = some (.string a0_3) := (blk_cell BK141.out 3).trans rfl
            have hcz18_4 : w3.cell? ⟨gb141, 4, none⟩ = some (.int .i64 a0_4) := (blk_cell BK141.out 4).trans rfl
            have hcz18_5 : w3.cell? ⟨gb141, 5, none⟩ = some (.int .i64 a0_5) := (blk_cell BK141.out 5).trans rfl
            have hcz18_6 : w3.cell? ⟨gb141, 6, none⟩ = some (.string a0_6) := (blk_cell BK141.out 6).trans rfl
            have hfz18_0 := blk_frozen BK141.out 0
            have hfz18_1 := blk_frozen BK141.out 1
            have hfz18_2 := blk_frozen BK141.out 2
            have hfz18_3 := blk_frozen BK141.out 3
            have hfz18_4 := blk_frozen BK141.out 4
            have hfz18_5 := blk_frozen BK141.out 5
            have hfz18_6 := blk_frozen BK141.out 6
            go_wp2_with (first | ((with_reducible refine gate_callee (f := 53) rfl ?_); refine goesL_ (some 7) rfl rfl Tryd.func53 (by kernel_rfl) rfl #[.int .i64 a0_0, .int .i64 1, .int .i64 16] rfl (by (try simp only [List.map_toArray, List.map_cons, List.map_nil]); first | done | rfl | (simp only [List.length_drop, List.length_take]; rfl)) ?_; (with_reducible refine (spec_l01In.calls a0_0 1 16 true _ A4.out).mono ?_); rintro e w' ⟨rfl, ⟨nd, rfl⟩⟩; refine ⟨_, rfl, ?_⟩) | (go_at_call 44; (with_reducible refine (spec_ValueOK.calls a0_4 a0_5 a0_6 true _ A6.out).mono ?_); rintro e w19 ⟨rfl, hb⟩; have n0_ := Aside0.mk (blk_below (g := gb141) (o := .cells #[.int .i64 a0_0, .int .i64 a0_1, .int .i64 a0_2, .string a0_3, .int .i64 a0_4, .int .i64 a0_5, .string a0_6] 44 (0, 0)) (by (with_reducible repeat (first | refine blk_drewN ?_ _ | refine blk_drew ?_ | refine blk_alloc ?_ _)); exact BK141.out) hb); have n1_ := Aside0.mk (below_step (by repeat (first | (with_reducible first | exact HB.out | apply below_alloc | apply pw_below_drewN | apply below_drew1 | refine below_set ?_ GE141.out) | exact HB.out)) hb); clear BK141; clear HB; have BK141 := n0_; have HB := n1_; clear n0_ n1_; (try clear hb); (try clear hb2); (try clear hk); (try clear hi); have hcz20_0 : w19.cell? ⟨gb141, 0, none⟩ = some (.int .i64 a0_0) := (blk_cell BK141.out 0).trans rfl; have hcz20_1 : w19.cell? ⟨gb141, 1, none⟩ = some (.int .i64 a0_1) := (blk_cell BK141.out 1).trans rfl; have hcz20_2 : w19.cell? ⟨gb141, 2, none⟩ = some (.int .i64 a0_2) := (blk_cell BK141.out 2).trans rfl; have hcz20_3 : w19.cell? ⟨gb141, 3, none⟩ = some (.string a0_3) := (blk_cell BK141.out 3).trans rfl; have hcz20_4 : w19.cell? ⟨gb141, 4, none⟩ = some (.int .i64 a0_4) := (blk_cell BK141.out 4).trans rfl; have hcz20_5 : w19.cell? ⟨gb141, 5, none⟩ = some (.int .i64 a0_5) := (blk_cell BK141.out 5).trans rfl; have hcz20_6 : w19.cell? ⟨gb141, 6, none⟩ = some (.string a0_6) := (blk_cell BK141.out 6).trans rfl; have hfz20_0 := blk_frozen BK141.out 0; have hfz20_1 := blk_frozen BK141.out 1; have hfz20_2 := blk_frozen BK141.out 2; have hfz20_3 := blk_frozen BK141.out 3; have hfz20_4 := blk_frozen BK141.out 4; have hfz20_5 := blk_frozen BK141.out 5; have hfz20_6 := blk_frozen BK141.out 6) | (go_at_call 53; (with_reducible refine (spec_l01In.calls a0_1 0 10000 false _ A12.out).mono ?_); rintro e w' ⟨rfl, ⟨nd, rfl⟩⟩))
            go_meet
            case rel => exact ⟨_, (true), (by first | rfl | (simp; done) | (simp [*]; done)), H', ⟨by first | omega | exact Nat.le_refl _⟩, ⟨by (with_reducible repeat (first | refine blk_drewN ?_ _ | refine blk_drew ?_ | refine blk_alloc ?_ _)); exact BK141.out⟩, ⟨by repeat (first | (with_reducible first | exact HB.out | apply below_alloc | apply pw_below_drewN | apply below_drew1 | refine below_set ?_ GE141.out) | exact HB.out)⟩⟩
      · replace c7 := Bool.eq_false_iff.mpr c7
        subst c7
        have H1 : (spec_InsText.j0 k true a0_0 a0_1 a0_2 a0_3 a0_4 a0_5 a0_6) = some (r1, r2) := by rw [if_neg (show ¬ (false = true) by decide)] at H; exact H
        clear H
        have H := H1
        clear H1
        have H' := Aside0.mk H
        clear H
        have hcz21_0 : w3.cell? ⟨gb141, 0, none⟩ = some (.int .i64 a0_0) := (blk_cell BK141.out 0).trans rfl
        have hcz21_1 : w3.cell? ⟨gb141, 1, none⟩ = some (.int .i64 a0_1) := (blk_cell BK141.out 1).trans rfl
        have hcz21_2 : w3.cell? ⟨gb141, 2, none⟩ = some (.int .i64 a0_2) := (blk_cell BK141.out 2).trans rfl
        have hcz21_3 : w3.cell? ⟨gb141, 3, none⟩ = some (.string a0_3) := (blk_cell BK141.out 3).trans rfl
        have hcz21_4 : w3.cell? ⟨gb141, 4, none⟩ = some (.int .i64 a0_4) := (blk_cell BK141.out 4).trans rfl
        have hcz21_5 : w3.cell? ⟨gb141, 5, none⟩ = some (.int .i64 a0_5) := (blk_cell BK141.out 5).trans rfl
        have hcz21_6 : w3.cell? ⟨gb141, 6, none⟩ = some (.string a0_6) := (blk_cell BK141.out 6).trans rfl
        have hfz21_0 := blk_frozen BK141.out 0
        have hfz21_1 := blk_frozen BK141.out 1
        have hfz21_2 := blk_frozen BK141.out 2
        have hfz21_3 := blk_frozen BK141.out 3
        have hfz21_4 := blk_frozen BK141.out 4
        have hfz21_5 := blk_frozen BK141.out 5
        have hfz21_6 := blk_frozen BK141.out 6
        go_wp2_with (first | ((with_reducible refine gate_callee (f := 53) rfl ?_); refine goesL_ (some 7) rfl rfl Tryd.func53 (by kernel_rfl) rfl #[.int .i64 a0_0, .int .i64 1, .int .i64 16] rfl (by (try simp only [List.map_toArray, List.map_cons, List.map_nil]); first | done | rfl | (simp only [List.length_drop, List.length_take]; rfl)) ?_; (with_reducible refine (spec_l01In.calls a0_0 1 16 true _ A4.out).mono ?_); rintro e w' ⟨rfl, ⟨nd, rfl⟩⟩; refine ⟨_, rfl, ?_⟩) | (go_at_call 44; (with_reducible refine (spec_ValueOK.calls a0_4 a0_5 a0_6 false _ A6.out).mono ?_); rintro e w22 ⟨rfl, hb⟩; have n0_ := Aside0.mk (blk_below (g := gb141) (o := .cells #[.int .i64 a0_0, .int .i64 a0_1, .int .i64 a0_2, .string a0_3, .int .i64 a0_4, .int .i64 a0_5, .string a0_6] 44 (0, 0)) (by (with_reducible repeat (first | refine blk_drewN ?_ _ | refine blk_drew ?_ | refine blk_alloc ?_ _)); exact BK141.out) hb); have n1_ := Aside0.mk (below_step (by repeat (first | (with_reducible first | exact HB.out | apply below_alloc | apply pw_below_drewN | apply below_drew1 | refine below_set ?_ GE141.out) | exact HB.out)) hb); clear BK141; clear HB; have BK141 := n0_; have HB := n1_; clear n0_ n1_; (try clear hb); (try clear hb2); (try clear hk); (try clear hi)))
        go_meet
        case rel => exact ⟨_, (true), (by first | rfl | (simp; done) | (simp [*]; done)), H', ⟨by first | omega | exact Nat.le_refl _⟩, ⟨by (with_reducible repeat (first | refine blk_drewN ?_ _ | refine blk_drew ?_ | refine blk_alloc ?_ _)); exact BK141.out⟩, ⟨by repeat (first | (with_reducible first | exact HB.out | apply below_alloc | apply pw_below_drewN | apply below_drew1 | refine below_set ?_ GE141.out) | exact HB.out)⟩⟩
    · replace c5 := Bool.eq_false_iff.mpr c5
      subst c5
      have H1 : (spec_InsText.j0 k true a0_0 a0_1 a0_2 a0_3 a0_4 a0_5 a0_6) = some (r1, r2) := by rw [if_neg (show ¬ (false = true) by decide)] at H; exact H
      clear H
      have H := H1
      clear H1
      have H' := Aside0.mk H
      clear H
      have hcz23_0 : w3.cell? ⟨gb141, 0, none⟩ = some (.int .i64 a0_0) := (blk_cell BK141.out 0).trans rfl
      have hcz23_1 : w3.cell? ⟨gb141, 1, none⟩ = some (.int .i64 a0_1) := (blk_cell BK141.out 1).trans rfl
      have hcz23_2 : w3.cell? ⟨gb141, 2, none⟩ = some (.int .i64 a0_2) := (blk_cell BK141.out 2).trans rfl
      have hcz23_3 : w3.cell? ⟨gb141, 3, none⟩ = some (.string a0_3) := (blk_cell BK141.out 3).trans rfl
      have hcz23_4 : w3.cell? ⟨gb141, 4, none⟩ = some (.int .i64 a0_4) := (blk_cell BK141.out 4).trans rfl
      have hcz23_5 : w3.cell? ⟨gb141, 5, none⟩ = some (.int .i64 a0_5) := (blk_cell BK141.out 5).trans rfl
      have hcz23_6 : w3.cell? ⟨gb141, 6, none⟩ = some (.string a0_6) := (blk_cell BK141.out 6).trans rfl
      have hfz23_0 := blk_frozen BK141.out 0
      have hfz23_1 := blk_frozen BK141.out 1
      have hfz23_2 := blk_frozen BK141.out 2
      have hfz23_3 := blk_frozen BK141.out 3
      have hfz23_4 := blk_frozen BK141.out 4
      have hfz23_5 := blk_frozen BK141.out 5
      have hfz23_6 := blk_frozen BK141.out 6
      go_wp2_with (first | ((with_reducible refine gate_callee (f := 53) rfl ?_); refine goesL_ (some 7) rfl rfl Tryd.func53 (by kernel_rfl) rfl #[.int .i64 a0_0, .int .i64 1, .int .i64 16] rfl (by (try simp only [List.map_toArray, List.map_cons, List.map_nil]); first | done | rfl | (simp only [List.length_drop, List.length_take]; rfl)) ?_; (with_reducible refine (spec_l01In.calls a0_0 1 16 false _ A4.out).mono ?_); rintro e w' ⟨rfl, ⟨nd, rfl⟩⟩; refine ⟨_, rfl, ?_⟩))
      go_meet
      case rel => exact ⟨_, (true), (by first | rfl | (simp; done) | (simp [*]; done)), H', ⟨by first | omega | exact Nat.le_refl _⟩, ⟨by (with_reducible repeat (first | refine blk_drewN ?_ _ | refine blk_drew ?_ | refine blk_alloc ?_ _)); exact BK141.out⟩, ⟨by repeat (first | (with_reducible first | exact HB.out | apply below_alloc | apply pw_below_drewN | apply below_drew1 | refine below_set ?_ GE141.out) | exact HB.out)⟩⟩
  case rest =>
    clear HC2
    try clear c1
    try clear c2
    try clear p2
    try clear c5
    try clear c7
    try clear c8
    try clear c8b0
    try clear c8b1
    try clear c13
    try clear c21
    try clear hcz11_0
    try clear hcz11_1
    try clear hcz11_2
    try clear hcz11_3
    try clear hcz11_4
    try clear hcz11_5
    try clear hcz11_6
    try clear hcz15_0
    try clear hcz15_1
    try clear hcz15_2
    try clear hcz15_3
    try clear hcz15_4
    try clear hcz15_5
    try clear hcz15_6
    try clear hcz17_0
    try clear hcz17_1
    try clear hcz17_2
    try clear hcz17_3
    try clear hcz17_4
    try clear hcz17_5
    try clear hcz17_6
    try clear hcz18_0
    try clear hcz18_1
    try clear hcz18_2
    try clear hcz18_3
    try clear hcz18_4
    try clear hcz18_5
    try clear hcz18_6
    try clear hcz20_0
    try clear hcz20_1
    try clear hcz20_2
    try clear hcz20_3
    try clear hcz20_4
    try clear hcz20_5
    try clear hcz20_6
    try clear hcz21_0
    try clear hcz21_1
    try clear hcz21_2
    try clear hcz21_3
    try clear hcz21_4
    try clear hcz21_5
    try clear hcz21_6
    try clear hcz23_0
    try clear hcz23_1
    try clear hcz23_2
    try clear hcz23_3
    try clear hcz23_4
    try clear hcz23_5
    try clear hcz23_6
    try clear hcz9_0
    try clear hcz9_1
    try clear hcz9_2
    try clear hcz9_3
    try clear hcz9_4
    try clear hcz9_5
    try clear hcz9_6
    try clear hfz11_0
    try clear hfz11_1
    try clear hfz11_2
    try clear hfz11_3
    try clear hfz11_4
    try clear hfz11_5
    try clear hfz11_6
    try clear hfz15_0
    try clear hfz15_1
    try clear hfz15_2
    try clear hfz15_3
    try clear hfz15_4
    try clear hfz15_5
    try clear hfz15_6
    try clear hfz17_0
    try clear hfz17_1
    try clear hfz17_2
    try clear hfz17_3
    try clear hfz17_4
    try clear hfz17_5
    try clear hfz17_6
    try clear hfz18_0
    try clear hfz18_1
    try clear hfz18_2
    try clear hfz18_3
    try clear hfz18_4
    try clear hfz18_5
    try clear hfz18_6
    try clear hfz20_0
    try clear hfz20_1
    try clear hfz20_2
    try clear hfz20_3
    try clear hfz20_4
    try clear hfz20_5
    try clear hfz20_6
    try clear hfz21_0
    try clear hfz21_1
    try clear hfz21_2
    try clear hfz21_3
    try clear hfz21_4
    try clear hfz21_5
    try clear hfz21_6
    try clear hfz23_0
    try clear hfz23_1
    try clear hfz23_2
    try clear hfz23_3
    try clear hfz23_4
    try clear hfz23_5
    try clear hfz23_6
    try clear hfz9_0
    try clear hfz9_1
    try clear hfz9_2
    try clear hfz9_3
    try clear hfz9_4
    try clear hfz9_5
    try clear hfz9_6
    obtain ⟨kq, x32_1, rfl, HA, HJ1, BK141, HB⟩ := hcut
    cases kq with
    | zero => exact absurd HA.out (by simp [spec_InsText.j0])
    | succ kj1 =>
      have H := HA.out
      clear HA
      simp only [spec_InsText.j0] at H
      by_cases c24 : x32_1 = true
      · subst c24
        have H1 : (some ((⟨#[]⟩ : ByteArray), 1)) = some (r1, r2) := by rw [if_pos rfl] at H; exact H
        clear H
        have H := H1
        clear H1
        simp only [Option.some.injEq, Prod.mk.injEq] at H
        obtain ⟨rfl, rfl⟩ := H
        go_wp2
        go_ret2
        exact ⟨by first | rfl | exact My.ret_isEmpty _ | (simp [errW_none, errW_some] <;> rfl) | (simp [*, errW_none, errW_some] <;> rfl), by repeat (first | (with_reducible first | exact HB.out | apply below_alloc | apply pw_below_drewN | apply below_drew1 | refine below_set ?_ GE141.out) | exact HB.out)⟩
      · replace c24 := Bool.eq_false_iff.mpr c24
        subst c24
        have H1 : ((spec_l05Names.f).bind fun t146 => (if 0 ≤ a0_0 then (if a0_0 < (t146.length : Int) then (if a0_0 = 1 then (if a0_4 = 3 then (if (rdOf ByteArray.empty t146 a0_0).size + 1 ≤ 9223372036854775807 then ((spec_l02Quote.f kj1 a0_6).bind fun t150 => (if ((rdOf ByteArray.empty t146 a0_0) ++ (⟨#[32]⟩ : ByteArray)).size + t150.size ≤ 9223372036854775807 then (some (((rdOf ByteArray.empty t146 a0_0) ++ (⟨#[32]⟩ : ByteArray)) ++ t150, 0)) else (none))) else (none)) else (if (rdOf ByteArray.empty t146 a0_0).size + 1 ≤ 9223372036854775807 then ((spec_l01ValueText.f kj1 a0_4 a0_5 a0_6).bind fun t151 => (if ((rdOf ByteArray.empty t146 a0_0) ++ (⟨#[32]⟩ : ByteArray)).size + t151.size ≤ 9223372036854775807 then (some (((rdOf ByteArray.empty t146 a0_0) ++ (⟨#[32]⟩ : ByteArray)) ++ t151, 0)) else (none))) else (none))) else (if a0_0 = 4 then (spec_InsText.j1 kj1 (rdOf ByteArray.empty t146 a0_0) a0_0 (a0_0 == 4) a0_0 a0_1 a0_2 a0_3 a0_4 a0_5 a0_6) else (spec_InsText.j1 kj1 (rdOf ByteArray.empty t146 a0_0) a0_0 (a0_0 == 5) a0_0 a0_1 a0_2 a0_3 a0_4 a0_5 a0_6))) else (none)) else (none))) = some (r1, r2) := by rw [if_neg (show ¬ (false = true) by decide)] at H; exact H
        clear H
        have H := H1
        clear H1
        replace H := Option.bind_eq_some_iff.mp H
        obtain ⟨t146, A250, H⟩ := H
        replace H : (if 0 ≤ a0_0 then (if a0_0 < (t146.length : Int) then (if a0_0 = 1 then (if a0_4 = 3 then (if (rdOf ByteArray.empty t146 a0_0).size + 1 ≤ 9223372036854775807 then ((spec_l02Quote.f kj1 a0_6).bind fun t150 => (if ((rdOf ByteArray.empty t146 a0_0) ++ (⟨#[32]⟩ : ByteArray)).size + t150.size ≤ 9223372036854775807 then (some (((rdOf ByteArray.empty t146 a0_0) ++ (⟨#[32]⟩ : ByteArray)) ++ t150, 0)) else (none))) else (none)) else (if (rdOf ByteArray.empty t146 a0_0).size + 1 ≤ 9223372036854775807 then ((spec_l01ValueText.f kj1 a0_4 a0_5 a0_6).bind fun t151 => (if ((rdOf ByteArray.empty t146 a0_0) ++ (⟨#[32]⟩ : ByteArray)).size + t151.size ≤ 9223372036854775807 then (some (((rdOf ByteArray.empty t146 a0_0) ++ (⟨#[32]⟩ : ByteArray)) ++ t151, 0)) else (none))) else (none))) else (if a0_0 = 4 then (spec_InsText.j1 kj1 (rdOf ByteArray.empty t146 a0_0) a0_0 (a0_0 == 4) a0_0 a0_1 a0_2 a0_3 a0_4 a0_5 a0_6) else (spec_InsText.j1 kj1 (rdOf ByteArray.empty t146 a0_0) a0_0 (a0_0 == 5) a0_0 a0_1 a0_2 a0_3 a0_4 a0_5 a0_6))) else (none)) else (none)) = some (r1, r2) := H
        have A25 := Aside0.mk A250
        clear A250
        by_cases c26 : 0 ≤ a0_0
        · rw [if_pos c26] at H
          have c26b0 : decide (0 ≤ a0_0) = true := decide_eq_true c26
          clear c26
          by_cases c27 : a0_0 < (t146.length : Int)
          · rw [if_pos c27] at H
            have c27b0 : decide (a0_0 < (t146.length : Int)) = true := decide_eq_true c27
            clear c27
            by_cases c28 : a0_0 = 1
            · rw [if_pos c28] at H
              have c28b0 : (a0_0 == 1) = true := beq_iff_eq.mpr c28
              have c28b1 : (a0_0 != 1) = false := bne_eq_false_iff_eq.mpr c28
              clear c28
              by_cases c29 : a0_4 = 3
              · rw [if_pos c29] at H
                have c29b0 : (a0_4 == 3) = true := beq_iff_eq.mpr c29
                have c29b1 : (a0_4 != 3) = false := bne_eq_false_iff_eq.mpr c29
                clear c29
                by_cases c30 : (rdOf ByteArray.empty t146 a0_0).size + 1 ≤ 9223372036854775807
                · rw [if_pos c30] at H
                  have c30b0 := eq_true c30
                  have c30b1 : decide ((rdOf ByteArray.empty t146 a0_0).size + 1 ≤ 9223372036854775807) = true := decide_eq_true c30
                  try have c30b2 : (9223372036854775807 < (rdOf ByteArray.empty t146 a0_0).size + 1) = False := eq_false (Nat.not_lt.2 c30)
                  replace H := Option.bind_eq_some_iff.mp H
                  obtain ⟨t150, A310, H⟩ := H
                  replace H : (if ((rdOf ByteArray.empty t146 a0_0) ++ (⟨#[32]⟩ : ByteArray)).size + t150.size ≤ 9223372036854775807 then (some (((rdOf ByteArray.empty t146 a0_0) ++ (⟨#[32]⟩ : ByteArray)) ++ t150, 0)) else (none)) = some (r1, r2) := H
                  have A31 := Aside0.mk A310
                  clear A310
                  by_cases c32 : ((rdOf ByteArray.empty t146 a0_0) ++ (⟨#[32]⟩ : ByteArray)).size + t150.size ≤ 9223372036854775807
                  · rw [if_pos c32] at H
                    have c32b0 := eq_true c32
                    have c32b1 : decide (((rdOf ByteArray.empty t146 a0_0) ++ (⟨#[32]⟩ : ByteArray)).size + t150.size ≤ 9223372036854775807) = true := decide_eq_true c32
                    have c32b7_ : (rdOf ByteArray.empty t146 a0_0).size + 1 + t150.size ≤ 9223372036854775807 := by have h_ := c32; have e0_ : (⟨#[32]⟩ : ByteArray).size = 1 := rfl; simp only [ByteArray.size_append] at h_; omega
                    have c32b8 : decide ((rdOf ByteArray.empty t146 a0_0).size + 1 + t150.size ≤ 9223372036854775807) = true := decide_eq_true c32b7_
                    have c32b9 : (9223372036854775807 < (rdOf ByteArray.empty t146 a0_0).size + 1 + t150.size) = False := eq_false (Nat.not_lt.2 c32b7_)
                    have c32b7 := eq_true c32b7_
                    clear c32b7_
                    try have c32b2 : (9223372036854775807 < ((rdOf ByteArray.empty t146 a0_0) ++ (⟨#[32]⟩ : ByteArray)).size + t150.size) = False := eq_false (Nat.not_lt.2 c32)
                    simp only [Option.some.injEq, Prod.mk.injEq] at H
                    obtain ⟨rfl, rfl⟩ := H
                    try go_wp2
                    have n0_ := Aside0.mk (blk_drew BK141.out)
                    have n1_ := Aside0.mk (below_drew1 HB.out)
                    clear BK141
                    clear HB
                    have BK141 := n0_
                    have HB := n1_
                    clear n0_ n1_
                    have hpgb141_0_ : wc.drew.cell? ⟨gb141, 0, none⟩ = some (.int .i64 a0_0) := (blk_cell BK141.out 0).trans rfl
                    have hpgb141_1_ : wc.drew.cell? ⟨gb141, 1, none⟩ = some (.int .i64 a0_1) := (blk_cell BK141.out 1).trans rfl
                    have hpgb141_2_ : wc.drew.cell? ⟨gb141, 2, none⟩ = some (.int .i64 a0_2) := (blk_cell BK141.out 2).trans rfl
                    have hpgb141_3_ : wc.drew.cell? ⟨gb141, 3, none⟩ = some (.string a0_3) := (blk_cell BK141.out 3).trans rfl
                    have hpgb141_4_ : wc.drew.cell? ⟨gb141, 4, none⟩ = some (.int .i64 a0_4) := (blk_cell BK141.out 4).trans rfl
                    have hpgb141_5_ : wc.drew.cell? ⟨gb141, 5, none⟩ = some (.int .i64 a0_5) := (blk_cell BK141.out 5).trans rfl
                    have hpgb141_6_ : wc.drew.cell? ⟨gb141, 6, none⟩ = some (.string a0_6) := (blk_cell BK141.out 6).trans rfl
                    have hrgb141_0_ : wc.cell? ⟨gb141, 0, none⟩ = some (.int .i64 a0_0) := hpgb141_0_
                    have hrgb141_1_ : wc.cell? ⟨gb141, 1, none⟩ = some (.int .i64 a0_1) := hpgb141_1_
                    have hrgb141_2_ : wc.cell? ⟨gb141, 2, none⟩ = some (.int .i64 a0_2) := hpgb141_2_
                    have hrgb141_3_ : wc.cell? ⟨gb141, 3, none⟩ = some (.string a0_3) := hpgb141_3_
                    have hrgb141_4_ : wc.cell? ⟨gb141, 4, none⟩ = some (.int .i64 a0_4) := hpgb141_4_
                    have hrgb141_5_ : wc.cell? ⟨gb141, 5, none⟩ = some (.int .i64 a0_5) := hpgb141_5_
                    have hrgb141_6_ : wc.cell? ⟨gb141, 6, none⟩ = some (.string a0_6) := hpgb141_6_
                    go_region_with (go_at_call 54; (with_reducible refine (spec_l05Names.calls  t146 _ A25.out).mono ?_); rintro e w34 ⟨v147, rfl, ho0, hb⟩; have n0_ := Aside0.mk (Kd.R_lower ho0 (below_size (by repeat (first | (with_reducible first | exact HB.out | apply below_alloc | apply pw_below_drewN | apply below_drew1 | refine below_set ?_ GE141.out) | exact HB.out)))); have n1_ := Aside0.mk (blk_below (g := gb141) (o := .cells #[.int .i64 a0_0, .int .i64 a0_1, .int .i64 a0_2, .string a0_3, .int .i64 a0_4, .int .i64 a0_5, .string a0_6] 44 (0, 0)) (by (with_reducible repeat (first | refine blk_drewN ?_ _ | refine blk_drew ?_ | refine blk_alloc ?_ _)); exact BK141.out) hb); have n2_ := Aside0.mk (below_step (by repeat (first | (with_reducible first | exact HB.out | apply below_alloc | apply pw_below_drewN | apply below_drew1 | refine below_set ?_ GE141.out) | exact HB.out)) hb); clear BK141; clear HB; have HO148 := n0_; have BK141 := n1_; have HB := n2_; clear n0_ n1_ n2_; (try clear hb); (try clear hb2); (try clear hk); (try clear hi); (try clear ho0); obtain ⟨Ao35, co35, eo35⟩ := Kd.R_slice HO148.out; (first | subst eo35 | (injection eo35 with f1_ f2_ f3_; have f4_ := f1_.symm; have f5_ := f3_.symm; clear f1_ f2_ f3_; subst f4_; subst f5_)); have p149 : 0 ≤ (a0_0 : Int) := of_decide_eq_true (by first | (with_reducible assumption) | assumption); have q149 : a0_0 < (t146.length : Int) := of_decide_eq_true (by first | (with_reducible assumption) | assumption); obtain ⟨ad149, e149, hx149_0⟩ := Kd.at_string (Kd.R_reads' HO148.out).2.2 a0_0 p149 q149; cases e149; replace p149 := eq_true p149; replace q149 := eq_true q149; have hqgb141_0_ : w34.cell? ⟨gb141, 0, none⟩ = some (.int .i64 a0_0) := (blk_cell BK141.out 0).trans rfl; have hqgb141_1_ : w34.cell? ⟨gb141, 1, none⟩ = some (.int .i64 a0_1) := (blk_cell BK141.out 1).trans rfl; have hqgb141_2_ : w34.cell? ⟨gb141, 2, none⟩ = some (.int .i64 a0_2) := (blk_cell BK141.out 2).trans rfl; have hqgb141_3_ : w34.cell? ⟨gb141, 3, none⟩ = some (.string a0_3) := (blk_cell BK141.out 3).trans rfl; have hqgb141_4_ : w34.cell? ⟨gb141, 4, none⟩ = some (.int .i64 a0_4) := (blk_cell BK141.out 4).trans rfl; have hqgb141_5_ : w34.cell? ⟨gb141, 5, none⟩ = some (.int .i64 a0_5) := (blk_cell BK141.out 5).trans rfl; have hqgb141_6_ : w34.cell? ⟨gb141, 6, none⟩ = some (.string a0_6) := (blk_cell BK141.out 6).trans rfl)
                    all_goals
                      have hcz36_0 : w34.cell? ⟨gb141, 0, none⟩ = some (.int .i64 a0_0) := (blk_cell BK141.out 0).trans rfl
                      have hcz36_1 : w34.cell? ⟨gb141, 1, none⟩ = some (.int .i64 a0_1) := (blk_cell BK141.out 1).trans rfl
                      have hcz36_2 : w34.cell? ⟨gb141, 2, none⟩ = some (.int .i64 a0_2) := (blk_cell BK141.out 2).trans rfl
                      have hcz36_3 : w34.cell? ⟨gb141, 3, none⟩ = some (.string a0_3) := (blk_cell BK141.out 3).trans rfl
                      have hcz36_4 : w34.cell? ⟨gb141, 4, none⟩ = some (.int .i64 a0_4) := (blk_cell BK141.out 4).trans rfl
                      have hcz36_5 : w34.cell? ⟨gb141, 5, none⟩ = some (.int .i64 a0_5) := (blk_cell BK141.out 5).trans rfl
                      have hcz36_6 : w34.cell? ⟨gb141, 6, none⟩ = some (.string a0_6) := (blk_cell BK141.out 6).trans rfl
                      have hfz36_0 := blk_frozen BK141.out 0
                      have hfz36_1 := blk_frozen BK141.out 1
                      have hfz36_2 := blk_frozen BK141.out 2
                      have hfz36_3 := blk_frozen BK141.out 3
                      have hfz36_4 := blk_frozen BK141.out 4
                      have hfz36_5 := blk_frozen BK141.out 5
                      have hfz36_6 := blk_frozen BK141.out 6
                      try go_wp2_with (first | ((with_reducible refine gate_callee (f := 55) rfl ?_); refine goesL_ (some 51) rfl rfl Tryd.func55 (by kernel_rfl) rfl #[.string a0_6] rfl (by (try simp only [List.map_toArray, List.map_cons, List.map_nil]); first | done | rfl | (simp only [List.length_drop, List.length_take]; rfl)) ?_; (with_reducible refine (spec_l02Quote.calls kj1 a0_6 t150 _ A31.out).mono ?_); rintro e w37 ⟨rfl, hb⟩; refine ⟨_, rfl, ?_⟩; have n0_ := Aside0.mk (Kd.R_below (by (with_reducible repeat (first | apply Kd.R_alloc | apply Kd.R_drewN | apply Kd.R_drew)); exact HO148.out) hb); have n1_ := Aside0.mk (blk_below (g := gb141) (o := .cells #[.int .i64 a0_0, .int .i64 a0_1, .int .i64 a0_2, .string a0_3, .int .i64 a0_4, .int .i64 a0_5, .string a0_6] 44 (0, 0)) (by (with_reducible repeat (first | refine blk_drewN ?_ _ | refine blk_drew ?_ | refine blk_alloc ?_ _)); exact BK141.out) hb); have n2_ := Aside0.mk (below_step (by repeat (first | (with_reducible first | exact HB.out | apply below_alloc | apply pw_below_drewN | apply below_drew1 | refine below_set ?_ GE141.out) | exact HB.out)) hb); clear HO148; clear BK141; clear HB; have HO148 := n0_; have BK141 := n1_; have HB := n2_; clear n0_ n1_ n2_; (try clear hb); (try clear hb2); (try clear hk); (try clear hi)))
                      go_ret2
                      exact ⟨by first | rfl | exact My.ret_isEmpty _ | (simp [errW_none, errW_some] <;> rfl) | (simp [*, errW_none, errW_some] <;> rfl), by repeat (first | (with_reducible first | exact HB.out | apply below_alloc | apply pw_below_drewN | apply below_drew1 | refine below_set ?_ GE141.out) | exact HB.out)⟩
                  · rw [if_neg c32] at H
                    exact absurd H (by simp)
                · rw [if_neg c30] at H
                  exact absurd H (by simp)
              · rw [if_neg c29] at H
                have c29b0 : (a0_4 == 3) = false := beq_eq_false_iff_ne.mpr c29
                have c29b1 : (a0_4 != 3) = true := bne_iff_ne.mpr c29
                by_cases c38 : (rdOf ByteArray.empty t146 a0_0).size + 1 ≤ 9223372036854775807
                · rw [if_pos c38] at H
                  have c38b0 := eq_true c38
                  have c38b1 : decide ((rdOf ByteArray.empty t146 a0_0).size + 1 ≤ 9223372036854775807) = true := decide_eq_true c38
                  try have c38b2 : (9223372036854775807 < (rdOf ByteArray.empty t146 a0_0).size + 1) = False := eq_false (Nat.not_lt.2 c38)
                  replace H := Option.bind_eq_some_iff.mp H
                  obtain ⟨t151, A390, H⟩ := H
                  replace H : (if ((rdOf ByteArray.empty t146 a0_0) ++ (⟨#[32]⟩ : ByteArray)).size + t151.size ≤ 9223372036854775807 then (some (((rdOf ByteArray.empty t146 a0_0) ++ (⟨#[32]⟩ : ByteArray)) ++ t151, 0)) else (none)) = some (r1, r2) := H
                  have A39 := Aside0.mk A390
                  clear A390
                  by_cases c40 : ((rdOf ByteArray.empty t146 a0_0) ++ (⟨#[32]⟩ : ByteArray)).size + t151.size ≤ 9223372036854775807
                  · rw [if_pos c40] at H
                    have c40b0 := eq_true c40
                    have c40b1 : decide (((rdOf ByteArray.empty t146 a0_0) ++ (⟨#[32]⟩ : ByteArray)).size + t151.size ≤ 9223372036854775807) = true := decide_eq_true c40
                    have c40b7_ : (rdOf ByteArray.empty t146 a0_0).size + 1 + t151.size ≤ 9223372036854775807 := by have h_ := c40; have e0_ : (⟨#[32]⟩ : ByteArray).size = 1 := rfl; simp only [ByteArray.size_append] at h_; omega
                    have c40b8 : decide ((rdOf ByteArray.empty t146 a0_0).size + 1 + t151.size ≤ 9223372036854775807) = true := decide_eq_true c40b7_
                    have c40b9 : (9223372036854775807 < (rdOf ByteArray.empty t146 a0_0).size + 1 + t151.size) = False := eq_false (Nat.not_lt.2 c40b7_)
                    have c40b7 := eq_true c40b7_
                    clear c40b7_
                    try have c40b2 : (9223372036854775807 < ((rdOf ByteArray.empty t146 a0_0) ++ (⟨#[32]⟩ : ByteArray)).size + t151.size) = False := eq_false (Nat.not_lt.2 c40)
                    simp only [Option.some.injEq, Prod.mk.injEq] at H
                    obtain ⟨rfl, rfl⟩ := H
                    try go_wp2
                    have n0_ := Aside0.mk (blk_drew BK141.out)
                    have n1_ := Aside0.mk (below_drew1 HB.out)
                    clear BK141
                    clear HB
                    have BK141 := n0_
                    have HB := n1_
                    clear n0_ n1_
                    have hpgb141_0_ : wc.drew.cell? ⟨gb141, 0, none⟩ = some (.int .i64 a0_0) := (blk_cell BK141.out 0).trans rfl
                    have hpgb141_1_ : wc.drew.cell? ⟨gb141, 1, none⟩ = some (.int .i64 a0_1) := (blk_cell BK141.out 1).trans rfl
                    have hpgb141_2_ : wc.drew.cell? ⟨gb141, 2, none⟩ = some (.int .i64 a0_2) := (blk_cell BK141.out 2).trans rfl
                    have hpgb141_3_ : wc.drew.cell? ⟨gb141, 3, none⟩ = some (.string a0_3) := (blk_cell BK141.out 3).trans rfl
                    have hpgb141_4_ : wc.drew.cell? ⟨gb141, 4, none⟩ = some (.int .i64 a0_4) := (blk_cell BK141.out 4).trans rfl
                    have hpgb141_5_ : wc.drew.cell? ⟨gb141, 5, none⟩ = some (.int .i64 a0_5) := (blk_cell BK141.out 5).trans rfl
                    have hpgb141_6_ : wc.drew.cell? ⟨gb141, 6, none⟩ = some (.string a0_6) := (blk_cell BK141.out 6).trans rfl
                    have hrgb141_0_ : wc.cell? ⟨gb141, 0, none⟩ = some (.int .i64 a0_0) := hpgb141_0_
                    have hrgb141_1_ : wc.cell? ⟨gb141, 1, none⟩ = some (.int .i64 a0_1) := hpgb141_1_
                    have hrgb141_2_ : wc.cell? ⟨gb141, 2, none⟩ = some (.int .i64 a0_2) := hpgb141_2_
                    have hrgb141_3_ : wc.cell? ⟨gb141, 3, none⟩ = some (.string a0_3) := hpgb141_3_
                    have hrgb141_4_ : wc.cell? ⟨gb141, 4, none⟩ = some (.int .i64 a0_4) := hpgb141_4_
                    have hrgb141_5_ : wc.cell? ⟨gb141, 5, none⟩ = some (.int .i64 a0_5) := hpgb141_5_
                    have hrgb141_6_ : wc.cell? ⟨gb141, 6, none⟩ = some (.string a0_6) := hpgb141_6_
                    go_region_with (go_at_call 54; (with_reducible refine (spec_l05Names.calls  t146 _ A25.out).mono ?_); rintro e w42 ⟨v147, rfl, ho0, hb⟩; have n0_ := Aside0.mk (Kd.R_lower ho0 (below_size (by repeat (first | (with_reducible first | exact HB.out | apply below_alloc | apply pw_below_drewN | apply below_drew1 | refine below_set ?_ GE141.out) | exact HB.out)))); have n1_ := Aside0.mk (blk_below (g := gb141) (o := .cells #[.int .i64 a0_0, .int .i64 a0_1, .int .i64 a0_2, .string a0_3, .int .i64 a0_4, .int .i64 a0_5, .string a0_6] 44 (0, 0)) (by (with_reducible repeat (first | refine blk_drewN ?_ _ | refine blk_drew ?_ | refine blk_alloc ?_ _)); exact BK141.out) hb); have n2_ := Aside0.mk (below_step (by repeat (first | (with_reducible first | exact HB.out | apply below_alloc | apply pw_below_drewN | apply below_drew1 | refine below_set ?_ GE141.out) | exact HB.out)) hb); clear BK141; clear HB; have HO148 := n0_; have BK141 := n1_; have HB := n2_; clear n0_ n1_ n2_; (try clear hb); (try clear hb2); (try clear hk); (try clear hi); (try clear ho0); obtain ⟨Ao43, co43, eo43⟩ := Kd.R_slice HO148.out; (first | subst eo43 | (injection eo43 with f1_ f2_ f3_; have f4_ := f1_.symm; have f5_ := f3_.symm; clear f1_ f2_ f3_; subst f4_; subst f5_)); have p149 : 0 ≤ (a0_0 : Int) := of_decide_eq_true (by first | (with_reducible assumption) | assumption); have q149 : a0_0 < (t146.length : Int) := of_decide_eq_true (by first | (with_reducible assumption) | assumption); obtain ⟨ad149, e149, hx149_0⟩ := Kd.at_string (Kd.R_reads' HO148.out).2.2 a0_0 p149 q149; cases e149; replace p149 := eq_true p149; replace q149 := eq_true q149; have hqgb141_0_ : w42.cell? ⟨gb141, 0, none⟩ = some (.int .i64 a0_0) := (blk_cell BK141.out 0).trans rfl; have hqgb141_1_ : w42.cell? ⟨gb141, 1, none⟩ = some (.int .i64 a0_1) := (blk_cell BK141.out 1).trans rfl; have hqgb141_2_ : w42.cell? ⟨gb141, 2, none⟩ = some (.int .i64 a0_2) := (blk_cell BK141.out 2).trans rfl; have hqgb141_3_ : w42.cell? ⟨gb141, 3, none⟩ = some (.string a0_3) := (blk_cell BK141.out 3).trans rfl; have hqgb141_4_ : w42.cell? ⟨gb141, 4, none⟩ = some (.int .i64 a0_4) := (blk_cell BK141.out 4).trans rfl; have hqgb141_5_ : w42.cell? ⟨gb141, 5, none⟩ = some (.int .i64 a0_5) := (blk_cell BK141.out 5).trans rfl; have hqgb141_6_ : w42.cell? ⟨gb141, 6, none⟩ = some (.string a0_6) := (blk_cell BK141.out 6).trans rfl)
                    all_goals
                      have hcz44_0 : w42.cell? ⟨gb141, 0, none⟩ = some (.int .i64 a0_0) := (blk_cell BK141.out 0).trans rfl
                      have hcz44_1 : w42.cell? ⟨gb141, 1, none⟩ = some (.int .i64 a0_1) := (blk_cell BK141.out 1).trans rfl
                      have hcz44_2 : w42.cell? ⟨gb141, 2, none⟩ = some (.int .i64 a0_2) := (blk_cell BK141.out 2).trans rfl
                      have hcz44_3 : w42.cell? ⟨gb141, 3, none⟩ = some (.string a0_3) := (blk_cell BK141.out 3).trans rfl
                      have hcz44_4 : w42.cell? ⟨gb141, 4, none⟩ = some (.int .i64 a0_4) := (blk_cell BK141.out 4).trans rfl
                      have hcz44_5 : w42.cell? ⟨gb141, 5, none⟩ = some (.int .i64 a0_5) := (blk_cell BK141.out 5).trans rfl
                      have hcz44_6 : w42.cell? ⟨gb141, 6, none⟩ = some (.string a0_6) := (blk_cell BK141.out 6).trans rfl
                      have hfz44_0 := blk_frozen BK141.out 0
                      have hfz44_1 := blk_frozen BK141.out 1
                      have hfz44_2 := blk_frozen BK141.out 2
                      have hfz44_3 := blk_frozen BK141.out 3
                      have hfz44_4 := blk_frozen BK141.out 4
                      have hfz44_5 := blk_frozen BK141.out 5
                      have hfz44_6 := blk_frozen BK141.out 6
                      try go_wp2_with (first | ((with_reducible refine gate_callee (f := 45) rfl ?_); refine goesL_ (some 57) rfl rfl Tryd.func45 (by kernel_rfl) rfl #[.agg #[.int .i64 a0_4, .int .i64 a0_5, .string a0_6]] rfl (by (try simp only [List.map_toArray, List.map_cons, List.map_nil]); first | done | rfl | (simp only [List.length_drop, List.length_take]; rfl)) ?_; (with_reducible refine (spec_l01ValueText.calls kj1 a0_4 a0_5 a0_6 t151 _ A39.out).mono ?_); rintro e w45 ⟨rfl, hb⟩; refine ⟨_, rfl, ?_⟩; have n0_ := Aside0.mk (Kd.R_below (by (with_reducible repeat (first | apply Kd.R_alloc | apply Kd.R_drewN | apply Kd.R_drew)); exact HO148.out) hb); have n1_ := Aside0.mk (blk_below (g := gb141) (o := .cells #[.int .i64 a0_0, .int .i64 a0_1, .int .i64 a0_2, .string a0_3, .int .i64 a0_4, .int .i64 a0_5, .string a0_6] 44 (0, 0)) (by (with_reducible repeat (first | refine blk_drewN ?_ _ | refine blk_drew ?_ | refine blk_alloc ?_ _)); exact BK141.out) hb); have n2_ := Aside0.mk (below_step (by repeat (first | (with_reducible first | exact HB.out | apply below_alloc | apply pw_below_drewN | apply below_drew1 | refine below_set ?_ GE141.out) | exact HB.out)) hb); clear HO148; clear BK141; clear HB; have HO148 := n0_; have BK141 := n1_; have HB := n2_; clear n0_ n1_ n2_; (try clear hb); (try clear hb2); (try clear hk); (try clear hi)))
                      go_ret2
                      exact ⟨by first | rfl | exact My.ret_isEmpty _ | (simp [errW_none, errW_some] <;> rfl) | (simp [*, errW_none, errW_some] <;> rfl), by repeat (first | (with_reducible first | exact HB.out | apply below_alloc | apply pw_below_drewN | apply below_drew1 | refine below_set ?_ GE141.out) | exact HB.out)⟩
                  · rw [if_neg c40] at H
                    exact absurd H (by simp)
                · rw [if_neg c38] at H
                  exact absurd H (by simp)
            · rw [if_neg c28] at H
              have c28b0 : (a0_0 == 1) = false := beq_eq_false_iff_ne.mpr c28
              have c28b1 : (a0_0 != 1) = true := bne_iff_ne.mpr c28
              have HC46 := Aside0.mk H
              clear H
              try go_wp2
              have n0_ := Aside0.mk (blk_drew BK141.out)
              have n1_ := Aside0.mk (below_drew1 HB.out)
              clear BK141
              clear HB
              have BK141 := n0_
              have HB := n1_
              clear n0_ n1_
              have hpgb141_0_ : wc.drew.cell? ⟨gb141, 0, none⟩ = some (.int .i64 a0_0) := (blk_cell BK141.out 0).trans rfl
              have hpgb141_1_ : wc.drew.cell? ⟨gb141, 1, none⟩ = some (.int .i64 a0_1) := (blk_cell BK141.out 1).trans rfl
              have hpgb141_2_ : wc.drew.cell? ⟨gb141, 2, none⟩ = some (.int .i64 a0_2) := (blk_cell BK141.out 2).trans rfl
              have hpgb141_3_ : wc.drew.cell? ⟨gb141, 3, none⟩ = some (.string a0_3) := (blk_cell BK141.out 3).trans rfl
              have hpgb141_4_ : wc.drew.cell? ⟨gb141, 4, none⟩ = some (.int .i64 a0_4) := (blk_cell BK141.out 4).trans rfl
              have hpgb141_5_ : wc.drew.cell? ⟨gb141, 5, none⟩ = some (.int .i64 a0_5) := (blk_cell BK141.out 5).trans rfl
              have hpgb141_6_ : wc.drew.cell? ⟨gb141, 6, none⟩ = some (.string a0_6) := (blk_cell BK141.out 6).trans rfl
              have hrgb141_0_ : wc.cell? ⟨gb141, 0, none⟩ = some (.int .i64 a0_0) := hpgb141_0_
              have hrgb141_1_ : wc.cell? ⟨gb141, 1, none⟩ = some (.int .i64 a0_1) := hpgb141_1_
              have hrgb141_2_ : wc.cell? ⟨gb141, 2, none⟩ = some (.int .i64 a0_2) := hpgb141_2_
              have hrgb141_3_ : wc.cell? ⟨gb141, 3, none⟩ = some (.string a0_3) := hpgb141_3_
              have hrgb141_4_ : wc.cell? ⟨gb141, 4, none⟩ = some (.int .i64 a0_4) := hpgb141_4_
              have hrgb141_5_ : wc.cell? ⟨gb141, 5, none⟩ = some (.int .i64 a0_5) := hpgb141_5_
              have hrgb141_6_ : wc.cell? ⟨gb141, 6, none⟩ = some (.string a0_6) := hpgb141_6_
              go_region_with (go_at_call 54; (with_reducible refine (spec_l05Names.calls  t146 _ A25.out).mono ?_); rintro e w48 ⟨v147, rfl, ho0, hb⟩; have n0_ := Aside0.mk (Kd.R_lower ho0 (below_size (by repeat (first | (with_reducible first | exact HB.out | apply below_alloc | apply pw_below_drewN | apply below_drew1 | refine below_set ?_ GE141.out) | exact HB.out)))); have n1_ := Aside0.mk (blk_below (g := gb141) (o := .cells #[.int .i64 a0_0, .int .i64 a0_1, .int .i64 a0_2, .string a0_3, .int .i64 a0_4, .int .i64 a0_5, .string a0_6] 44 (0, 0)) (by (with_reducible repeat (first | refine blk_drewN ?_ _ | refine blk_drew ?_ | refine blk_alloc ?_ _)); exact BK141.out) hb); have n2_ := Aside0.mk (below_step (by repeat (first | (with_reducible first | exact HB.out | apply below_alloc | apply pw_below_drewN | apply below_drew1 | refine below_set ?_ GE141.out) | exact HB.out)) hb); clear BK141; clear HB; have HO148 := n0_; have BK141 := n1_; have HB := n2_; clear n0_ n1_ n2_; (try clear hb); (try clear hb2); (try clear hk); (try clear hi); (try clear ho0); obtain ⟨Ao49, co49, eo49⟩ := Kd.R_slice HO148.out; (first | subst eo49 | (injection eo49 with f1_ f2_ f3_; have f4_ := f1_.symm; have f5_ := f3_.symm; clear f1_ f2_ f3_; subst f4_; subst f5_)); have p149 : 0 ≤ (a0_0 : Int) := of_decide_eq_true (by first | (with_reducible assumption) | assumption); have q149 : a0_0 < (t146.length : Int) := of_decide_eq_true (by first | (with_reducible assumption) | assumption); obtain ⟨ad149, e149, hx149_0⟩ := Kd.at_string (Kd.R_reads' HO148.out).2.2 a0_0 p149 q149; cases e149; replace p149 := eq_true p149; replace q149 := eq_true q149; have hqgb141_0_ : w48.cell? ⟨gb141, 0, none⟩ = some (.int .i64 a0_0) := (blk_cell BK141.out 0).trans rfl; have hqgb141_1_ : w48.cell? ⟨gb141, 1, none⟩ = some (.int .i64 a0_1) := (blk_cell BK141.out 1).trans rfl; have hqgb141_2_ : w48.cell? ⟨gb141, 2, none⟩ = some (.int .i64 a0_2) := (blk_cell BK141.out 2).trans rfl; have hqgb141_3_ : w48.cell? ⟨gb141, 3, none⟩ = some (.string a0_3) := (blk_cell BK141.out 3).trans rfl; have hqgb141_4_ : w48.cell? ⟨gb141, 4, none⟩ = some (.int .i64 a0_4) := (blk_cell BK141.out 4).trans rfl; have hqgb141_5_ : w48.cell? ⟨gb141, 5, none⟩ = some (.int .i64 a0_5) := (blk_cell BK141.out 5).trans rfl; have hqgb141_6_ : w48.cell? ⟨gb141, 6, none⟩ = some (.string a0_6) := (blk_cell BK141.out 6).trans rfl)
              all_goals
                have hcz50_0 : w48.cell? ⟨gb141, 0, none⟩ = some (.int .i64 a0_0) := (blk_cell BK141.out 0).trans rfl
                have hcz50_1 : w48.cell? ⟨gb141, 1, none⟩ = some (.int .i64 a0_1) := (blk_cell BK141.out 1).trans rfl
                have hcz50_2 : w48.cell? ⟨gb141, 2, none⟩ = some (.int .i64 a0_2) := (blk_cell BK141.out 2).trans rfl
                have hcz50_3 : w48.cell? ⟨gb141, 3, none⟩ = some (.string a0_3) := (blk_cell BK141.out 3).trans rfl
                have hcz50_4 : w48.cell? ⟨gb141, 4, none⟩ = some (.int .i64 a0_4) := (blk_cell BK141.out 4).trans rfl
                have hcz50_5 : w48.cell? ⟨gb141, 5, none⟩ = some (.int .i64 a0_5) := (blk_cell BK141.out 5).trans rfl
                have hcz50_6 : w48.cell? ⟨gb141, 6, none⟩ = some (.string a0_6) := (blk_cell BK141.out 6).trans rfl
                have hfz50_0 := blk_frozen BK141.out 0
                have hfz50_1 := blk_frozen BK141.out 1
                have hfz50_2 := blk_frozen BK141.out 2
                have hfz50_3 := blk_frozen BK141.out 3
                have hfz50_4 := blk_frozen BK141.out 4
                have hfz50_5 := blk_frozen BK141.out 5
                have hfz50_6 := blk_frozen BK141.out 6
                go_upto_if 59 with (fail)
                go_cut [59] (fun v59 wc => ∃ (kq : Nat) (x59_45 : Bool), v59 = .bool x59_45 ∧ Aside0 (spec_InsText.j1 kq (rdOf ByteArray.empty t146 a0_0) a0_0 x59_45 a0_0 a0_1 a0_2 a0_3 a0_4 a0_5 a0_6 = some (r1, r2)) ∧ Aside0 (kq ≤ kj1) ∧ Aside0 (wc.heap[gb141]? = some (.cells #[.int .i64 a0_0, .int .i64 a0_1, .int .i64 a0_2, .string a0_3, .int .i64 a0_4, .int .i64 a0_5, .string a0_6] 44 (0, 0))) ∧ Aside0 (Below w.heap.size w wc))
                case first =>
                  have H := HC46.out
                  clear HC46
                  by_cases c51 : a0_0 = 4
                  · rw [if_pos c51] at H
                    have c51b0 : (a0_0 == 4) = true := beq_iff_eq.mpr c51
                    have c51b1 : (a0_0 != 4) = false := bne_eq_false_iff_eq.mpr c51
                    clear c51
                    (first | rw [c51b0] | (simp only [i64_w, i32_w]; rw [c51b0]) | skip)
                    have H' := Aside0.mk H
                    clear H
                    go_wp2
                    go_meet
                    case rel => exact ⟨_, ((a0_0 == 4)), (by first | rfl | (simp; done) | (simp [*]; done)), H', ⟨by have := HJ1.out; first | omega | exact Nat.le_refl _⟩, ⟨by (with_reducible repeat (first | refine blk_drewN ?_ _ | refine blk_drew ?_ | refine blk_alloc ?_ _)); exact BK141.out⟩, ⟨by repeat (first | (with_reducible first | exact HB.out | apply below_alloc | apply pw_below_drewN | apply below_drew1 | refine below_set ?_ GE141.out) | exact HB.out)⟩⟩
                  · rw [if_neg c51] at H
                    have c51b0 : (a0_0 == 4) = false := beq_eq_false_iff_ne.mpr c51
                    have c51b1 : (a0_0 != 4) = true := bne_iff_ne.mpr c51
                    (first | rw [c51b0] | (simp only [i64_w, i32_w]; rw [c51b0]) | skip)
                    have H' := Aside0.mk H
                    clear H
                    go_wp2
                    go_meet
                    case rel => exact ⟨_, ((a0_0 == 5)), (by first | rfl | (simp; done) | (simp [*]; done)), H', ⟨by have := HJ1.out; first | omega | exact Nat.le_refl _⟩, ⟨by (with_reducible repeat (first | refine blk_drewN ?_ _ | refine blk_drew ?_ | refine blk_alloc ?_ _)); exact BK141.out⟩, ⟨by repeat (first | (with_reducible first | exact HB.out | apply below_alloc | apply pw_below_drewN | apply below_drew1 | refine below_set ?_ GE141.out) | exact HB.out)⟩⟩
                case rest =>
                  clear HC46
                  try clear c1
                  try clear p1
                  try clear q1
                  try clear hx1
                  try clear c2
                  try clear p2
                  try clear c3
                  try clear c4
                  try clear c5
                  try clear c7
                  try clear c8
                  try clear c8b0
                  try clear c8b1
                  try clear c13
                  try clear p14
                  try clear q14
                  try clear hx14
                  try clear c21
                  try clear c24
                  try clear c26
                  try clear c26b0
                  try clear c27
                  try clear c27b0
                  try clear c28
                  try clear c28b0
                  try clear c28b1
                  try clear c29
                  try clear c29b0
                  try clear c29b1
                  try clear c30
                  try clear c30b0
                  try clear c30b1
                  try clear c30b2
                  try clear c32
                  try clear c32b0
                  try clear c32b1
                  try clear c32b2
                  try clear c38
                  try clear c38b0
                  try clear c38b1
                  try clear c38b2
                  try clear c40
                  try clear c40b0
                  try clear c40b1
                  try clear c40b2
                  try clear c45
                  try clear c51
                  try clear c51b0
                  try clear c51b1
                  try clear hcz11_0
                  try clear hcz11_1
                  try clear hcz11_2
                  try clear hcz11_3
                  try clear hcz11_4
                  try clear hcz11_5
                  try clear hcz11_6
                  try clear hcz15_0
                  try clear hcz15_1
                  try clear hcz15_2
                  try clear hcz15_3
                  try clear hcz15_4
                  try clear hcz15_5
                  try clear hcz15_6
                  try clear hcz17_0
                  try clear hcz17_1
                  try clear hcz17_2
                  try clear hcz17_3
                  try clear hcz17_4
                  try clear hcz17_5
                  try clear hcz17_6
                  try clear hcz18_0
                  try clear hcz18_1
                  try clear hcz18_2
                  try clear hcz18_3
                  try clear hcz18_4
                  try clear hcz18_5
                  try clear hcz18_6
                  try clear hcz20_0
                  try clear hcz20_1
                  try clear hcz20_2
                  try clear hcz20_3
                  try clear hcz20_4
                  try clear hcz20_5
                  try clear hcz20_6
                  try clear hcz21_0
                  try clear hcz21_1
                  try clear hcz21_2
                  try clear hcz21_3
                  try clear hcz21_4
                  try clear hcz21_5
                  try clear hcz21_6
                  try clear hcz23_0
                  try clear hcz23_1
                  try clear hcz23_2
                  try clear hcz23_3
                  try clear hcz23_4
                  try clear hcz23_5
                  try clear hcz23_6
                  try clear hcz36_0
                  try clear hcz36_1
                  try clear hcz36_2
                  try clear hcz36_3
                  try clear hcz36_4
                  try clear hcz36_5
                  try clear hcz36_6
                  try clear hcz44_0
                  try clear hcz44_1
                  try clear hcz44_2
                  try clear hcz44_3
                  try clear hcz44_4
                  try clear hcz44_5
                  try clear hcz44_6
                  try clear hcz50_0
                  try clear hcz50_1
                  try clear hcz50_2
                  try clear hcz50_3
                  try clear hcz50_4
                  try clear hcz50_5
                  try clear hcz50_6
                  try clear hcz9_0
                  try clear hcz9_1
                  try clear hcz9_2
                  try clear hcz9_3
                  try clear hcz9_4
                  try clear hcz9_5
                  try clear hcz9_6
                  try clear hfz11_0
                  try clear hfz11_1
                  try clear hfz11_2
                  try clear hfz11_3
                  try clear hfz11_4
                  try clear hfz11_5
                  try clear hfz11_6
                  try clear hfz15_0
                  try clear hfz15_1
                  try clear hfz15_2
                  try clear hfz15_3
                  try clear hfz15_4
                  try clear hfz15_5
                  try clear hfz15_6
                  try clear hfz17_0
                  try clear hfz17_1
                  try clear hfz17_2
                  try clear hfz17_3
                  try clear hfz17_4
                  try clear hfz17_5
                  try clear hfz17_6
                  try clear hfz18_0
                  try clear hfz18_1
                  try clear hfz18_2
                  try clear hfz18_3
                  try clear hfz18_4
                  try clear hfz18_5
                  try clear hfz18_6
                  try clear hfz20_0
                  try clear hfz20_1
                  try clear hfz20_2
                  try clear hfz20_3
                  try clear hfz20_4
                  try clear hfz20_5
                  try clear hfz20_6
                  try clear hfz21_0
                  try clear hfz21_1
                  try clear hfz21_2
                  try clear hfz21_3
                  try clear hfz21_4
                  try clear hfz21_5
                  try clear hfz21_6
                  try clear hfz23_0
                  try clear hfz23_1
                  try clear hfz23_2
                  try clear hfz23_3
                  try clear hfz23_4
                  try clear hfz23_5
                  try clear hfz23_6
                  try clear hfz36_0
                  try clear hfz36_1
                  try clear hfz36_2
                  try clear hfz36_3
                  try clear hfz36_4
                  try clear hfz36_5
                  try clear hfz36_6
                  try clear hfz44_0
                  try clear hfz44_1
                  try clear hfz44_2
                  try clear hfz44_3
                  try clear hfz44_4
                  try clear hfz44_5
                  try clear hfz44_6
                  try clear hfz50_0
                  try clear hfz50_1
                  try clear hfz50_2
                  try clear hfz50_3
                  try clear hfz50_4
                  try clear hfz50_5
                  try clear hfz50_6
                  try clear hfz9_0
                  try clear hfz9_1
                  try clear hfz9_2
                  try clear hfz9_3
                  try clear hfz9_4
                  try clear hfz9_5
                  try clear hfz9_6
                  try clear hx149_0
                  try clear p149
                  try clear p2
                  try clear q149
                  obtain ⟨kq, x59_45, rfl, HA, HJ45, BK141, HB⟩ := hcut
                  cases kq with
                  | zero => exact absurd HA.out (by simp [spec_InsText.j1])
                  | succ kj45 =>
                    have H := HA.out
                    clear HA
                    simp only [spec_InsText.j1] at H
                    by_cases c52 : x59_45 = true
                    · subst c52
                      have H1 : (if (rdOf ByteArray.empty t146 a0_0).size + 1 ≤ 9223372036854775807 then (if ((rdOf ByteArray.empty t146 a0_0) ++ (⟨#[32]⟩ : ByteArray)).size + a0_3.size ≤ 9223372036854775807 then (some (((rdOf ByteArray.empty t146 a0_0) ++ (⟨#[32]⟩ : ByteArray)) ++ a0_3, 0)) else (none)) else (none)) = some (r1, r2) := by rw [if_pos rfl] at H; exact H
                      clear H
                      have H := H1
                      clear H1
                      by_cases c53 : (rdOf ByteArray.empty t146 a0_0).size + 1 ≤ 9223372036854775807
                      · rw [if_pos c53] at H
                        have c53b0 := eq_true c53
                        have c53b1 : decide ((rdOf ByteArray.empty t146 a0_0).size + 1 ≤ 9223372036854775807) = true := decide_eq_true c53
                        try have c53b2 : (9223372036854775807 < (rdOf ByteArray.empty t146 a0_0).size + 1) = False := eq_false (Nat.not_lt.2 c53)
                        by_cases c54 : ((rdOf ByteArray.empty t146 a0_0) ++ (⟨#[32]⟩ : ByteArray)).size + a0_3.size ≤ 9223372036854775807
                        · rw [if_pos c54] at H
                          have c54b0 := eq_true c54
                          have c54b1 : decide (((rdOf ByteArray.empty t146 a0_0) ++ (⟨#[32]⟩ : ByteArray)).size + a0_3.size ≤ 9223372036854775807) = true := decide_eq_true c54
                          have c54b7_ : (rdOf ByteArray.empty t146 a0_0).size + 1 + a0_3.size ≤ 9223372036854775807 := by have h_ := c54; have e0_ : (⟨#[32]⟩ : ByteArray).size = 1 := rfl; simp only [ByteArray.size_append] at h_; omega
                          have c54b8 : decide ((rdOf ByteArray.empty t146 a0_0).size + 1 + a0_3.size ≤ 9223372036854775807) = true := decide_eq_true c54b7_
                          have c54b9 : (9223372036854775807 < (rdOf ByteArray.empty t146 a0_0).size + 1 + a0_3.size) = False := eq_false (Nat.not_lt.2 c54b7_)
                          have c54b7 := eq_true c54b7_
                          clear c54b7_
                          try have c54b2 : (9223372036854775807 < ((rdOf ByteArray.empty t146 a0_0) ++ (⟨#[32]⟩ : ByteArray)).size + a0_3.size) = False := eq_false (Nat.not_lt.2 c54)
                          simp only [Option.some.injEq, Prod.mk.injEq] at H
                          obtain ⟨rfl, rfl⟩ := H
                          have hcz55_0 : wc.cell? ⟨gb141, 0, none⟩ = some (.int .i64 a0_0) := (blk_cell BK141.out 0).trans rfl
                          have hcz55_1 : wc.cell? ⟨gb141, 1, none⟩ = some (.int .i64 a0_1) := (blk_cell BK141.out 1).trans rfl
                          have hcz55_2 : wc.cell? ⟨gb141, 2, none⟩ = some (.int .i64 a0_2) := (blk_cell BK141.out 2).trans rfl
                          have hcz55_3 : wc.cell? ⟨gb141, 3, none⟩ = some (.string a0_3) := (blk_cell BK141.out 3).trans rfl
                          have hcz55_4 : wc.cell? ⟨gb141, 4, none⟩ = some (.int .i64 a0_4) := (blk_cell BK141.out 4).trans rfl
                          have hcz55_5 : wc.cell? ⟨gb141, 5, none⟩ = some (.int .i64 a0_5) := (blk_cell BK141.out 5).trans rfl
                          have hcz55_6 : wc.cell? ⟨gb141, 6, none⟩ = some (.string a0_6) := (blk_cell BK141.out 6).trans rfl
                          have hfz55_0 := blk_frozen BK141.out 0
                          have hfz55_1 := blk_frozen BK141.out 1
                          have hfz55_2 := blk_frozen BK141.out 2
                          have hfz55_3 := blk_frozen BK141.out 3
                          have hfz55_4 := blk_frozen BK141.out 4
                          have hfz55_5 := blk_frozen BK141.out 5
                          have hfz55_6 := blk_frozen BK141.out 6
                          go_wp2
                          go_ret2
                          exact ⟨by first | rfl | exact My.ret_isEmpty _ | (simp [errW_none, errW_some] <;> rfl) | (simp [*, errW_none, errW_some] <;> rfl), by repeat (first | (with_reducible first | exact HB.out | apply below_alloc | apply pw_below_drewN | apply below_drew1 | refine below_set ?_ GE141.out) | exact HB.out)⟩
                        · rw [if_neg c54] at H
                          exact absurd H (by simp)
                      · rw [if_neg c53] at H
                        exact absurd H (by simp)
                    · replace c52 := Bool.eq_false_iff.mpr c52
                      subst c52
                      have H1 : (if a0_0 = 11 then (if (rdOf ByteArray.empty t146 a0_0).size + 1 ≤ 9223372036854775807 then (if ((rdOf ByteArray.empty t146 a0_0) ++ (⟨#[32]⟩ : ByteArray)).size + a0_3.size ≤ 9223372036854775807 then (if (((rdOf ByteArray.empty t146 a0_0) ++ (⟨#[32]⟩ : ByteArray)) ++ a0_3).size + 1 ≤ 9223372036854775807 then ((spec_l00Digits.f kj45 a0_1).bind fun t152 => (if ((((rdOf ByteArray.empty t146 a0_0) ++ (⟨#[32]⟩ : ByteArray)) ++ a0_3) ++ (⟨#[32]⟩ : ByteArray)).size + t152.size ≤ 9223372036854775807 then (some (((((rdOf ByteArray.empty t146 a0_0) ++ (⟨#[32]⟩ : ByteArray)) ++ a0_3) ++ (⟨#[32]⟩ : ByteArray)) ++ t152, 0)) else (none))) else (none)) else (none)) else (none)) else (if a0_0 = 10 then (if (rdOf ByteArray.empty t146 a0_0).size + 1 ≤ 9223372036854775807 then ((spec_l00Digits.f kj45 a0_1).bind fun t153 => (if ((rdOf ByteArray.empty t146 a0_0) ++ (⟨#[32]⟩ : ByteArray)).size + t153.size ≤ 9223372036854775807 then (if (((rdOf ByteArray.empty t146 a0_0) ++ (⟨#[32]⟩ : ByteArray)) ++ t153).size + 1 ≤ 9223372036854775807 then ((spec_l00Digits.f kj45 a0_2).bind fun t154 => (if ((((rdOf ByteArray.empty t146 a0_0) ++ (⟨#[32]⟩ : ByteArray)) ++ t153) ++ (⟨#[32]⟩ : ByteArray)).size + t154.size ≤ 9223372036854775807 then (some (((((rdOf ByteArray.empty t146 a0_0) ++ (⟨#[32]⟩ : ByteArray)) ++ t153) ++ (⟨#[32]⟩ : ByteArray)) ++ t154, 0)) else (none))) else (none)) else (none))) else (none)) else (if a0_0 = 12 then (some ((rdOf ByteArray.empty t146 a0_0), 0)) else (if a0_0 = 13 then (some ((rdOf ByteArray.empty t146 a0_0), 0)) else (if a0_0 = 15 then (some ((rdOf ByteArray.empty t146 a0_0), 0)) else (if a0_0 = 16 then (some ((rdOf ByteArray.empty t146 a0_0), 0)) else (if (rdOf ByteArray.empty t146 a0_0).size + 1 ≤ 9223372036854775807 then ((spec_l00Digits.f kj45 a0_1).bind fun t155 => (if ((rdOf ByteArray.empty t146 a0_0) ++ (⟨#[32]⟩ : ByteArray)).size + t155.size ≤ 9223372036854775807 then (some (((rdOf ByteArray.empty t146 a0_0) ++ (⟨#[32]⟩ : ByteArray)) ++ t155, 0)) else (none))) else (none)))))))) = some (r1, r2) := by rw [if_neg (show ¬ (false = true) by decide)] at H; exact H
                      clear H
                      have H := H1
                      clear H1
                      by_cases c56 : a0_0 = 11
                      · rw [if_pos c56] at H
                        have c56b0 : (a0_0 == 11) = true := beq_iff_eq.mpr c56
                        have c56b1 : (a0_0 != 11) = false := bne_eq_false_iff_eq.mpr c56
                        clear c56
                        by_cases c57 : (rdOf ByteArray.empty t146 a0_0).size + 1 ≤ 9223372036854775807
                        · rw [if_pos c57] at H
                          have c57b0 := eq_true c57
                          have c57b1 : decide ((rdOf ByteArray.empty t146 a0_0).size + 1 ≤ 9223372036854775807) = true := decide_eq_true c57
                          try have c57b2 : (9223372036854775807 < (rdOf ByteArray.empty t146 a0_0).size + 1) = False := eq_false (Nat.not_lt.2 c57)
                          by_cases c58 : ((rdOf ByteArray.empty t146 a0_0) ++ (⟨#[32]⟩ : ByteArray)).size + a0_3.size ≤ 9223372036854775807
                          · rw [if_pos c58] at H
                            have c58b0 := eq_true c58
                            have c58b1 : decide (((rdOf ByteArray.empty t146 a0_0) ++ (⟨#[32]⟩ : ByteArray)).size + a0_3.size ≤ 9223372036854775807) = true := decide_eq_true c58
                            have c58b7_ : (rdOf ByteArray.empty t146 a0_0).size + 1 + a0_3.size ≤ 9223372036854775807 := by have h_ := c58; have e0_ : (⟨#[32]⟩ : ByteArray).size = 1 := rfl; simp only [ByteArray.size_append] at h_; omega
                            have c58b8 : decide ((rdOf ByteArray.empty t146 a0_0).size + 1 + a0_3.size ≤ 9223372036854775807) = true := decide_eq_true c58b7_
                            have c58b9 : (9223372036854775807 < (rdOf ByteArray.empty t146 a0_0).size + 1 + a0_3.size) = False := eq_false (Nat.not_lt.2 c58b7_)
                            have c58b7 := eq_true c58b7_
                            clear c58b7_
                            try have c58b2 : (9223372036854775807 < ((rdOf ByteArray.empty t146 a0_0) ++ (⟨#[32]⟩ : ByteArray)).size + a0_3.size) = False := eq_false (Nat.not_lt.2 c58)
                            by_cases c59 : (((rdOf ByteArray.empty t146 a0_0) ++ (⟨#[32]⟩ : ByteArray)) ++ a0_3).size + 1 ≤ 9223372036854775807
                            · rw [if_pos c59] at H
                              have c59b0 := eq_true c59
                              have c59b1 : decide ((((rdOf ByteArray.empty t146 a0_0) ++ (⟨#[32]⟩ : ByteArray)) ++ a0_3).size + 1 ≤ 9223372036854775807) = true := decide_eq_true c59
                              have c59b7_ : (rdOf ByteArray.empty t146 a0_0).size + 1 + a0_3.size + 1 ≤ 9223372036854775807 := by have h_ := c59; have e0_ : (⟨#[32]⟩ : ByteArray).size = 1 := rfl; simp only [ByteArray.size_append] at h_; omega
                              have c59b8 : decide ((rdOf ByteArray.empty t146 a0_0).size + 1 + a0_3.size + 1 ≤ 9223372036854775807) = true := decide_eq_true c59b7_
                              have c59b9 : (9223372036854775807 < (rdOf ByteArray.empty t146 a0_0).size + 1 + a0_3.size + 1) = False := eq_false (Nat.not_lt.2 c59b7_)
                              have c59b7 := eq_true c59b7_
                              clear c59b7_
                              try have c59b2 : (9223372036854775807 < (((rdOf ByteArray.empty t146 a0_0) ++ (⟨#[32]⟩ : ByteArray)) ++ a0_3).size + 1) = False := eq_false (Nat.not_lt.2 c59)
                              replace H := Option.bind_eq_some_iff.mp H
                              obtain ⟨t152, A600, H⟩ := H
                              replace H : (if ((((rdOf ByteArray.empty t146 a0_0) ++ (⟨#[32]⟩ : ByteArray)) ++ a0_3) ++ (⟨#[32]⟩ : ByteArray)).size + t152.size ≤ 9223372036854775807 then (some (((((rdOf ByteArray.empty t146 a0_0) ++ (⟨#[32]⟩ : ByteArray)) ++ a0_3) ++ (⟨#[32]⟩ : ByteArray)) ++ t152, 0)) else (none)) = some (r1, r2) := H
                              have A60 := Aside0.mk A600
                              clear A600
                              by_cases c61 : ((((rdOf ByteArray.empty t146 a0_0) ++ (⟨#[32]⟩ : ByteArray)) ++ a0_3) ++ (⟨#[32]⟩ : ByteArray)).size + t152.size ≤ 9223372036854775807
                              · rw [if_pos c61] at H
                                have c61b0 := eq_true c61
                                have c61b1 : decide (((((rdOf ByteArray.empty t146 a0_0) ++ (⟨#[32]⟩ : ByteArray)) ++ a0_3) ++ (⟨#[32]⟩ : ByteArray)).size + t152.size ≤ 9223372036854775807) = true := decide_eq_true c61
                                have c61b7_ : (rdOf ByteArray.empty t146 a0_0).size + 1 + a0_3.size + 1 + t152.size ≤ 9223372036854775807 := by have h_ := c61; have e0_ : (⟨#[32]⟩ : ByteArray).size = 1 := rfl; simp only [ByteArray.size_append] at h_; omega
                                have c61b8 : decide ((rdOf ByteArray.empty t146 a0_0).size + 1 + a0_3.size + 1 + t152.size ≤ 9223372036854775807) = true := decide_eq_true c61b7_
                                have c61b9 : (9223372036854775807 < (rdOf ByteArray.empty t146 a0_0).size + 1 + a0_3.size + 1 + t152.size) = False := eq_false (Nat.not_lt.2 c61b7_)
                                have c61b7 := eq_true c61b7_
                                clear c61b7_
                                try have c61b2 : (9223372036854775807 < ((((rdOf ByteArray.empty t146 a0_0) ++ (⟨#[32]⟩ : ByteArray)) ++ a0_3) ++ (⟨#[32]⟩ : ByteArray)).size + t152.size) = False := eq_false (Nat.not_lt.2 c61)
                                simp only [Option.some.injEq, Prod.mk.injEq] at H
                                obtain ⟨rfl, rfl⟩ := H
                                try go_wp2
                                have n0_ := Aside0.mk (blk_drew BK141.out)
                                have n1_ := Aside0.mk (below_drew1 HB.out)
                                clear BK141
                                clear HB
                                have BK141 := n0_
                                have HB := n1_
                                clear n0_ n1_
                                refine start_ (n := 12) (S := fun w' => w'.cell? ⟨gb141, 0, none⟩ = some (.int .i64 a0_0) ∧ w'.cell? ⟨gb141, 1, none⟩ = some (.int .i64 a0_1) ∧ w'.cell? ⟨gb141, 2, none⟩ = some (.int .i64 a0_2) ∧ w'.cell? ⟨gb141, 3, none⟩ = some (.string a0_3) ∧ w'.cell? ⟨gb141, 4, none⟩ = some (.int .i64 a0_4) ∧ w'.cell? ⟨gb141, 5, none⟩ = some (.int .i64 a0_5) ∧ w'.cell? ⟨gb141, 6, none⟩ = some (.string a0_6)) (ds := []) #[false, false, false, false, false, false, false, false, false, false, false, false] (by kernel_rfl) rfl rfl ⟨(blk_cell BK141.out 0).trans rfl, (blk_cell BK141.out 1).trans rfl, (blk_cell BK141.out 2).trans rfl, (blk_cell BK141.out 3).trans rfl, (blk_cell BK141.out 4).trans rfl, (blk_cell BK141.out 5).trans rfl, (blk_cell BK141.out 6).trans rfl⟩ (fun hHeld => ?_); refine with_tabW spec_InsText.tab13 spec_InsText.bits13 (fun HT_ HW_ => ?_)
                                generalize wc.drew = w62 at BK141 HB hHeld ⊢
                                refine pure_ (i := 0) (N := some 69) (v := ?_) (a' := ?_) #[true, false, false, false, false, false, false, false, false, false, false, false] rfl rfl (any_of HT_.out (by kernel_rfl)) (fun _ _ _ h => h) (Or.inl ⟨by rfl, ?_⟩) ?_ ?_
                                rotate_left
                                · intro w'
                                  go_simp
                                  with_reducible rfl
                                rotate_left
                                · simp only [Act.put, List.setIfInBounds_toArray, List.set_cons_zero, List.set_cons_succ, i64_w, i32_w]
                                  rfl
                                refine pure_ (i := 1) (N := some 70) (v := ?_) (a' := ?_) #[true, true, false, false, false, false, false, false, false, false, false, false] rfl rfl (any_of HT_.out (by kernel_rfl)) (fun _ _ _ h => h) (Or.inl ⟨by rfl, ?_⟩) ?_ ?_
                                rotate_left
                                · intro w'
                                  go_simp
                                  with_reducible rfl
                                rotate_left
                                · simp only [Act.put, List.setIfInBounds_toArray, List.set_cons_zero, List.set_cons_succ, i64_w, i32_w]
                                  rfl
                                refine pure_ (i := 2) (N := some 71) (v := ?_) (a' := ?_) #[true, true, true, false, false, false, false, false, false, false, false, false] rfl rfl (any_of HT_.out (by kernel_rfl)) (fun _ _ _ h => h) (Or.inl ⟨by rfl, ?_⟩) ?_ ?_
                                rotate_left
                                · intro w'
                                  go_simp
                                  with_reducible rfl
                                rotate_left
                                · simp only [Act.put, List.setIfInBounds_toArray, List.set_cons_zero, List.set_cons_succ, i64_w, i32_w]
                                  rfl
                                refine pure_ (i := 6) (N := some 75) (v := ?_) (a' := ?_) #[true, true, true, false, false, false, true, false, false, false, false, false] rfl rfl (any_of HT_.out (by kernel_rfl)) (fun _ _ _ h => h) (Or.inl ⟨by rfl, ?_⟩) ?_ ?_
                                rotate_left
                                · intro w'
                                  go_simp
                                  with_reducible rfl
                                rotate_left
                                · simp only [Act.put, List.setIfInBounds_toArray, List.set_cons_zero, List.set_cons_succ, i64_w, i32_w]
                                  rfl
                                refine take_ (i := 3) (N := some 72) (v := ?_) (a' := ?_) #[true, true, true, true, false, false, true, false, false, false, false, false] rfl rfl (take_ofW HT_.out HW_.out (by kernel_rfl)) (fun _ _ _ h => h) (Or.inl ⟨by rfl, ?_⟩) hHeld ?_ ?_
                                rotate_left
                                · rintro w' ⟨s0, s1, s2, s3, s4, s5, s6⟩
                                  go_simp
                                  with_reducible rfl
                                rotate_left
                                · simp only [Act.put, List.setIfInBounds_toArray, List.set_cons_zero, List.set_cons_succ, i64_w, i32_w]
                                  rfl
                                refine pure_ (i := 4) (N := some 73) (v := ?_) (a' := ?_) #[true, true, true, true, true, false, true, false, false, false, false, false] rfl rfl (any_of HT_.out (by kernel_rfl)) (fun _ _ _ h => h) (Or.inl ⟨by rfl, ?_⟩) ?_ ?_
                                rotate_left
                                · intro w'
                                  go_simp
                                  with_reducible rfl
                                rotate_left
                                · simp only [Act.put, List.setIfInBounds_toArray, List.set_cons_zero, List.set_cons_succ, i64_w, i32_w]
                                  rfl
                                refine pure_ (i := 5) (N := some 74) (v := ?_) (a' := ?_) #[true, true, true, true, true, true, true, false, false, false, false, false] rfl rfl (any_of HT_.out (by kernel_rfl)) (fun _ _ _ h => h) (Or.inl ⟨by rfl, ?_⟩) ?_ ?_
                                rotate_left
                                · intro w'
                                  go_simp
                                  with_reducible rfl
                                rotate_left
                                · simp only [Act.put, List.setIfInBounds_toArray, List.set_cons_zero, List.set_cons_succ, i64_w, i32_w]
                                  rfl
                                refine take_ (i := 7) (N := some 76) (v := ?_) (a' := ?_) #[true, true, true, true, true, true, true, true, false, false, false, false] rfl rfl (take_ofW HT_.out HW_.out (by kernel_rfl)) (fun _ _ _ h => h) (Or.inl ⟨by rfl, ?_⟩) hHeld ?_ ?_
                                rotate_left
                                · rintro w' ⟨s0, s1, s2, s3, s4, s5, s6⟩
                                  go_simp
                                  with_reducible rfl
                                rotate_left
                                · simp only [Act.put, List.setIfInBounds_toArray, List.set_cons_zero, List.set_cons_succ, i64_w, i32_w]
                                  rfl
                                refine one_ (i := 8) (N := some 77) #[true, true, true, true, true, true, true, true, true, false, false, false] rfl rfl (one_of HT_.out (by kernel_rfl)) (by decide) (fun K hK => ?_)
                                refine goes_ Tryd.func56 (by kernel_rfl) rfl #[.int .i64 a0_1] (by rfl) rfl rfl (by (try simp only [List.map_toArray, List.map_cons, List.map_nil]); first | done | rfl | (simp only [List.length_drop, List.length_take]; rfl)) ?_
                                with_reducible refine (spec_l00Digits.calls kj45 a0_1 t152 _ A60.out).mono ?_
                                rintro e w63 ⟨rfl, hb⟩
                                refine ⟨_, rfl, ?_⟩
                                have n0_ := Aside0.mk (blk_below (g := gb141) (o := .cells #[.int .i64 a0_0, .int .i64 a0_1, .int .i64 a0_2, .string a0_3, .int .i64 a0_4, .int .i64 a0_5, .string a0_6] 44 (0, 0)) (by (with_reducible repeat (first | refine blk_drewN ?_ _ | refine blk_drew ?_ | refine blk_alloc ?_ _)); exact BK141.out) hb)
                                have n1_ := Aside0.mk (below_step (by repeat (first | (with_reducible first | exact HB.out | apply below_alloc | apply pw_below_drewN | apply below_drew1 | refine below_set ?_ GE141.out) | exact HB.out)) hb)
                                clear BK141
                                clear HB
                                have BK141 := n0_
                                have HB := n1_
                                clear n0_ n1_
                                (try clear hb)
                                (try clear hb2)
                                (try clear hk)
                                (try clear hi)
                                refine hK.out _ _ ⟨(blk_cell BK141.out 0).trans rfl, (blk_cell BK141.out 1).trans rfl, (blk_cell BK141.out 2).trans rfl, (blk_cell BK141.out 3).trans rfl, (blk_cell BK141.out 4).trans rfl, (blk_cell BK141.out 5).trans rfl, (blk_cell BK141.out 6).trans rfl⟩ (fun hHeld => ?_)
                                clear hK K
                                refine norm_ (a' := ?_) ?_ ?_
                                rotate_left
                                · show Act.put _ (some 77) _ = _
                                  simp only [Act.put, List.setIfInBounds_toArray, List.set_cons_zero, List.set_cons_succ, i64_w, i32_w]
                                  rfl
                                refine pure_ (i := 9) (N := some 78) (v := ?_) (a' := ?_) #[true, true, true, true, true, true, true, true, true, true, false, false] rfl rfl (any_of HT_.out (by kernel_rfl)) (fun _ _ _ h => h) (Or.inl ⟨by rfl, ?_⟩) ?_ ?_
                                rotate_left
                                · intro w'
                                  go_simp
                                  with_reducible rfl
                                rotate_left
                                · simp only [Act.put, List.setIfInBounds_toArray, List.set_cons_zero, List.set_cons_succ, i64_w, i32_w]
                                  rfl
                                refine pure_ (i := 10) (N := some 2) (v := ?_) (a' := ?_) #[true, true, true, true, true, true, true, true, true, true, true, false] rfl rfl (any_of HT_.out (by kernel_rfl)) (fun _ _ _ h => h) (Or.inl ⟨by rfl, ?_⟩) ?_ ?_
                                rotate_left
                                · intro w'
                                  go_simp
                                  with_reducible rfl
                                rotate_left
                                · simp only [Act.put, List.setIfInBounds_toArray, List.set_cons_zero, List.set_cons_succ, i64_w, i32_w]
                                  rfl
                                refine pure_ (i := 11) (N := some 3) (v := ?_) (a' := ?_) #[true, true, true, true, true, true, true, true, true, true, true, true] rfl rfl (any_of HT_.out (by kernel_rfl)) (fun _ _ _ h => h) (Or.inl ⟨by rfl, ?_⟩) ?_ ?_
                                rotate_left
                                · intro w'
                                  go_simp
                                  with_reducible rfl
                                rotate_left
                                · simp only [Act.put, List.setIfInBounds_toArray, List.set_cons_zero, List.set_cons_succ, i64_w, i32_w]
                                  rfl
                                refine done_ (done_of HT_.out (by kernel_rfl)) ?_
                                try go_wp2
                                go_ret2
                                exact ⟨by first | rfl | exact My.ret_isEmpty _ | (simp [errW_none, errW_some] <;> rfl) | (simp [*, errW_none, errW_some] <;> rfl), by repeat (first | (with_reducible first | exact HB.out | apply below_alloc | apply pw_below_drewN | apply below_drew1 | refine below_set ?_ GE141.out) | exact HB.out)⟩
                              · rw [if_neg c61] at H
                                exact absurd H (by simp)
                            · rw [if_neg c59] at H
                              exact absurd H (by simp)
                          · rw [if_neg c58] at H
                            exact absurd H (by simp)
                        · rw [if_neg c57] at H
                          exact absurd H (by simp)
                      · rw [if_neg c56] at H
                        have c56b0 : (a0_0 == 11) = false := beq_eq_false_iff_ne.mpr c56
                        have c56b1 : (a0_0 != 11) = true := bne_iff_ne.mpr c56
                        by_cases c64 : a0_0 = 10
                        · rw [if_pos c64] at H
                          have c64b0 : (a0_0 == 10) = true := beq_iff_eq.mpr c64
                          have c64b1 : (a0_0 != 10) = false := bne_eq_false_iff_eq.mpr c64
                          clear c64
                          by_cases c65 : (rdOf ByteArray.empty t146 a0_0).size + 1 ≤ 9223372036854775807
                          · rw [if_pos c65] at H
                            have c65b0 := eq_true c65
                            have c65b1 : decide ((rdOf ByteArray.empty t146 a0_0).size + 1 ≤ 9223372036854775807) = true := decide_eq_true c65
                            try have c65b2 : (9223372036854775807 < (rdOf ByteArray.empty t146 a0_0).size + 1) = False := eq_false (Nat.not_lt.2 c65)
                            replace H := Option.bind_eq_some_iff.mp H
                            obtain ⟨t153, A660, H⟩ := H
                            replace H : (if ((rdOf ByteArray.empty t146 a0_0) ++ (⟨#[32]⟩ : ByteArray)).size + t153.size ≤ 9223372036854775807 then (if (((rdOf ByteArray.empty t146 a0_0) ++ (⟨#[32]⟩ : ByteArray)) ++ t153).size + 1 ≤ 9223372036854775807 then ((spec_l00Digits.f kj45 a0_2).bind fun t154 => (if ((((rdOf ByteArray.empty t146 a0_0) ++ (⟨#[32]⟩ : ByteArray)) ++ t153) ++ (⟨#[32]⟩ : ByteArray)).size + t154.size ≤ 9223372036854775807 then (some (((((rdOf ByteArray.empty t146 a0_0) ++ (⟨#[32]⟩ : ByteArray)) ++ t153) ++ (⟨#[32]⟩ : ByteArray)) ++ t154, 0)) else (none))) else (none)) else (none)) = some (r1, r2) := H
                            have A66 := Aside0.mk A660
                            clear A660
                            by_cases c67 : ((rdOf ByteArray.empty t146 a0_0) ++ (⟨#[32]⟩ : ByteArray)).size + t153.size ≤ 9223372036854775807
                            · rw [if_pos c67] at H
                              have c67b0 := eq_true c67
                              have c67b1 : decide (((rdOf ByteArray.empty t146 a0_0) ++ (⟨#[32]⟩ : ByteArray)).size + t153.size ≤ 9223372036854775807) = true := decide_eq_true c67
                              have c67b7_ : (rdOf ByteArray.empty t146 a0_0).size + 1 + t153.size ≤ 9223372036854775807 := by have h_ := c67; have e0_ : (⟨#[32]⟩ : ByteArray).size = 1 := rfl; simp only [ByteArray.size_append] at h_; omega
                              have c67b8 : decide ((rdOf ByteArray.empty t146 a0_0).size + 1 + t153.size ≤ 9223372036854775807) = true := decide_eq_true c67b7_
                              have c67b9 : (9223372036854775807 < (rdOf ByteArray.empty t146 a0_0).size + 1 + t153.size) = False := eq_false (Nat.not_lt.2 c67b7_)
                              have c67b7 := eq_true c67b7_
                              clear c67b7_
                              try have c67b2 : (9223372036854775807 < ((rdOf ByteArray.empty t146 a0_0) ++ (⟨#[32]⟩ : ByteArray)).size + t153.size) = False := eq_false (Nat.not_lt.2 c67)
                              by_cases c68 : (((rdOf ByteArray.empty t146 a0_0) ++ (⟨#[32]⟩ : ByteArray)) ++ t153).size + 1 ≤ 9223372036854775807
                              · rw [if_pos c68] at H
                                have c68b0 := eq_true c68
                                have c68b1 : decide ((((rdOf ByteArray.empty t146 a0_0) ++ (⟨#[32]⟩ : ByteArray)) ++ t153).size + 1 ≤ 9223372036854775807) = true := decide_eq_true c68
                                have c68b7_ : (rdOf ByteArray.empty t146 a0_0).size + 1 + t153.size + 1 ≤ 9223372036854775807 := by have h_ := c68; have e0_ : (⟨#[32]⟩ : ByteArray).size = 1 := rfl; simp only [ByteArray.size_append] at h_; omega
                                have c68b8 : decide ((rdOf ByteArray.empty t146 a0_0).size + 1 + t153.size + 1 ≤ 9223372036854775807) = true := decide_eq_true c68b7_
                                have c68b9 : (9223372036854775807 < (rdOf ByteArray.empty t146 a0_0).size + 1 + t153.size + 1) = False := eq_false (Nat.not_lt.2 c68b7_)
                                have c68b7 := eq_true c68b7_
                                clear c68b7_
                                try have c68b2 : (9223372036854775807 < (((rdOf ByteArray.empty t146 a0_0) ++ (⟨#[32]⟩ : ByteArray)) ++ t153).size + 1) = False := eq_false (Nat.not_lt.2 c68)
                                replace H := Option.bind_eq_some_iff.mp H
                                obtain ⟨t154, A690, H⟩ := H
                                replace H : (if ((((rdOf ByteArray.empty t146 a0_0) ++ (⟨#[32]⟩ : ByteArray)) ++ t153) ++ (⟨#[32]⟩ : ByteArray)).size + t154.size ≤ 9223372036854775807 then (some (((((rdOf ByteArray.empty t146 a0_0) ++ (⟨#[32]⟩ : ByteArray)) ++ t153) ++ (⟨#[32]⟩ : ByteArray)) ++ t154, 0)) else (none)) = some (r1, r2) := H
                                have A69 := Aside0.mk A690
                                clear A690
                                by_cases c70 : ((((rdOf ByteArray.empty t146 a0_0) ++ (⟨#[32]⟩ : ByteArray)) ++ t153) ++ (⟨#[32]⟩ : ByteArray)).size + t154.size ≤ 9223372036854775807
                                · rw [if_pos c70] at H
                                  have c70b0 := eq_true c70
                                  have c70b1 : decide (((((rdOf ByteArray.empty t146 a0_0) ++ (⟨#[32]⟩ : ByteArray)) ++ t153) ++ (⟨#[32]⟩ : ByteArray)).size + t154.size ≤ 9223372036854775807) = true := decide_eq_true c70
                                  have c70b7_ : (rdOf ByteArray.empty t146 a0_0).size + 1 + t153.size + 1 + t154.size ≤ 9223372036854775807 := by have h_ := c70; have e0_ : (⟨#[32]⟩ : ByteArray).size = 1 := rfl; simp only [ByteArray.size_append] at h_; omega
                                  have c70b8 : decide ((rdOf ByteArray.empty t146 a0_0).size + 1 + t153.size + 1 + t154.size ≤ 9223372036854775807) = true := decide_eq_true c70b7_
                                  have c70b9 : (9223372036854775807 < (rdOf ByteArray.empty t146 a0_0).size + 1 + t153.size + 1 + t154.size) = False := eq_false (Nat.not_lt.2 c70b7_)
                                  have c70b7 := eq_true c70b7_
                                  clear c70b7_
                                  try have c70b2 : (9223372036854775807 < ((((rdOf ByteArray.empty t146 a0_0) ++ (⟨#[32]⟩ : ByteArray)) ++ t153) ++ (⟨#[32]⟩ : ByteArray)).size + t154.size) = False := eq_false (Nat.not_lt.2 c70)
                                  simp only [Option.some.injEq, Prod.mk.injEq] at H
                                  obtain ⟨rfl, rfl⟩ := H
                                  try go_wp2
                                  have n0_ := Aside0.mk (blk_drew BK141.out)
                                  have n1_ := Aside0.mk (below_drew1 HB.out)
                                  clear BK141
                                  clear HB
                                  have BK141 := n0_
                                  have HB := n1_
                                  clear n0_ n1_
                                  refine start_ (n := 13) (S := fun w' => w'.cell? ⟨gb141, 0, none⟩ = some (.int .i64 a0_0) ∧ w'.cell? ⟨gb141, 1, none⟩ = some (.int .i64 a0_1) ∧ w'.cell? ⟨gb141, 2, none⟩ = some (.int .i64 a0_2) ∧ w'.cell? ⟨gb141, 3, none⟩ = some (.string a0_3) ∧ w'.cell? ⟨gb141, 4, none⟩ = some (.int .i64 a0_4) ∧ w'.cell? ⟨gb141, 5, none⟩ = some (.int .i64 a0_5) ∧ w'.cell? ⟨gb141, 6, none⟩ = some (.string a0_6)) (ds := []) #[false, false, false, false, false, false, false, false, false, false, false, false, false] (by kernel_rfl) rfl rfl ⟨(blk_cell BK141.out 0).trans rfl, (blk_cell BK141.out 1).trans rfl, (blk_cell BK141.out 2).trans rfl, (blk_cell BK141.out 3).trans rfl, (blk_cell BK141.out 4).trans rfl, (blk_cell BK141.out 5).trans rfl, (blk_cell BK141.out 6).trans rfl⟩ (fun hHeld => ?_); refine with_tabW spec_InsText.tab15 spec_InsText.bits15 (fun HT_ HW_ => ?_)
                                  generalize wc.drew = w71 at BK141 HB hHeld ⊢
                                  refine pure_ (i := 0) (N := some 81) (v := ?_) (a' := ?_) #[true, false, false, false, false, false, false, false, false, false, false, false, false] rfl rfl (any_of HT_.out (by kernel_rfl)) (fun _ _ _ h => h) (Or.inl ⟨by rfl, ?_⟩) ?_ ?_
                                  rotate_left
                                  · intro w'
                                    go_simp
                                    with_reducible rfl
                                  rotate_left
                                  · simp only [Act.put, List.setIfInBounds_toArray, List.set_cons_zero, List.set_cons_succ, i64_w, i32_w]
                                    rfl
                                  refine pure_ (i := 1) (N := some 82) (v := ?_) (a' := ?_) #[true, true, false, false, false, false, false, false, false, false, false, false, false] rfl rfl (any_of HT_.out (by kernel_rfl)) (fun _ _ _ h => h) (Or.inl ⟨by rfl, ?_⟩) ?_ ?_
                                  rotate_left
                                  · intro w'
                                    go_simp
                                    with_reducible rfl
                                  rotate_left
                                  · simp only [Act.put, List.setIfInBounds_toArray, List.set_cons_zero, List.set_cons_succ, i64_w, i32_w]
                                    rfl
                                  refine pure_ (i := 2) (N := some 83) (v := ?_) (a' := ?_) #[true, true, true, false, false, false, false, false, false, false, false, false, false] rfl rfl (any_of HT_.out (by kernel_rfl)) (fun _ _ _ h => h) (Or.inl ⟨by rfl, ?_⟩) ?_ ?_
                                  rotate_left
                                  · intro w'
                                    go_simp
                                    with_reducible rfl
                                  rotate_left
                                  · simp only [Act.put, List.setIfInBounds_toArray, List.set_cons_zero, List.set_cons_succ, i64_w, i32_w]
                                    rfl
                                  refine pure_ (i := 7) (N := some 88) (v := ?_) (a' := ?_) #[true, true, true, false, false, false, false, true, false, false, false, false, false] rfl rfl (any_of HT_.out (by kernel_rfl)) (fun _ _ _ h => h) (Or.inl ⟨by rfl, ?_⟩) ?_ ?_
                                  rotate_left
                                  · intro w'
                                    go_simp
                                    with_reducible rfl
                                  rotate_left
                                  · simp only [Act.put, List.setIfInBounds_toArray, List.set_cons_zero, List.set_cons_succ, i64_w, i32_w]
                                    rfl
                                  refine take_ (i := 3) (N := some 84) (v := ?_) (a' := ?_) #[true, true, true, true, false, false, false, true, false, false, false, false, false] rfl rfl (take_ofW HT_.out HW_.out (by kernel_rfl)) (fun _ _ _ h => h) (Or.inl ⟨by rfl, ?_⟩) hHeld ?_ ?_
                                  rotate_left
                                  · rintro w' ⟨s0, s1, s2, s3, s4, s5, s6⟩
                                    go_simp
                                    with_reducible rfl
                                  rotate_left
                                  · simp only [Act.put, List.setIfInBounds_toArray, List.set_cons_zero, List.set_cons_succ, i64_w, i32_w]
                                    rfl
                                  refine take_ (i := 8) (N := some 89) (v := ?_) (a' := ?_) #[true, true, true, true, false, false, false, true, true, false, false, false, false] rfl rfl (take_ofW HT_.out HW_.out (by kernel_rfl)) (fun _ _ _ h => h) (Or.inl ⟨by rfl, ?_⟩) hHeld ?_ ?_
                                  rotate_left
                                  · rintro w' ⟨s0, s1, s2, s3, s4, s5, s6⟩
                                    go_simp
                                    with_reducible rfl
                                  rotate_left
                                  · simp only [Act.put, List.setIfInBounds_toArray, List.set_cons_zero, List.set_cons_succ, i64_w, i32_w]
                                    rfl
                                  refine one_ (i := 4) (N := some 85) #[true, true, true, true, true, false, false, true, true, false, false, false, false] rfl rfl (one_of HT_.out (by kernel_rfl)) (by decide) (fun K hK => ?_)
                                  refine goes_ Tryd.func56 (by kernel_rfl) rfl #[.int .i64 a0_1] (by rfl) rfl rfl (by (try simp only [List.map_toArray, List.map_cons, List.map_nil]); first | done | rfl | (simp only [List.length_drop, List.length_take]; rfl)) ?_
                                  with_reducible refine (spec_l00Digits.calls kj45 a0_1 t153 _ A66.out).mono ?_
                                  rintro e w72 ⟨rfl, hb⟩
                                  refine ⟨_, rfl, ?_⟩
                                  have n0_ := Aside0.mk (blk_below (g := gb141) (o := .cells #[.int .i64 a0_0, .int .i64 a0_1, .int .i64 a0_2, .string a0_3, .int .i64 a0_4, .int .i64 a0_5, .string a0_6] 44 (0, 0)) (by (with_reducible repeat (first | refine blk_drewN ?_ _ | refine blk_drew ?_ | refine blk_alloc ?_ _)); exact BK141.out) hb)
                                  have n1_ := Aside0.mk (below_step (by repeat (first | (with_reducible first | exact HB.out | apply below_alloc | apply pw_below_drewN | apply below_drew1 | refine below_set ?_ GE141.out) | exact HB.out)) hb)
                                  clear BK141
                                  clear HB
                                  have BK141 := n0_
                                  have HB := n1_
                                  clear n0_ n1_
                                  (try clear hb)
                                  (try clear hb2)
                                  (try clear hk)
                                  (try clear hi)
                                  refine hK.out _ _ ⟨(blk_cell BK141.out 0).trans rfl, (blk_cell BK141.out 1).trans rfl, (blk_cell BK141.out 2).trans rfl, (blk_cell BK141.out 3).trans rfl, (blk_cell BK141.out 4).trans rfl, (blk_cell BK141.out 5).trans rfl, (blk_cell BK141.out 6).trans rfl⟩ (fun hHeld => ?_)
                                  clear hK K
                                  refine norm_ (a' := ?_) ?_ ?_
                                  rotate_left
                                  · show Act.put _ (some 85) _ = _
                                    simp only [Act.put, List.setIfInBounds_toArray, List.set_cons_zero, List.set_cons_succ, i64_w, i32_w]
                                    rfl
                                  refine pure_ (i := 5) (N := some 86) (v := ?_) (a' := ?_) #[true, true, true, true, true, true, false, true, true, false, false, false, false] rfl rfl (any_of HT_.out (by kernel_rfl)) (fun _ _ _ h => h) (Or.inl ⟨by rfl, ?_⟩) ?_ ?_
                                  rotate_left
                                  · intro w'
                                    go_simp
                                    with_reducible rfl
                                  rotate_left
                                  · simp only [Act.put, List.setIfInBounds_toArray, List.set_cons_zero, List.set_cons_succ, i64_w, i32_w]
                                    rfl
                                  refine pure_ (i := 6) (N := some 87) (v := ?_) (a' := ?_) #[true, true, true, true, true, true, true, true, true, false, false, false, false] rfl rfl (any_of HT_.out (by kernel_rfl)) (fun _ _ _ h => h) (Or.inl ⟨by rfl, ?_⟩) ?_ ?_
                                  rotate_left
                                  · intro w'
                                    go_simp
                                    with_reducible rfl
                                  rotate_left
                                  · simp only [Act.put, List.setIfInBounds_toArray, List.set_cons_zero, List.set_cons_succ, i64_w, i32_w]
                                    rfl
                                  refine one_ (i := 9) (N := some 90) #[true, true, true, true, true, true, true, true, true, true, false, false, false] rfl rfl (one_of HT_.out (by kernel_rfl)) (by decide) (fun K hK => ?_)
                                  refine goes_ Tryd.func56 (by kernel_rfl) rfl #[.int .i64 a0_2] (by rfl) rfl rfl (by (try simp only [List.map_toArray, List.map_cons, List.map_nil]); first | done | rfl | (simp only [List.length_drop, List.length_take]; rfl)) ?_
                                  with_reducible refine (spec_l00Digits.calls kj45 a0_2 t154 _ A69.out).mono ?_
                                  rintro e w73 ⟨rfl, hb⟩
                                  refine ⟨_, rfl, ?_⟩
                                  have n0_ := Aside0.mk (blk_below (g := gb141) (o := .cells #[.int .i64 a0_0, .int .i64 a0_1, .int .i64 a0_2, .string a0_3, .int .i64 a0_4, .int .i64 a0_5, .string a0_6] 44 (0, 0)) (by (with_reducible repeat (first | refine blk_drewN ?_ _ | refine blk_drew ?_ | refine blk_alloc ?_ _)); exact BK141.out) hb)
                                  have n1_ := Aside0.mk (below_step (by repeat (first | (with_reducible first | exact HB.out | apply below_alloc | apply pw_below_drewN | apply below_drew1 | refine below_set ?_ GE141.out) | exact HB.out)) hb)
                                  clear BK141
                                  clear HB
                                  have BK141 := n0_
                                  have HB := n1_
                                  clear n0_ n1_
                                  (try clear hb)
                                  (try clear hb2)
                                  (try clear hk)
                                  (try clear hi)
                                  refine hK.out _ _ ⟨(blk_cell BK141.out 0).trans rfl, (blk_cell BK141.out 1).trans rfl, (blk_cell BK141.out 2).trans rfl, (blk_cell BK141.out 3).trans rfl, (blk_cell BK141.out 4).trans rfl, (blk_cell BK141.out 5).trans rfl, (blk_cell BK141.out 6).trans rfl⟩ (fun hHeld => ?_)
                                  clear hK K
                                  refine norm_ (a' := ?_) ?_ ?_
                                  rotate_left
                                  · show Act.put _ (some 90) _ = _
                                    simp only [Act.put, List.setIfInBounds_toArray, List.set_cons_zero, List.set_cons_succ, i64_w, i32_w]
                                    rfl
                                  refine pure_ (i := 10) (N := some 91) (v := ?_) (a' := ?_) #[true, true, true, true, true, true, true, true, true, true, true, false, false] rfl rfl (any_of HT_.out (by kernel_rfl)) (fun _ _ _ h => h) (Or.inl ⟨by rfl, ?_⟩) ?_ ?_
                                  rotate_left
                                  · intro w'
                                    go_simp
                                    with_reducible rfl
                                  rotate_left
                                  · simp only [Act.put, List.setIfInBounds_toArray, List.set_cons_zero, List.set_cons_succ, i64_w, i32_w]
                                    rfl
                                  refine pure_ (i := 11) (N := some 2) (v := ?_) (a' := ?_) #[true, true, true, true, true, true, true, true, true, true, true, true, false] rfl rfl (any_of HT_.out (by kernel_rfl)) (fun _ _ _ h => h) (Or.inl ⟨by rfl, ?_⟩) ?_ ?_
                                  rotate_left
                                  · intro w'
                                    go_simp
                                    with_reducible rfl
                                  rotate_left
                                  · simp only [Act.put, List.setIfInBounds_toArray, List.set_cons_zero, List.set_cons_succ, i64_w, i32_w]
                                    rfl
                                  refine pure_ (i := 12) (N := some 3) (v := ?_) (a' := ?_) #[true, true, true, true, true, true, true, true, true, true, true, true, true] rfl rfl (any_of HT_.out (by kernel_rfl)) (fun _ _ _ h => h) (Or.inl ⟨by rfl, ?_⟩) ?_ ?_
                                  rotate_left
                                  · intro w'
                                    go_simp
                                    with_reducible rfl
                                  rotate_left
                                  · simp only [Act.put, List.setIfInBounds_toArray, List.set_cons_zero, List.set_cons_succ, i64_w, i32_w]
                                    rfl
                                  refine done_ (done_of HT_.out (by kernel_rfl)) ?_
                                  try go_wp2
                                  go_ret2
                                  exact ⟨by first | rfl | exact My.ret_isEmpty _ | (simp [errW_none, errW_some] <;> rfl) | (simp [*, errW_none, errW_some] <;> rfl), by repeat (first | (with_reducible first | exact HB.out | apply below_alloc | apply pw_below_drewN | apply below_drew1 | refine below_set ?_ GE141.out) | exact HB.out)⟩
                                · rw [if_neg c70] at H
                                  exact absurd H (by simp)
                              · rw [if_neg c68] at H
                                exact absurd H (by simp)
                            · rw [if_neg c67] at H
                              exact absurd H (by simp)
                          · rw [if_neg c65] at H
                            exact absurd H (by simp)
                        · rw [if_neg c64] at H
                          have c64b0 : (a0_0 == 10) = false := beq_eq_false_iff_ne.mpr c64
                          have c64b1 : (a0_0 != 10) = true := bne_iff_ne.mpr c64
                          by_cases c74 : a0_0 = 12
                          · rw [if_pos c74] at H
                            have c74b0 : (a0_0 == 12) = true := beq_iff_eq.mpr c74
                            have c74b1 : (a0_0 != 12) = false := bne_eq_false_iff_eq.mpr c74
                            clear c74
                            simp only [Option.some.injEq, Prod.mk.injEq] at H
                            obtain ⟨rfl, rfl⟩ := H
                            go_wp2
                            go_ret2
                            exact ⟨by first | rfl | exact My.ret_isEmpty _ | (simp [errW_none, errW_some] <;> rfl) | (simp [*, errW_none, errW_some] <;> rfl), by repeat (first | (with_reducible first | exact HB.out | apply below_alloc | apply pw_below_drewN | apply below_drew1 | refine below_set ?_ GE141.out) | exact HB.out)⟩
                          · rw [if_neg c74] at H
                            have c74b0 : (a0_0 == 12) = false := beq_eq_false_iff_ne.mpr c74
                            have c74b1 : (a0_0 != 12) = true := bne_iff_ne.mpr c74
                            by_cases c75 : a0_0 = 13
                            · rw [if_pos c75] at H
                              have c75b0 : (a0_0 == 13) = true := beq_iff_eq.mpr c75
                              have c75b1 : (a0_0 != 13) = false := bne_eq_false_iff_eq.mpr c75
                              clear c75
                              simp only [Option.some.injEq, Prod.mk.injEq] at H
                              obtain ⟨rfl, rfl⟩ := H
                              go_wp2
                              go_ret2
                              exact ⟨by first | rfl | exact My.ret_isEmpty _ | (simp [errW_none, errW_some] <;> rfl) | (simp [*, errW_none, errW_some] <;> rfl), by repeat (first | (with_reducible first | exact HB.out | apply below_alloc | apply pw_below_drewN | apply below_drew1 | refine below_set ?_ GE141.out) | exact HB.out)⟩
                            · rw [if_neg c75] at H
                              have c75b0 : (a0_0 == 13) = false := beq_eq_false_iff_ne.mpr c75
                              have c75b1 : (a0_0 != 13) = true := bne_iff_ne.mpr c75
                              by_cases c76 : a0_0 = 15
                              · rw [if_pos c76] at H
                                have c76b0 : (a0_0 == 15) = true := beq_iff_eq.mpr c76
                                have c76b1 : (a0_0 != 15) = false := bne_eq_false_iff_eq.mpr c76
                                clear c76
                                simp only [Option.some.injEq, Prod.mk.injEq] at H
                                obtain ⟨rfl, rfl⟩ := H
                                go_wp2
                                go_ret2
                                exact ⟨by first | rfl | exact My.ret_isEmpty _ | (simp [errW_none, errW_some] <;> rfl) | (simp [*, errW_none, errW_some] <;> rfl), by repeat (first | (with_reducible first | exact HB.out | apply below_alloc | apply pw_below_drewN | apply below_drew1 | refine below_set ?_ GE141.out) | exact HB.out)⟩
                              · rw [if_neg c76] at H
                                have c76b0 : (a0_0 == 15) = false := beq_eq_false_iff_ne.mpr c76
                                have c76b1 : (a0_0 != 15) = true := bne_iff_ne.mpr c76
                                by_cases c77 : a0_0 = 16
                                · rw [if_pos c77] at H
                                  have c77b0 : (a0_0 == 16) = true := beq_iff_eq.mpr c77
                                  have c77b1 : (a0_0 != 16) = false := bne_eq_false_iff_eq.mpr c77
                                  clear c77
                                  simp only [Option.some.injEq, Prod.mk.injEq] at H
                                  obtain ⟨rfl, rfl⟩ := H
                                  go_wp2
                                  go_ret2
                                  exact ⟨by first | rfl | exact My.ret_isEmpty _ | (simp [errW_none, errW_some] <;> rfl) | (simp [*, errW_none, errW_some] <;> rfl), by repeat (first | (with_reducible first | exact HB.out | apply below_alloc | apply pw_below_drewN | apply below_drew1 | refine below_set ?_ GE141.out) | exact HB.out)⟩
                                · rw [if_neg c77] at H
                                  have c77b0 : (a0_0 == 16) = false := beq_eq_false_iff_ne.mpr c77
                                  have c77b1 : (a0_0 != 16) = true := bne_iff_ne.mpr c77
                                  by_cases c78 : (rdOf ByteArray.empty t146 a0_0).size + 1 ≤ 9223372036854775807
                                  · rw [if_pos c78] at H
                                    have c78b0 := eq_true c78
                                    have c78b1 : decide ((rdOf ByteArray.empty t146 a0_0).size + 1 ≤ 9223372036854775807) = true := decide_eq_true c78
                                    try have c78b2 : (9223372036854775807 < (rdOf ByteArray.empty t146 a0_0).size + 1) = False := eq_false (Nat.not_lt.2 c78)
                                    replace H := Option.bind_eq_some_iff.mp H
                                    obtain ⟨t155, A790, H⟩ := H
                                    replace H : (if ((rdOf ByteArray.empty t146 a0_0) ++ (⟨#[32]⟩ : ByteArray)).size + t155.size ≤ 9223372036854775807 then (some (((rdOf ByteArray.empty t146 a0_0) ++ (⟨#[32]⟩ : ByteArray)) ++ t155, 0)) else (none)) = some (r1, r2) := H
                                    have A79 := Aside0.mk A790
                                    clear A790
                                    by_cases c80 : ((rdOf ByteArray.empty t146 a0_0) ++ (⟨#[32]⟩ : ByteArray)).size + t155.size ≤ 9223372036854775807
                                    · rw [if_pos c80] at H
                                      have c80b0 := eq_true c80
                                      have c80b1 : decide (((rdOf ByteArray.empty t146 a0_0) ++ (⟨#[32]⟩ : ByteArray)).size + t155.size ≤ 9223372036854775807) = true := decide_eq_true c80
                                      have c80b7_ : (rdOf ByteArray.empty t146 a0_0).size + 1 + t155.size ≤ 9223372036854775807 := by have h_ := c80; have e0_ : (⟨#[32]⟩ : ByteArray).size = 1 := rfl; simp only [ByteArray.size_append] at h_; omega
                                      have c80b8 : decide ((rdOf ByteArray.empty t146 a0_0).size + 1 + t155.size ≤ 9223372036854775807) = true := decide_eq_true c80b7_
                                      have c80b9 : (9223372036854775807 < (rdOf ByteArray.empty t146 a0_0).size + 1 + t155.size) = False := eq_false (Nat.not_lt.2 c80b7_)
                                      have c80b7 := eq_true c80b7_
                                      clear c80b7_
                                      try have c80b2 : (9223372036854775807 < ((rdOf ByteArray.empty t146 a0_0) ++ (⟨#[32]⟩ : ByteArray)).size + t155.size) = False := eq_false (Nat.not_lt.2 c80)
                                      simp only [Option.some.injEq, Prod.mk.injEq] at H
                                      obtain ⟨rfl, rfl⟩ := H
                                      have hcz81_0 : wc.cell? ⟨gb141, 0, none⟩ = some (.int .i64 a0_0) := (blk_cell BK141.out 0).trans rfl
                                      have hcz81_1 : wc.cell? ⟨gb141, 1, none⟩ = some (.int .i64 a0_1) := (blk_cell BK141.out 1).trans rfl
                                      have hcz81_2 : wc.cell? ⟨gb141, 2, none⟩ = some (.int .i64 a0_2) := (blk_cell BK141.out 2).trans rfl
                                      have hcz81_3 : wc.cell? ⟨gb141, 3, none⟩ = some (.string a0_3) := (blk_cell BK141.out 3).trans rfl
                                      have hcz81_4 : wc.cell? ⟨gb141, 4, none⟩ = some (.int .i64 a0_4) := (blk_cell BK141.out 4).trans rfl
                                      have hcz81_5 : wc.cell? ⟨gb141, 5, none⟩ = some (.int .i64 a0_5) := (blk_cell BK141.out 5).trans rfl
                                      have hcz81_6 : wc.cell? ⟨gb141, 6, none⟩ = some (.string a0_6) := (blk_cell BK141.out 6).trans rfl
                                      have hfz81_0 := blk_frozen BK141.out 0
                                      have hfz81_1 := blk_frozen BK141.out 1
                                      have hfz81_2 := blk_frozen BK141.out 2
                                      have hfz81_3 := blk_frozen BK141.out 3
                                      have hfz81_4 := blk_frozen BK141.out 4
                                      have hfz81_5 := blk_frozen BK141.out 5
                                      have hfz81_6 := blk_frozen BK141.out 6
                                      go_wp2_with (first | ((with_reducible refine gate_callee (f := 56) rfl ?_); refine goesL_ (some 102) rfl rfl Tryd.func56 (by kernel_rfl) rfl #[.int .i64 a0_1] rfl (by (try simp only [List.map_toArray, List.map_cons, List.map_nil]); first | done | rfl | (simp only [List.length_drop, List.length_take]; rfl)) ?_; (with_reducible refine (spec_l00Digits.calls kj45 a0_1 t155 _ A79.out).mono ?_); rintro e w82 ⟨rfl, hb⟩; refine ⟨_, rfl, ?_⟩; have n0_ := Aside0.mk (blk_below (g := gb141) (o := .cells #[.int .i64 a0_0, .int .i64 a0_1, .int .i64 a0_2, .string a0_3, .int .i64 a0_4, .int .i64 a0_5, .string a0_6] 44 (0, 0)) (by (with_reducible repeat (first | refine blk_drewN ?_ _ | refine blk_drew ?_ | refine blk_alloc ?_ _)); exact BK141.out) hb); have n1_ := Aside0.mk (below_step (by repeat (first | (with_reducible first | exact HB.out | apply below_alloc | apply pw_below_drewN | apply below_drew1 | refine below_set ?_ GE141.out) | exact HB.out)) hb); clear BK141; clear HB; have BK141 := n0_; have HB := n1_; clear n0_ n1_; (try clear hb); (try clear hb2); (try clear hk); (try clear hi)))
                                      go_ret2
                                      exact ⟨by first | rfl | exact My.ret_isEmpty _ | (simp [errW_none, errW_some] <;> rfl) | (simp [*, errW_none, errW_some] <;> rfl), by repeat (first | (with_reducible first | exact HB.out | apply below_alloc | apply pw_below_drewN | apply below_drew1 | refine below_set ?_ GE141.out) | exact HB.out)⟩
                                    · rw [if_neg c80] at H
                                      exact absurd H (by simp)
                                  · rw [if_neg c78] at H
                                    exact absurd H (by simp)
          · rw [if_neg c27] at H
            exact absurd H (by simp)
        · rw [if_neg c26] at H
          exact absurd H (by simp)

end Go.Proofs.YthclofmcinknlaaDoor.QFnExactInsText
