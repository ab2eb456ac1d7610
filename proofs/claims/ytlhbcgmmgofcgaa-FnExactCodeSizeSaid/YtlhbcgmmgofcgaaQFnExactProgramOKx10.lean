/- Functions that the law uses, as Lean functions with the same answers, and the walks that show it: by this session's program, after the form of the kit's print. No condition. -/
import Derived.Test.YtlhbcgmmgofcgaaQFnExactProgramOKx0
import Derived.Test.YtlhbcgmmgofcgaaQFnExactProgramOKx1
import Derived.Test.YtlhbcgmmgofcgaaQFnExactProgramOKx7
import Derived.Test.YtlhbcgmmgofcgaaQFnExactProgramOKx9
namespace Go.Proofs.Ytlhbcgmmgofcgaa.QFnExactProgramOK
open Go.RowKit Go.Proofs.YtlhbcgmmgofcgaaW.PrintWords Go.Proofs.YtlhbcgmmgofcgaaW.PrintLast Go.Proofs.YtlhbcgmmgofcgaaW.PrintMore
attribute [local go_sem] max2_int min2_int max_two min_two max_three min_three max_four min_four   -- for this text's walks alone
open Go.Proofs.Ytlhbcgmmgofcgaa
attribute [local go_sem high] My.binOp_gtr_flip
set_option linter.unusedVariables false
set_option linter.unusedSimpArgs false

/-! ### impl_builtinKinds: function 95 -/
def impl_builtinKinds.j0 : Nat → ByteArray → Bool → Option (List Int × Bool)
  | 0, _, _ => none
  | k + 1, x4, x17 => if x17 = true then (some ((([1, 1] : List Int)), true)) else (if x4.toList = ([99, 117, 116] : List UInt8) then (some ((([3, 1, 1] : List Int)), true)) else (some (([] : List Int), false)))
def impl_builtinKinds.f (k : Nat) (a0 : ByteArray) : Option (List Int × Bool) := if a0.toList = ([108, 101, 110] : List UInt8) then (some ((([3] : List Int)), true)) else (if a0.toList = ([115, 116, 114] : List UInt8) then (some ((([(-1)] : List Int)), true)) else (if a0.toList = ([97, 98, 115] : List UInt8) then (some ((([1] : List Int)), true)) else (if a0.toList = ([97, 116] : List UInt8) then (some ((([3, 1] : List Int)), true)) else (if a0.toList = ([109, 97, 120] : List UInt8) then (impl_builtinKinds.j0 k a0 (a0.toList == ([109, 97, 120] : List UInt8))) else (impl_builtinKinds.j0 k a0 (a0.toList == ([109, 105, 110] : List UInt8)))))))
theorem impl_builtinKinds.mono_l : ∀ k, (∀ y0 y1, LeO (impl_builtinKinds.j0 k y0 y1) (impl_builtinKinds.j0 (k + 1) y0 y1))
  | 0 => fun _ _ r h => by simp [impl_builtinKinds.j0] at h
  | k + 1 => by
    have ih0 := impl_builtinKinds.mono_l k
    · intro y0 y1
      unfold impl_builtinKinds.j0
      repeat' first
      | (with_reducible exact ih0 _ _)
      | (with_reducible exact LeO.refl _)
      | (with_reducible exact LeO.none _)
      | (with_reducible refine LeO.ite ?_ ?_)
      | (with_reducible refine LeO.bind ?_ (fun _ => ?_))
      | exact ih0 _ _
      | exact LeO.none _
      | refine LeO.ite ?_ ?_
      | refine LeO.bind ?_ (fun _ => ?_)
theorem impl_builtinKinds.mono : ∀ a0 k, LeO (impl_builtinKinds.f k a0) (impl_builtinKinds.f (k + 1) a0) := by
  intro a0 k
  have ih0 := impl_builtinKinds.mono_l k
  unfold impl_builtinKinds.f
  repeat' first
      | (with_reducible exact ih0 _ _)
      | (with_reducible exact LeO.refl _)
      | (with_reducible exact LeO.none _)
      | (with_reducible refine LeO.ite ?_ ?_)
      | (with_reducible refine LeO.bind ?_ (fun _ => ?_))
      | exact ih0 _ _
      | exact LeO.none _
      | refine LeO.ite ?_ ?_
      | refine LeO.bind ?_ (fun _ => ?_)
set_option maxHeartbeats 8000000 in
set_option maxRecDepth 100000 in
theorem impl_builtinKinds.calls (k : Nat) (a0 : ByteArray) (r1 : List Int) (r2 : Bool) (w : World) (h : impl_builtinKinds.f k a0 = some (r1, r2)) :
    Calls Try.prog 95 #[.string a0] w fun e w' => ∃ v0_ : Value, e = .returned (.tuple #[v0_, .bool r2]) ∧ Kd.R (Kd.int .i64) 3 w' w.heap.size (fun _ => True) v0_ r1 ∧ Below w.heap.size w w' := by
  have HB := Aside0.mk (Below.refl w.heap.size w)
  have H : (if a0.toList = ([108, 101, 110] : List UInt8) then (some ((([3] : List Int)), true)) else (if a0.toList = ([115, 116, 114] : List UInt8) then (some ((([(-1)] : List Int)), true)) else (if a0.toList = ([97, 98, 115] : List UInt8) then (some ((([1] : List Int)), true)) else (if a0.toList = ([97, 116] : List UInt8) then (some ((([3, 1] : List Int)), true)) else (if a0.toList = ([109, 97, 120] : List UInt8) then (impl_builtinKinds.j0 k a0 (a0.toList == ([109, 97, 120] : List UInt8))) else (impl_builtinKinds.j0 k a0 (a0.toList == ([109, 105, 110] : List UInt8)))))))) = some (r1, r2) := h
  clear h
  by_cases c2 : a0.toList = ([108, 101, 110] : List UInt8)
  · rw [if_pos c2] at H
    have c2b0 : (a0.toList == ([108, 101, 110] : List UInt8)) = true := beq_iff_eq.mpr c2
    have c2b1 : (a0.toList != ([108, 101, 110] : List UInt8)) = false := bne_eq_false_iff_eq.mpr c2
    clear c2
    obtain ⟨y201, hy201⟩ : ∃ y_ : List Int, y_ = (([3] : List Int)) := ⟨_, rfl⟩
    replace H : (some (y201, true)) = some (r1, r2) := by first | (rw [hy201]; with_reducible exact H) | (have H2_ := (Option.bind_some _ _).symm.trans H; rw [hy201]; with_reducible exact H2_) | (have H2_ := (Option.bind_some _ _).symm.trans H; with_reducible exact H2_) | with_reducible exact H | (rw [hy201]; exact H) | exact H
    have Ny201 := Aside0.mk hy201
    clear hy201
    simp only [Option.some.injEq, Prod.mk.injEq] at H
    obtain ⟨rfl, rfl⟩ := H
    go_enter Try.func95, Try.ntmps95
    go_wp2_with (first | ((with_reducible refine gate_dst (N := 7) rfl ?_); refine Kd.R_lit (Kd.int .i64) _ 3 ?hg (N := 7) ?hd (xs := ([3] : List Int)) (inner := [.int .i64 3]) (ok := fun _ => True) (okp := fun _ => True) ?hr ?hp (fun _ hk => hk) trivial (Below.refl _ _) (Nat.le_refl _) (by simp) ?_; (case hd => rfl); (case hg => rfl); (case hr => first | (go_simp; done) | (go_simp; rfl)); (case hp => exact (Reps.one (show Kd.M (Kd.int .i64) _ _ _ 3 [.int .i64 3] from rfl) (Reps.none _ _))); intro v202 w3 ho4 hb hg_ hnew_; clear hg_ hnew_; (first | rw [← Ny201.out] at ho4 | (simp only [Int.reduceToNat] at ho4; rw [← Ny201.out] at ho4)); have n0_ := Aside0.mk (Kd.R_lower ho4 (below_size (by repeat (first | (with_reducible first | exact HB.out | apply below_alloc | apply pw_below_drewN | apply below_drew1) | exact HB.out)))); have n1_ := Aside0.mk (below_step (by repeat (first | (with_reducible first | exact HB.out | apply below_alloc | apply pw_below_drewN | apply below_drew1) | exact HB.out)) hb); clear HB; have HO203 := n0_; have HB := n1_; clear n0_ n1_; clear hb ho4))
    go_ret2
    exact ⟨_, by first | rfl | exact My.ret_isEmpty _ | (simp [errW_none, errW_some] <;> rfl) | (simp [*, errW_none, errW_some] <;> rfl), by (with_reducible repeat (first | apply Kd.R_alloc | apply Kd.R_drewN | apply Kd.R_drew)); exact HO203.out, by repeat (first | (with_reducible first | exact HB.out | apply below_alloc | apply pw_below_drewN | apply below_drew1) | exact HB.out)⟩
  · rw [if_neg c2] at H
    have c2b0 : (a0.toList == ([108, 101, 110] : List UInt8)) = false := beq_eq_false_iff_ne.mpr c2
    have c2b1 : (a0.toList != ([108, 101, 110] : List UInt8)) = true := bne_iff_ne.mpr c2
    by_cases c5 : a0.toList = ([115, 116, 114] : List UInt8)
    · rw [if_pos c5] at H
      have c5b0 : (a0.toList == ([115, 116, 114] : List UInt8)) = true := beq_iff_eq.mpr c5
      have c5b1 : (a0.toList != ([115, 116, 114] : List UInt8)) = false := bne_eq_false_iff_eq.mpr c5
      clear c5
      obtain ⟨y204, hy204⟩ : ∃ y_ : List Int, y_ = (([(-1)] : List Int)) := ⟨_, rfl⟩
      replace H : (some (y204, true)) = some (r1, r2) := by first | (rw [hy204]; with_reducible exact H) | (have H2_ := (Option.bind_some _ _).symm.trans H; rw [hy204]; with_reducible exact H2_) | (have H2_ := (Option.bind_some _ _).symm.trans H; with_reducible exact H2_) | with_reducible exact H | (rw [hy204]; exact H) | exact H
      have Ny204 := Aside0.mk hy204
      clear hy204
      simp only [Option.some.injEq, Prod.mk.injEq] at H
      obtain ⟨rfl, rfl⟩ := H
      go_enter Try.func95, Try.ntmps95
      go_wp2_with (first | ((with_reducible refine gate_dst (N := 10) rfl ?_); refine Kd.R_lit (Kd.int .i64) _ 3 ?hg (N := 10) ?hd (xs := ([(-1)] : List Int)) (inner := [.int .i64 (-1)]) (ok := fun _ => True) (okp := fun _ => True) ?hr ?hp (fun _ hk => hk) trivial (Below.refl _ _) (Nat.le_refl _) (by simp) ?_; (case hd => rfl); (case hg => rfl); (case hr => first | (go_simp; done) | (go_simp; rfl)); (case hp => exact (Reps.one (show Kd.M (Kd.int .i64) _ _ _ (-1) [.int .i64 (-1)] from rfl) (Reps.none _ _))); intro v205 w6 ho7 hb hg_ hnew_; clear hg_ hnew_; (first | rw [← Ny204.out] at ho7 | (simp only [Int.reduceToNat] at ho7; rw [← Ny204.out] at ho7)); have n0_ := Aside0.mk (Kd.R_lower ho7 (below_size (by repeat (first | (with_reducible first | exact HB.out | apply below_alloc | apply pw_below_drewN | apply below_drew1) | exact HB.out)))); have n1_ := Aside0.mk (below_step (by repeat (first | (with_reducible first | exact HB.out | apply below_alloc | apply pw_below_drewN | apply below_drew1) | exact HB.out)) hb); clear HB; have HO206 := n0_; have HB := n1_; clear n0_ n1_; clear hb ho7))
      go_ret2
      exact ⟨_, by first | rfl | exact My.ret_isEmpty _ | (simp [errW_none, errW_some] <;> rfl) | (simp [*, errW_none, errW_some] <;> rfl), by (with_reducible repeat (first | apply Kd.R_alloc | apply Kd.R_drewN | apply Kd.R_drew)); exact HO206.out, by repeat (first | (with_reducible first | exact HB.out | apply below_alloc | apply pw_below_drewN | apply below_drew1) | exact HB.out)⟩
    · rw [if_neg c5] at H
      have c5b0 : (a0.toList == ([115, 116, 114] : List UInt8)) = false := beq_eq_false_iff_ne.mpr c5
      have c5b1 : (a0.toList != ([115, 116, 114] : List UInt8)) = true := bne_iff_ne.mpr c5
      by_cases c8 : a0.toList = ([97, 98, 115] : List UInt8)
      · rw [if_pos c8] at H
        have c8b0 : (a0.toList == ([97, 98, 115] : List UInt8)) = true := beq_iff_eq.mpr c8
        have c8b1 : (a0.toList != ([97, 98, 115] : List UInt8)) = false := bne_eq_false_iff_eq.mpr c8
        clear c8
        obtain ⟨y207, hy207⟩ : ∃ y_ : List Int, y_ = (([1] : List Int)) := ⟨_, rfl⟩
        replace H : (some (y207, true)) = some (r1, r2) := by first | (rw [hy207]; with_reducible exact H) | (have H2_ := (Option.bind_some _ _).symm.trans H; rw [hy207]; with_reducible exact H2_) | (have H2_ := (Option.bind_some _ _).symm.trans H; with_reducible exact H2_) | with_reducible exact H | (rw [hy207]; exact H) | exact H
        have Ny207 := Aside0.mk hy207
        clear hy207
        simp only [Option.some.injEq, Prod.mk.injEq] at H
        obtain ⟨rfl, rfl⟩ := H
        go_enter Try.func95, Try.ntmps95
        go_wp2_with (first | ((with_reducible refine gate_dst (N := 13) rfl ?_); refine Kd.R_lit (Kd.int .i64) _ 3 ?hg (N := 13) ?hd (xs := ([1] : List Int)) (inner := [.int .i64 1]) (ok := fun _ => True) (okp := fun _ => True) ?hr ?hp (fun _ hk => hk) trivial (Below.refl _ _) (Nat.le_refl _) (by simp) ?_; (case hd => rfl); (case hg => rfl); (case hr => first | (go_simp; done) | (go_simp; rfl)); (case hp => exact (Reps.one (show Kd.M (Kd.int .i64) _ _ _ 1 [.int .i64 1] from rfl) (Reps.none _ _))); intro v208 w9 ho10 hb hg_ hnew_; clear hg_ hnew_; (first | rw [← Ny207.out] at ho10 | (simp only [Int.reduceToNat] at ho10; rw [← Ny207.out] at ho10)); have n0_ := Aside0.mk (Kd.R_lower ho10 (below_size (by repeat (first | (with_reducible first | exact HB.out | apply below_alloc | apply pw_below_drewN | apply below_drew1) | exact HB.out)))); have n1_ := Aside0.mk (below_step (by repeat (first | (with_reducible first | exact HB.out | apply below_alloc | apply pw_below_drewN | apply below_drew1) | exact HB.out)) hb); clear HB; have HO209 := n0_; have HB := n1_; clear n0_ n1_; clear hb ho10))
        go_ret2
        exact ⟨_, by first | rfl | exact My.ret_isEmpty _ | (simp [errW_none, errW_some] <;> rfl) | (simp [*, errW_none, errW_some] <;> rfl), by (with_reducible repeat (first | apply Kd.R_alloc | apply Kd.R_drewN | apply Kd.R_drew)); exact HO209.out, by repeat (first | (with_reducible first | exact HB.out | apply below_alloc | apply pw_below_drewN | apply below_drew1) | exact HB.out)⟩
      · rw [if_neg c8] at H
        have c8b0 : (a0.toList == ([97, 98, 115] : List UInt8)) = false := beq_eq_false_iff_ne.mpr c8
        have c8b1 : (a0.toList != ([97, 98, 115] : List UInt8)) = true := bne_iff_ne.mpr c8
        by_cases c11 : a0.toList = ([97, 116] : List UInt8)
        · rw [if_pos c11] at H
          have c11b0 : (a0.toList == ([97, 116] : List UInt8)) = true := beq_iff_eq.mpr c11
          have c11b1 : (a0.toList != ([97, 116] : List UInt8)) = false := bne_eq_false_iff_eq.mpr c11
          clear c11
          obtain ⟨y210, hy210⟩ : ∃ y_ : List Int, y_ = (([3, 1] : List Int)) := ⟨_, rfl⟩
          replace H : (some (y210, true)) = some (r1, r2) := by first | (rw [hy210]; with_reducible exact H) | (have H2_ := (Option.bind_some _ _).symm.trans H; rw [hy210]; with_reducible exact H2_) | (have H2_ := (Option.bind_some _ _).symm.trans H; with_reducible exact H2_) | with_reducible exact H | (rw [hy210]; exact H) | exact H
          have Ny210 := Aside0.mk hy210
          clear hy210
          simp only [Option.some.injEq, Prod.mk.injEq] at H
          obtain ⟨rfl, rfl⟩ := H
          go_enter Try.func95, Try.ntmps95
          go_wp2_with (first | ((with_reducible refine gate_dst (N := 16) rfl ?_); refine Kd.R_lit (Kd.int .i64) _ 3 ?hg (N := 16) ?hd (xs := ([3, 1] : List Int)) (inner := [.int .i64 3, .int .i64 1]) (ok := fun _ => True) (okp := fun _ => True) ?hr ?hp (fun _ hk => hk) trivial (Below.refl _ _) (Nat.le_refl _) (by simp) ?_; (case hd => rfl); (case hg => rfl); (case hr => first | (go_simp; done) | (go_simp; rfl)); (case hp => exact (Reps.one (show Kd.M (Kd.int .i64) _ _ _ 3 [.int .i64 3] from rfl) (Reps.one (show Kd.M (Kd.int .i64) _ _ _ 1 [.int .i64 1] from rfl) (Reps.none _ _)))); intro v211 w12 ho13 hb hg_ hnew_; clear hg_ hnew_; (first | rw [← Ny210.out] at ho13 | (simp only [Int.reduceToNat] at ho13; rw [← Ny210.out] at ho13)); have n0_ := Aside0.mk (Kd.R_lower ho13 (below_size (by repeat (first | (with_reducible first | exact HB.out | apply below_alloc | apply pw_below_drewN | apply below_drew1) | exact HB.out)))); have n1_ := Aside0.mk (below_step (by repeat (first | (with_reducible first | exact HB.out | apply below_alloc | apply pw_below_drewN | apply below_drew1) | exact HB.out)) hb); clear HB; have HO212 := n0_; have HB := n1_; clear n0_ n1_; clear hb ho13))
          go_ret2
          exact ⟨_, by first | rfl | exact My.ret_isEmpty _ | (simp [errW_none, errW_some] <;> rfl) | (simp [*, errW_none, errW_some] <;> rfl), by (with_reducible repeat (first | apply Kd.R_alloc | apply Kd.R_drewN | apply Kd.R_drew)); exact HO212.out, by repeat (first | (with_reducible first | exact HB.out | apply below_alloc | apply pw_below_drewN | apply below_drew1) | exact HB.out)⟩
        · rw [if_neg c11] at H
          have c11b0 : (a0.toList == ([97, 116] : List UInt8)) = false := beq_eq_false_iff_ne.mpr c11
          have c11b1 : (a0.toList != ([97, 116] : List UInt8)) = true := bne_iff_ne.mpr c11
          have HC14 := Aside0.mk H
          clear H
          go_enter Try.func95, Try.ntmps95
          go_upto_if 17 with (fail)
          go_cut [17] (fun v17 wc => ∃ (kq : Nat) (x17_13 : Bool), v17 = .bool x17_13 ∧ Aside0 (impl_builtinKinds.j0 kq a0 x17_13 = some (r1, r2)) ∧ Aside0 (kq ≤ k) ∧ Aside0 (Below w.heap.size w wc))
          case first =>
            have H := HC14.out
            clear HC14
            by_cases c15 : a0.toList = ([109, 97, 120] : List UInt8)
            · rw [if_pos c15] at H
              have c15b0 : (a0.toList == ([109, 97, 120] : List UInt8)) = true := beq_iff_eq.mpr c15
              have c15b1 : (a0.toList != ([109, 97, 120] : List UInt8)) = false := bne_eq_false_iff_eq.mpr c15
              clear c15
              (first | rw [c15b0] | (simp only [i64_w, i32_w]; rw [c15b0]) | skip)
              have H' := Aside0.mk H
              clear H
              go_wp2
              go_meet
              case rel => exact ⟨_, ((a0.toList == ([109, 97, 120] : List UInt8))), (by first | rfl | (simp; done) | (simp [*]; done)), H', ⟨by first | omega | exact Nat.le_refl _⟩, ⟨by repeat (first | (with_reducible first | exact HB.out | apply below_alloc | apply pw_below_drewN | apply below_drew1) | exact HB.out)⟩⟩
            · rw [if_neg c15] at H
              have c15b0 : (a0.toList == ([109, 97, 120] : List UInt8)) = false := beq_eq_false_iff_ne.mpr c15
              have c15b1 : (a0.toList != ([109, 97, 120] : List UInt8)) = true := bne_iff_ne.mpr c15
              (first | rw [c15b0] | (simp only [i64_w, i32_w]; rw [c15b0]) | skip)
              have H' := Aside0.mk H
              clear H
              go_wp2
              go_meet
              case rel => exact ⟨_, ((a0.toList == ([109, 105, 110] : List UInt8))), (by first | rfl | (simp; done) | (simp [*]; done)), H', ⟨by first | omega | exact Nat.le_refl _⟩, ⟨by repeat (first | (with_reducible first | exact HB.out | apply below_alloc | apply pw_below_drewN | apply below_drew1) | exact HB.out)⟩⟩
          case rest =>
            clear HC14
            try clear c1
            try clear c2
            try clear c2b0
            try clear c2b1
            try clear p2
            try clear c5
            try clear c5b0
            try clear c5b1
            try clear c8
            try clear c8b0
            try clear c8b1
            try clear c9
            try clear c11
            try clear c11b0
            try clear c11b1
            try clear c15
            try clear c15b0
            try clear c15b1
            obtain ⟨kq, x17_13, rfl, HA, HJ13, HB⟩ := hcut
            cases kq with
            | zero => exact absurd HA.out (by simp [impl_builtinKinds.j0])
            | succ kj13 =>
              have H := HA.out
              clear HA
              simp only [impl_builtinKinds.j0] at H
              by_cases c16 : x17_13 = true
              · subst c16
                have H1 : (some ((([1, 1] : List Int)), true)) = some (r1, r2) := by rw [if_pos rfl] at H; exact H
                clear H
                have H := H1
                clear H1
                obtain ⟨y213, hy213⟩ : ∃ y_ : List Int, y_ = (([1, 1] : List Int)) := ⟨_, rfl⟩
                replace H : (some (y213, true)) = some (r1, r2) := by first | (rw [hy213]; with_reducible exact H) | (have H2_ := (Option.bind_some _ _).symm.trans H; rw [hy213]; with_reducible exact H2_) | (have H2_ := (Option.bind_some _ _).symm.trans H; with_reducible exact H2_) | with_reducible exact H | (rw [hy213]; exact H) | exact H
                have Ny213 := Aside0.mk hy213
                clear hy213
                simp only [Option.some.injEq, Prod.mk.injEq] at H
                obtain ⟨rfl, rfl⟩ := H
                go_wp2_with (first | ((with_reducible refine gate_dst (N := 20) rfl ?_); refine Kd.R_lit (Kd.int .i64) _ 3 ?hg (N := 20) ?hd (xs := ([1, 1] : List Int)) (inner := [.int .i64 1, .int .i64 1]) (ok := fun _ => True) (okp := fun _ => True) ?hr ?hp (fun _ hk => hk) trivial (Below.refl _ _) (Nat.le_refl _) (by simp) ?_; (case hd => rfl); (case hg => rfl); (case hr => first | (go_simp; done) | (go_simp; rfl)); (case hp => exact (Reps.one (show Kd.M (Kd.int .i64) _ _ _ 1 [.int .i64 1] from rfl) (Reps.one (show Kd.M (Kd.int .i64) _ _ _ 1 [.int .i64 1] from rfl) (Reps.none _ _)))); intro v214 w17 ho18 hb hg_ hnew_; clear hg_ hnew_; (first | rw [← Ny213.out] at ho18 | (simp only [Int.reduceToNat] at ho18; rw [← Ny213.out] at ho18)); have n0_ := Aside0.mk (Kd.R_lower ho18 (below_size (by repeat (first | (with_reducible first | exact HB.out | apply below_alloc | apply pw_below_drewN | apply below_drew1) | exact HB.out)))); have n1_ := Aside0.mk (below_step (by repeat (first | (with_reducible first | exact HB.out | apply below_alloc | apply pw_below_drewN | apply below_drew1) | exact HB.out)) hb); clear HB; have HO215 := n0_; have HB := n1_; clear n0_ n1_; clear hb ho18))
                go_ret2
                exact ⟨_, by first | rfl | exact My.ret_isEmpty _ | (simp [errW_none, errW_some] <;> rfl) | (simp [*, errW_none, errW_some] <;> rfl), by (with_reducible repeat (first | apply Kd.R_alloc | apply Kd.R_drewN | apply Kd.R_drew)); exact HO215.out, by repeat (first | (with_reducible first | exact HB.out | apply below_alloc | apply pw_below_drewN | apply below_drew1) | exact HB.out)⟩
              · replace c16 := Bool.eq_false_iff.mpr c16
                subst c16
                have H1 : (if a0.toList = ([99, 117, 116] : List UInt8) then (some ((([3, 1, 1] : List Int)), true)) else (some (([] : List Int), false))) = some (r1, r2) := by rw [if_neg (show ¬ (false = true) by decide)] at H; exact H
                clear H
                have H := H1
                clear H1
                by_cases c19 : a0.toList = ([99, 117, 116] : List UInt8)
                · rw [if_pos c19] at H
                  have c19b0 : (a0.toList == ([99, 117, 116] : List UInt8)) = true := beq_iff_eq.mpr c19
                  have c19b1 : (a0.toList != ([99, 117, 116] : List UInt8)) = false := bne_eq_false_iff_eq.mpr c19
                  clear c19
                  obtain ⟨y216, hy216⟩ : ∃ y_ : List Int, y_ = (([3, 1, 1] : List Int)) := ⟨_, rfl⟩
                  replace H : (some (y216, true)) = some (r1, r2) := by first | (rw [hy216]; with_reducible exact H) | (have H2_ := (Option.bind_some _ _).symm.trans H; rw [hy216]; with_reducible exact H2_) | (have H2_ := (Option.bind_some _ _).symm.trans H; with_reducible exact H2_) | with_reducible exact H | (rw [hy216]; exact H) | exact H
                  have Ny216 := Aside0.mk hy216
                  clear hy216
                  simp only [Option.some.injEq, Prod.mk.injEq] at H
                  obtain ⟨rfl, rfl⟩ := H
                  go_wp2_with (first | ((with_reducible refine gate_dst (N := 23) rfl ?_); refine Kd.R_lit (Kd.int .i64) _ 3 ?hg (N := 23) ?hd (xs := ([3, 1, 1] : List Int)) (inner := [.int .i64 3, .int .i64 1, .int .i64 1]) (ok := fun _ => True) (okp := fun _ => True) ?hr ?hp (fun _ hk => hk) trivial (Below.refl _ _) (Nat.le_refl _) (by simp) ?_; (case hd => rfl); (case hg => rfl); (case hr => first | (go_simp; done) | (go_simp; rfl)); (case hp => exact (Reps.one (show Kd.M (Kd.int .i64) _ _ _ 3 [.int .i64 3] from rfl) (Reps.one (show Kd.M (Kd.int .i64) _ _ _ 1 [.int .i64 1] from rfl) (Reps.one (show Kd.M (Kd.int .i64) _ _ _ 1 [.int .i64 1] from rfl) (Reps.none _ _))))); intro v217 w20 ho21 hb hg_ hnew_; clear hg_ hnew_; (first | rw [← Ny216.out] at ho21 | (simp only [Int.reduceToNat] at ho21; rw [← Ny216.out] at ho21)); have n0_ := Aside0.mk (Kd.R_lower ho21 (below_size (by repeat (first | (with_reducible first | exact HB.out | apply below_alloc | apply pw_below_drewN | apply below_drew1) | exact HB.out)))); have n1_ := Aside0.mk (below_step (by repeat (first | (with_reducible first | exact HB.out | apply below_alloc | apply pw_below_drewN | apply below_drew1) | exact HB.out)) hb); clear HB; have HO218 := n0_; have HB := n1_; clear n0_ n1_; clear hb ho21))
                  go_ret2
                  exact ⟨_, by first | rfl | exact My.ret_isEmpty _ | (simp [errW_none, errW_some] <;> rfl) | (simp [*, errW_none, errW_some] <;> rfl), by (with_reducible repeat (first | apply Kd.R_alloc | apply Kd.R_drewN | apply Kd.R_drew)); exact HO218.out, by repeat (first | (with_reducible first | exact HB.out | apply below_alloc | apply pw_below_drewN | apply below_drew1) | exact HB.out)⟩
                · rw [if_neg c19] at H
                  have c19b0 : (a0.toList == ([99, 117, 116] : List UInt8)) = false := beq_eq_false_iff_ne.mpr c19
                  have c19b1 : (a0.toList != ([99, 117, 116] : List UInt8)) = true := bne_iff_ne.mpr c19
                  simp only [Option.some.injEq, Prod.mk.injEq] at H
                  obtain ⟨rfl, rfl⟩ := H
                  go_wp2
                  go_ret2
                  exact ⟨_, by first | rfl | exact My.ret_isEmpty _ | (simp [errW_none, errW_some] <;> rfl) | (simp [*, errW_none, errW_some] <;> rfl), by first | exact Kd.R_nil _ _ _ _ _ | exact Kd.N_nil _ _ _ _ _ | exact Kd.V_nil _ _ _ _ _ | exact Kd.Q_nil _ _ _ _ _ | exact Kd.S_nil _ _ _ _ _, by repeat (first | (with_reducible first | exact HB.out | apply below_alloc | apply pw_below_drewN | apply below_drew1) | exact HB.out)⟩

/-! ### impl_Program_insOK: function 66 -/
/-- '==' of instructions, as one truth value. -/
theorem impl_Program_insOK.eqI (d : Nat) (w : World) (x0 y0 : Int) (x1 y1 : Int) (x2 y2 : Int) (x3 y3 : ByteArray) (x4 y4 : Int) (x5 y5 : Int) (x6 y6 : ByteArray) :
    (Op.equalIn (d + 3) 61 (.agg #[.int .i64 x0, .int .i64 x1, .int .i64 x2, .string x3, .int .i64 x4, .int .i64 x5, .string x6]) (.agg #[.int .i64 y0, .int .i64 y1, .int .i64 y2, .string y3, .int .i64 y4, .int .i64 y5, .string y6])).run Try.prog w = .ok (x0 == y0 && (x1 == y1 && (x2 == y2 && (x3.toList == y3.toList && ((x4 == y4 && (x5 == y5 && (x6.toList == y6.toList)))))))) w := by
  refine eqA_of Try.underlying61 (by kernel_rfl) ?_
  refine eqf_cons (by rfl) (by go_simp; rfl) (by go_simp; rfl) (by go_simp) ?_
  refine eqf_cons (by rfl) (by go_simp; rfl) (by go_simp; rfl) (by go_simp) ?_
  refine eqf_cons (by rfl) (by go_simp; rfl) (by go_simp; rfl) (by go_simp) ?_
  refine eqf_cons (by rfl) (by go_simp; rfl) (by go_simp; rfl) (by go_simp) ?_
  exact eqf_last (by rfl) (by go_simp) (by go_simp) (eqA45 (d + 0) w _ _ _ _ _ _)
/-- Is an instruction what its bare form is. -/
def impl_Program_insOK.same (i : S61) (b : Int × Int × Int × ByteArray × Int × Int × ByteArray) : Bool := i.f0 == b.1 && (i.f1 == b.2.1 && (i.f2 == b.2.2.1 && (i.f3.toList == b.2.2.2.1.toList && ((i.f4.f0 == b.2.2.2.2.1 && (i.f4.f1 == b.2.2.2.2.2.1 && (i.f4.f2.toList == b.2.2.2.2.2.2.toList)))))))
theorem impl_Program_insOK.mixed : Try.prog.follows Departure.mixedOrders = true := by kernel_rfl
def impl_Program_insOK.f (ps : List S57) (slots : Int) (n : Nat) (i : S61) : Option Bool :=
  (impl_Ins_bare.f i.f0 i.f1 i.f2 i.f3 i.f4.f0 i.f4.f1 i.f4.f2).bind fun b =>
    if (!(impl_Program_insOK.same i b) || !(decide (1 ≤ i.f0) && decide (i.f0 ≤ 16))) = true then some false
    else if i.f0 = 1 then impl_ValueOK.f i.f4.f0 i.f4.f1 i.f4.f2
    else if i.f0 = 2 ∨ i.f0 = 3 then some (decide (0 ≤ i.f1) && decide (i.f1 ≤ slots - 1))
    else if i.f0 = 4 then impl_isUnary.f i.f3
    else if i.f0 = 5 then impl_isBinary.f 64 i.f3
    else if i.f0 = 10 then some ((decide (1 ≤ i.f1) && decide (i.f1 ≤ (ps.length : Int) - 1)) && (i.f2 == (rd_T57 ps i.f1).f1))
    else if i.f0 = 11 then (impl_builtinKinds.f 64 i.f3).bind fun r => some (r.2 && (i.f1 == (r.1.length : Int)))
    else (impl_leads.f 64 i.f0).bind fun q => if q = true then some (decide (0 ≤ i.f1) && decide (i.f1 ≤ (n : Int) - 1)) else some true
theorem impl_Program_insOK.in_calls (a b c : Int) (w : World) : Calls Try.prog 62 #[.int .i64 a, .int .i64 b, .int .i64 c] w fun e w' => e = .returned (.bool (decide (b ≤ a) && decide (a ≤ c))) ∧ Below w.heap.size w w' :=
  (impl_within.calls a b c (decide (b ≤ a) && decide (a ≤ c)) w (by
    unfold impl_within.f
    by_cases h1 : b ≤ a <;> simp [h1])).mono fun e w' h => ⟨h.1, h.2.below⟩
set_option maxRecDepth 100000 in
theorem impl_Program_insOK.within (a b c : Int) (w : World) : Calls Try.prog 62 #[.int .i64 a, .int .i64 b, .int .i64 c] w fun e w' => e = .returned (.bool (decide (b ≤ a) && decide (a ≤ c))) ∧ w' = w := by
  cases h : decide (b ≤ a) with
  | true =>
    go_enter Try.func62, Try.ntmps62
    go_wp2_with fail
    go_ret
    exact ⟨rfl, rfl⟩
  | false =>
    go_enter Try.func62, Try.ntmps62
    go_wp2_with fail
    go_ret
    exact ⟨rfl, rfl⟩
set_option maxHeartbeats 16000000 in
set_option maxRecDepth 100000 in
theorem impl_Program_insOK.go (ps : List S57) (A : Option Addr) (c : Nat) (gp fb fo : Nat) (fs : Option Nat) (slots : Int) (A3 : Option Addr) (n c3 : Nat) (i : S61) (r : Bool) (w : World)
    (hp : w.cell? ⟨gp, 0, none⟩ = some (.slice A ps.length c)) (hps : Kd.C k57 w A ps.length ps) (hpc : ps.length ≤ c) (h2 : w.cell? ⟨fb, fo + 2, none⟩ = some (.int .i64 slots)) (h3 : w.cell? ⟨fb, fo + 3, none⟩ = some (.slice A3 n c3))
    (hl1 : ps.length ≤ 9) (hn : n ≤ 400) (hs0 : 0 ≤ slots) (hs1 : slots ≤ 20) (h : impl_Program_insOK.f ps slots n i = some r) :
    Calls Try.prog 66 #[.pointer (some ⟨gp, 0, none⟩), .pointer (some ⟨fb, fo, fs⟩), .agg #[.int .i64 i.f0, .int .i64 i.f1, .int .i64 i.f2, .string i.f3, .int .i64 i.f4.f0, .int .i64 i.f4.f1, .string i.f4.f2]] w fun e w' => e = .returned (.bool r) ∧ Below w.heap.size w w' := by
  have huI := Try.underlying61
  have huV := Try.underlying45
  obtain ⟨i0, i1, i2, i3, v0, v1, v2⟩ := i
  unfold impl_Program_insOK.f at h
  obtain ⟨b, hb, h⟩ := Option.bind_eq_some_iff.1 h
  obtain ⟨q, hq⟩ : ∃ q, q = impl_Program_insOK.same ⟨i0, i1, i2, i3, ⟨v0, v1, v2⟩⟩ b := ⟨_, rfl⟩
  rw [← hq] at h
  obtain ⟨b0, b1, b2, b3, b4, b5, b6⟩ := b
  have hbare := fun w => impl_Ins_bare.calls i0 i1 i2 i3 v0 v1 v2 b0 b1 b2 b3 b4 b5 b6 w hb
  have heq : ∀ (d : Nat) (w : World), (Op.equalIn (d + 3) 61 (.agg #[.int .i64 i0, .int .i64 i1, .int .i64 i2, .string i3, .int .i64 v0, .int .i64 v1, .string v2]) (.agg #[.int .i64 b0, .int .i64 b1, .int .i64 b2, .string b3, .int .i64 b4, .int .i64 b5, .string b6])).run Try.prog w = .ok q w := fun d w => by
    rw [hq]
    exact impl_Program_insOK.eqI d w _ _ _ _ _ _ _ _ _ _ _ _ _ _
  have HF := Aside0.mk h
  have HP := Aside0.mk (And.intro hp (And.intro hps (And.intro h2 h3)))
  have HQ := Aside0.mk hq
  clear h hq hb hp hps h2 h3
  go_enter Try.func66, Try.ntmps66
  go_upto_region 1 with fail
  obtain ⟨g, hg⟩ : ∃ g, w.heap.size = g := ⟨_, rfl⟩
  obtain ⟨wA, hwA⟩ : ∃ wA, w.alloc (Obj.cells #[.int .i64 i0, .int .i64 i1, .int .i64 i2, .string i3, .int .i64 v0, .int .i64 v1, .string v2] 61) = wA := ⟨_, rfl⟩
  have bA : Below w.heap.size w wA := by rw [← hwA]; exact below_alloc (Below.refl _ _) _
  have BK := Aside0.mk (show wA.heap[w.heap.size]? = some (.cells #[.int .i64 i0, .int .i64 i1, .int .i64 i2, .string i3, .int .i64 v0, .int .i64 v1, .string v2] 61 (0, 0)) by rw [← hwA]; exact heap_alloc_new w _)
  have HB := Aside0.mk bA
  rw [hwA, hg]
  rw [hg] at BK
  clear hwA bA
  go_cut [18] from 9 to 17 (fun s wx => s = .bool (!q || !(decide (1 ≤ i0) && decide (i0 ≤ 16))) ∧ Aside0 (wx.heap[g]? = some (.cells #[.int .i64 i0, .int .i64 i1, .int .i64 i2, .string i3, .int .i64 v0, .int .i64 v1, .string v2] 61 (0, 0))) ∧ Aside0 (Below w.heap.size w wx))
  case first =>
    have x0 := blk_cell BK.out 0
    have x1 := blk_cell BK.out 1
    have x2 := blk_cell BK.out 2
    have x3 := blk_cell BK.out 3
    have x4 := blk_cell BK.out 4
    have x5 := blk_cell BK.out 5
    have x6 := blk_cell BK.out 6
    have hin := fun w => impl_Program_insOK.in_calls i0 1 16 w
    clear HF HP HQ
    have hbx : ∀ w', Below wA.drew.heap.size wA.drew w' → w'.heap[g]? = some (.cells #[.int .i64 i0, .int .i64 i1, .int .i64 i2, .string i3, .int .i64 v0, .int .i64 v1, .string v2] 61 (0, 0)) := fun w' hb => blk_below (blk_drew BK.out) hb
    cases q with
    | false =>
      first
        | (go_region_with (go_at_call 91; (with_reducible refine (hbare _).mono ?_); rintro e w7 ⟨rfl, hb7⟩; have y0 := blk_cell (hbx _ hb7) 0; have y1 := blk_cell (hbx _ hb7) 1; have y2 := blk_cell (hbx _ hb7) 2; have y3 := blk_cell (hbx _ hb7) 3; have y4 := blk_cell (hbx _ hb7) 4; have y5 := blk_cell (hbx _ hb7) 5; have y6 := blk_cell (hbx _ hb7) 6; have HB7 := Aside0.mk hb7; clear hb7))
        | fail
      all_goals go_wp2_with fail
      all_goals go_meet
      all_goals exact ⟨rfl, ⟨hbx _ HB7.out⟩, ⟨(below_drew HB.out).trans (HB7.out.mono (below_drew HB.out).size)⟩⟩
    | true =>
      go_region_with (first | (go_at_call 91; (with_reducible refine (hbare _).mono ?_); rintro e w7 ⟨rfl, hb7⟩; have y0 := blk_cell (hbx _ hb7) 0; have y1 := blk_cell (hbx _ hb7) 1; have y2 := blk_cell (hbx _ hb7) 2; have y3 := blk_cell (hbx _ hb7) 3; have y4 := blk_cell (hbx _ hb7) 4; have y5 := blk_cell (hbx _ hb7) 5; have y6 := blk_cell (hbx _ hb7) 6; have HB7 := Aside0.mk hb7; clear hb7) | (go_at_call 62; (with_reducible refine (hin _).mono ?_); rintro e w8 ⟨rfl, hb8⟩))
      all_goals go_wp2_with fail
      all_goals go_meet
      all_goals
        have hb := below_step HB7.out hb8
        exact ⟨by simp, ⟨blk_below (blk_drew BK.out) hb⟩, ⟨(below_drew HB.out).trans (hb.mono (below_drew HB.out).size)⟩⟩
  case rest =>
    clear BK HB
    obtain ⟨rfl, BK, HB⟩ := hcut
    have hf := HF.out
    clear HF HQ heq hbare
    obtain ⟨hp0, hps0, h20, h30⟩ := HP.out
    clear hg
    have hp := pw_cell_below HB.out hp0
    have h2 := pw_cell_below HB.out h20
    have h3 := pw_cell_below HB.out h30
    have HPS := Aside0.mk hps0
    clear HP hp0 hps0 h20 h30
    cases hbad : (!q || !(decide (1 ≤ i0) && decide (i0 ≤ 16))) with
    | true =>
      rw [if_pos hbad] at hf
      obtain rfl := Option.some.inj hf
      clear hf hbad
      go_wp2
      go_ret
      exact ⟨rfl, HB.out⟩
    | false =>
      rw [if_neg (by rw [hbad]; decide)] at hf
      have x0 := blk_cell BK.out 0
      have x1 := blk_cell BK.out 1
      have x2 := blk_cell BK.out 2
      have x3 := blk_cell BK.out 3
      have x4 := blk_cell BK.out 4
      have x5 := blk_cell BK.out 5
      have x6 := blk_cell BK.out 6
      clear hbad
      by_cases e1 : i0 = 1
      · subst e1
        rw [if_pos rfl] at hf
        have hc := fun w => impl_ValueOK.calls v0 v1 v2 r w hf
        clear hf
        go_wp2_with (go_at_call 92; (with_reducible refine (hc _).mono ?_); rintro e w' ⟨rfl, hb⟩)
        go_ret
        exact ⟨rfl, HB.out.trans (hb.mono HB.out.size)⟩
      rw [if_neg e1] at hf
      have d1 : (i0 == 1) = false := beq_eq_false_iff_ne.mpr e1
      by_cases e23 : i0 = 2 ∨ i0 = 3
      · rw [if_pos e23] at hf
        obtain rfl := Option.some.inj hf
        clear hf
        have hsl : IntKind.i64.wrap (slots - 1) = slots - 1 := by rw [IntKind.wrap_i64]; omega
        have hc := fun w => impl_Program_insOK.in_calls i1 0 (slots - 1) w
        have hfin : ∀ w', Below wc.drew.heap.size wc.drew w' → Below w.heap.size w w' := fun w' hb => (below_drew HB.out).trans (hb.mono (below_drew HB.out).size)
        rcases e23 with rfl | rfl
        · go_upto_region 6 with fail
          go_region_with (go_at_call 62; (with_reducible refine (hc _).mono ?_); rintro e w' ⟨rfl, hb⟩)
          all_goals go_wp2_with fail
          all_goals go_ret
          all_goals exact ⟨rfl, hfin _ hb⟩
        · go_upto_region 6 with fail
          go_region_with (go_at_call 62; (with_reducible refine (hc _).mono ?_); rintro e w' ⟨rfl, hb⟩)
          all_goals go_wp2_with fail
          all_goals go_ret
          all_goals exact ⟨rfl, hfin _ hb⟩
      rw [if_neg e23] at hf
      have e2 : ¬ i0 = 2 := fun h => e23 (.inl h)
      have e3 : ¬ i0 = 3 := fun h => e23 (.inr h)
      clear e23
      by_cases e4 : i0 = 4
      · subst e4
        rw [if_pos rfl] at hf
        have hc := fun w => impl_isUnary.calls i3 r w hf
        clear hf
        go_wp2_with (go_at_call 93; (with_reducible refine (hc _).mono ?_); rintro e w' ⟨rfl, hb⟩)
        go_ret
        exact ⟨rfl, HB.out.trans (hb.below.mono HB.out.size)⟩
      rw [if_neg e4] at hf
      by_cases e5 : i0 = 5
      · subst e5
        rw [if_pos rfl] at hf
        have hc := fun w => impl_isBinary.calls 64 i3 r w hf
        clear hf
        go_wp2_with (go_at_call 94; (with_reducible refine (hc _).mono ?_); rintro e w' ⟨rfl, hb⟩)
        go_ret
        exact ⟨rfl, HB.out.trans (hb.mono HB.out.size)⟩
      rw [if_neg e5] at hf
      have hfin : ∀ w', Below wc.drew.heap.size wc.drew w' → Below w.heap.size w w' := fun w' hb => (below_drew HB.out).trans (hb.mono (below_drew HB.out).size)
      by_cases e10 : i0 = 10
      · subst e10
        rw [if_pos rfl] at hf
        obtain rfl := Option.some.inj hf
        clear hf
        have hsl : IntKind.i64.wrap ((ps.length : Int) - 1) = (ps.length : Int) - 1 := by rw [IntKind.wrap_i64]; omega
        have hc := impl_Program_insOK.within i1 1 ((ps.length : Int) - 1) wc.drew
        go_upto_region 12 with fail
        by_cases hr : 1 ≤ i1 ∧ i1 ≤ (ps.length : Int) - 1
        · have HR := Aside0.mk hr
          rw [decide_eq_true hr.1, decide_eq_true hr.2] at hc
          have hc' : Calls Try.prog 62 #[.int .i64 i1, .int .i64 1, .int .i64 (IntKind.i64.wrap ((ps.length : Int) - 1))] wc.drew fun e w' => e = .returned (.bool true) ∧ w' = wc.drew := by rw [hsl]; exact hc
          have j0 : 0 ≤ i1 := by omega
          have j1 : i1 < (ps.length : Int) := by omega
          obtain ⟨ad, A3', c3', rfl, z0, z1, z2, z3, _, _⟩ := at_T57 (Kd.C_below HPS.out HB.out) i1 j0 j1
          have j2 : i1.toNat < c := by omega
          clear hr hc hsl z0 z2 z3
          have j0' := eq_true j0
          have j1' := eq_true j1
          refine wp_region_still_lit impl_Program_insOK.mixed (by kernel_rfl) ?_
          repeat with_reducible still_step
          still_call hc'
          repeat with_reducible still_step
          (with_reducible refine wpStill_nil ?_)
          go_wp2_with fail
          go_ret
          refine ⟨?_, below_drew HB.out⟩
          rw [decide_eq_true HR.out.1, decide_eq_true HR.out.2]
          rfl
        · have hr' : (decide (1 ≤ i1) && decide (i1 ≤ (ps.length : Int) - 1)) = false := by rw [← Bool.decide_and]; exact decide_eq_false hr
          have HR := Aside0.mk hr'
          rw [hr'] at hc
          have hc' : Calls Try.prog 62 #[.int .i64 i1, .int .i64 1, .int .i64 (IntKind.i64.wrap ((ps.length : Int) - 1))] wc.drew fun e w' => e = .returned (.bool false) ∧ w' = wc.drew := by rw [hsl]; exact hc
          clear hr hr' hc hsl
          refine wp_region_still_lit impl_Program_insOK.mixed (by kernel_rfl) ?_
          repeat with_reducible still_step
          still_call hc'
          repeat with_reducible still_step
          (with_reducible refine wpStill_nil ?_)
          go_wp2_with fail
          go_ret
          refine ⟨?_, below_drew HB.out⟩
          rw [HR.out]
          rfl
      rw [if_neg e10] at hf
      by_cases e11 : i0 = 11
      · subst e11
        rw [if_pos rfl] at hf
        obtain ⟨⟨ks, okk⟩, hk, hf⟩ := Option.bind_eq_some_iff.1 hf
        obtain rfl := Option.some.inj hf
        have hc := fun w => impl_builtinKinds.calls 64 i3 ks okk w hk
        have hbx : ∀ w', Below wc.heap.size wc w' → w'.heap[g]? = some (.cells #[.int .i64 11, .int .i64 i1, .int .i64 i2, .string i3, .int .i64 v0, .int .i64 v1, .string v2] 61 (0, 0)) := fun w' hb => blk_below BK.out hb
        clear hf hk
        cases okk with
        | true =>
          go_wp2_with (go_at_call 95; (with_reducible refine (hc _).mono ?_); rintro e w' ⟨v, rfl, hr, hb⟩; have q1 := blk_cell (hbx _ hb) 1; obtain ⟨A', c', rfl⟩ := Kd.R_slice hr; have HB7 := Aside0.mk hb; clear hb hr)
          go_ret
          exact ⟨rfl, HB.out.trans (HB7.out.mono HB.out.size)⟩
        | false =>
          go_wp2_with (go_at_call 95; (with_reducible refine (hc _).mono ?_); rintro e w' ⟨v, rfl, hr, hb⟩; have HB7 := Aside0.mk hb; clear hb hr)
          go_ret
          exact ⟨rfl, HB.out.trans (HB7.out.mono HB.out.size)⟩
      rw [if_neg e11] at hf
      obtain ⟨ld, hl, hf⟩ := Option.bind_eq_some_iff.1 hf
      have hlc := fun w => impl_leads.calls 64 i0 ld w hl
      have hbx : ∀ w', Below wc.heap.size wc w' → w'.heap[g]? = some (.cells #[.int .i64 i0, .int .i64 i1, .int .i64 i2, .string i3, .int .i64 v0, .int .i64 v1, .string v2] 61 (0, 0)) := fun w' hb => blk_below BK.out hb
      have h3' : ∀ w', Below wc.heap.size wc w' → w'.cell? ⟨fb, fo + 3, none⟩ = some (.slice A3 n c3) := fun w' hb => pw_cell_below hb h3
      clear hl
      have d2 : (i0 == 2) = false := beq_eq_false_iff_ne.mpr e2
      have d3 : (i0 == 3) = false := beq_eq_false_iff_ne.mpr e3
      have d4 : (i0 == 4) = false := beq_eq_false_iff_ne.mpr e4
      have d5 : (i0 == 5) = false := beq_eq_false_iff_ne.mpr e5
      have d10 : (i0 == 10) = false := beq_eq_false_iff_ne.mpr e10
      have d11 : (i0 == 11) = false := beq_eq_false_iff_ne.mpr e11
      cases ld with
      | false =>
        rw [if_neg (by decide)] at hf
        obtain rfl := Option.some.inj hf
        clear hf
        go_wp2_with (go_at_call 43; (with_reducible refine (hlc _).mono ?_); rintro e w' ⟨rfl, hb⟩; have HB7 := Aside0.mk hb; clear hb)
        go_ret
        exact ⟨rfl, HB.out.trans (HB7.out.mono HB.out.size)⟩
      | true =>
        rw [if_pos rfl] at hf
        obtain rfl := Option.some.inj hf
        clear hf
        have hsl : IntKind.i64.wrap ((n : Int) - 1) = (n : Int) - 1 := by rw [IntKind.wrap_i64]; omega
        have hc := fun w => impl_Program_insOK.in_calls i1 0 ((n : Int) - 1) w
        go_upto_region 17 with (go_at_call 43; (with_reducible refine (hlc _).mono ?_); rintro e w7 ⟨rfl, hb⟩; have q1 := blk_cell (hbx _ hb) 1; have q3 := h3' _ hb; have HB7 := Aside0.mk (HB.out.trans (hb.mono HB.out.size)); clear hb x0 x1 x2 x3 x4 x5 x6 h3)
        go_region_with (go_at_call 62; (with_reducible refine (hc _).mono ?_); rintro e w' ⟨rfl, hb⟩)
        all_goals go_wp2_with fail
        all_goals go_ret
        all_goals exact ⟨rfl, (below_drew HB7.out).trans (hb.mono (below_drew HB7.out).size)⟩

/-! ### impl_Program_flows_1: function 65 -/
set_option maxHeartbeats 2000000 in
set_option maxRecDepth 100000 in
theorem impl_Program_flows_1.go (ps : List S57) (A : Option Addr) (c : Nat) (bp bf gp fb fo : Nat) (fs : Option Nat) (slots : Int) (A3 : Option Addr) (n c3 : Nat) (i : S61) (r : Bool) (w : World)
    (hbp : w.cell? ⟨bp, 0, none⟩ = some (.pointer (some ⟨gp, 0, none⟩))) (hbf : w.cell? ⟨bf, 0, none⟩ = some (.pointer (some ⟨fb, fo, fs⟩)))
    (hp : w.cell? ⟨gp, 0, none⟩ = some (.slice A ps.length c)) (hps : Kd.C k57 w A ps.length ps) (hpc : ps.length ≤ c) (h2 : w.cell? ⟨fb, fo + 2, none⟩ = some (.int .i64 slots)) (h3 : w.cell? ⟨fb, fo + 3, none⟩ = some (.slice A3 n c3))
    (hl1 : ps.length ≤ 9) (hn : n ≤ 400) (hs0 : 0 ≤ slots) (hs1 : slots ≤ 20) (h : impl_Program_insOK.f ps slots n i = some r) :
    Calls Try.prog 65 #[.agg #[.int .i64 i.f0, .int .i64 i.f1, .int .i64 i.f2, .string i.f3, .int .i64 i.f4.f0, .int .i64 i.f4.f1, .string i.f4.f2], .pointer (some ⟨bp, 0, none⟩), .pointer (some ⟨bf, 0, none⟩)] w fun e w' => e = .returned (.bool (!r)) ∧ Below w.heap.size w w' := by
  have huI := Try.underlying61
  have huV := Try.underlying45
  have hal := below_alloc (Below.refl w.heap.size w) (.cells #[.int .i64 i.f0, .int .i64 i.f1, .int .i64 i.f2, .string i.f3, .int .i64 i.f4.f0, .int .i64 i.f4.f1, .string i.f4.f2] 61 (0, 0))
  have hcall := impl_Program_insOK.go ps A c gp fb fo fs slots A3 n c3 i r (w.alloc (.cells #[.int .i64 i.f0, .int .i64 i.f1, .int .i64 i.f2, .string i.f3, .int .i64 i.f4.f0, .int .i64 i.f4.f1, .string i.f4.f2] 61 (0, 0))) (pw_cell_below hal hp) (Kd.C_below hps hal) hpc (pw_cell_below hal h2) (pw_cell_below hal h3) hl1 hn hs0 hs1 h
  have hbp' := pw_cell_below hal hbp
  have hbf' := pw_cell_below hal hbf
  have HB := Lib.hid hal
  clear hp hps h2 h3 hal h
  go_enter Try.func65, Try.ntmps65
  go_wp2_with (go_at_fn 66)
  refine hcall.mono ?_
  rintro e w' ⟨rfl, hd⟩
  have HD := Lib.hid hd
  clear hd hcall
  go_wp2_with fail
  go_ret
  exact ⟨rfl, HB.out.trans (HD.out.mono HB.out.size)⟩

/-! ### impl_Ins_needs: function 69 -/
mutual
def impl_Ins_needs.j0 : Nat → Int → Bool → Int → Int → Int → ByteArray → Int → Int → ByteArray → Option (Int × Int)
  | 0, _, _, _, _, _, _, _, _, _ => none
  | k + 1, x5, x6, x220000, x220001, x220002, x220003, x220004, x220005, x220006 => if x6 = true then (some (0, 1)) else (if x5 = 3 then (impl_Ins_needs.j1 k x5 (x5 == 3) x220000 x220001 x220002 x220003 x220004 x220005 x220006) else (if x5 = 7 then (impl_Ins_needs.j1 k x5 (x5 == 7) x220000 x220001 x220002 x220003 x220004 x220005 x220006) else (if x5 = 8 then (impl_Ins_needs.j1 k x5 (x5 == 8) x220000 x220001 x220002 x220003 x220004 x220005 x220006) else (if x5 = 9 then (impl_Ins_needs.j1 k x5 (x5 == 9) x220000 x220001 x220002 x220003 x220004 x220005 x220006) else (if x5 = 12 then (impl_Ins_needs.j1 k x5 (x5 == 12) x220000 x220001 x220002 x220003 x220004 x220005 x220006) else (if x5 = 13 then (impl_Ins_needs.j1 k x5 (x5 == 13) x220000 x220001 x220002 x220003 x220004 x220005 x220006) else (impl_Ins_needs.j1 k x5 (x5 == 16) x220000 x220001 x220002 x220003 x220004 x220005 x220006)))))))
def impl_Ins_needs.j1 : Nat → Int → Bool → Int → Int → Int → ByteArray → Int → Int → ByteArray → Option (Int × Int)
  | 0, _, _, _, _, _, _, _, _, _ => none
  | k + 1, x5, x9, x220000, x220001, x220002, x220003, x220004, x220005, x220006 => if x9 = true then (some (1, 0)) else (if x5 = 4 then (some (1, 1)) else (if x5 = 5 then (some (2, 1)) else (if x5 = 10 then (some (x220002, 1)) else (if x5 = 11 then (some (x220001, 1)) else (some (0, 0))))))
end
def impl_Ins_needs.f (k : Nat) (a0_0 : Int) (a0_1 : Int) (a0_2 : Int) (a0_3 : ByteArray) (a0_4 : Int) (a0_5 : Int) (a0_6 : ByteArray) : Option (Int × Int) := if a0_0 = 1 then (impl_Ins_needs.j0 k a0_0 (a0_0 == 1) a0_0 a0_1 a0_2 a0_3 a0_4 a0_5 a0_6) else (impl_Ins_needs.j0 k a0_0 (a0_0 == 2) a0_0 a0_1 a0_2 a0_3 a0_4 a0_5 a0_6)
theorem impl_Ins_needs.mono_l : ∀ k, (∀ y0 y1 y2 y3 y4 y5 y6 y7 y8, LeO (impl_Ins_needs.j0 k y0 y1 y2 y3 y4 y5 y6 y7 y8) (impl_Ins_needs.j0 (k + 1) y0 y1 y2 y3 y4 y5 y6 y7 y8)) ∧ (∀ y0 y1 y2 y3 y4 y5 y6 y7 y8, LeO (impl_Ins_needs.j1 k y0 y1 y2 y3 y4 y5 y6 y7 y8) (impl_Ins_needs.j1 (k + 1) y0 y1 y2 y3 y4 y5 y6 y7 y8))
  | 0 => ⟨fun _ _ _ _ _ _ _ _ _ r h => by simp [impl_Ins_needs.j0] at h, fun _ _ _ _ _ _ _ _ _ r h => by simp [impl_Ins_needs.j1] at h⟩
  | k + 1 => by
    obtain ⟨ih0, ih1⟩ := impl_Ins_needs.mono_l k
    refine ⟨?_, ?_⟩
    · intro y0 y1 y2 y3 y4 y5 y6 y7 y8
      unfold impl_Ins_needs.j0
      repeat' first
      | (with_reducible exact ih0 _ _ _ _ _ _ _ _ _)
      | (with_reducible exact ih1 _ _ _ _ _ _ _ _ _)
      | (with_reducible exact LeO.refl _)
      | (with_reducible exact LeO.none _)
      | (with_reducible refine LeO.ite ?_ ?_)
      | (with_reducible refine LeO.bind ?_ (fun _ => ?_))
      | exact ih0 _ _ _ _ _ _ _ _ _
      | exact ih1 _ _ _ _ _ _ _ _ _
      | exact LeO.none _
      | refine LeO.ite ?_ ?_
      | refine LeO.bind ?_ (fun _ => ?_)
    · intro y0 y1 y2 y3 y4 y5 y6 y7 y8
      unfold impl_Ins_needs.j1
      repeat' first
      | (with_reducible exact ih0 _ _ _ _ _ _ _ _ _)
      | (with_reducible exact ih1 _ _ _ _ _ _ _ _ _)
      | (with_reducible exact LeO.refl _)
      | (with_reducible exact LeO.none _)
      | (with_reducible refine LeO.ite ?_ ?_)
      | (with_reducible refine LeO.bind ?_ (fun _ => ?_))
      | exact ih0 _ _ _ _ _ _ _ _ _
      | exact ih1 _ _ _ _ _ _ _ _ _
      | exact LeO.none _
      | refine LeO.ite ?_ ?_
      | refine LeO.bind ?_ (fun _ => ?_)
theorem impl_Ins_needs.mono : ∀ a0 a1 a2 a3 a4 a5 a6 k, LeO (impl_Ins_needs.f k a0 a1 a2 a3 a4 a5 a6) (impl_Ins_needs.f (k + 1) a0 a1 a2 a3 a4 a5 a6) := by
  intro a0 a1 a2 a3 a4 a5 a6 k
  obtain ⟨ih0, ih1⟩ := impl_Ins_needs.mono_l k
  unfold impl_Ins_needs.f
  repeat' first
      | (with_reducible exact ih0 _ _ _ _ _ _ _ _ _)
      | (with_reducible exact ih1 _ _ _ _ _ _ _ _ _)
      | (with_reducible exact LeO.refl _)
      | (with_reducible exact LeO.none _)
      | (with_reducible refine LeO.ite ?_ ?_)
      | (with_reducible refine LeO.bind ?_ (fun _ => ?_))
      | exact ih0 _ _ _ _ _ _ _ _ _
      | exact ih1 _ _ _ _ _ _ _ _ _
      | exact LeO.none _
      | refine LeO.ite ?_ ?_
      | refine LeO.bind ?_ (fun _ => ?_)
set_option maxHeartbeats 8000000 in
set_option maxRecDepth 100000 in
theorem impl_Ins_needs.calls (k : Nat) (a0_0 : Int) (a0_1 : Int) (a0_2 : Int) (a0_3 : ByteArray) (a0_4 : Int) (a0_5 : Int) (a0_6 : ByteArray) (r1 : Int) (r2 : Int) (w : World) (h : impl_Ins_needs.f k a0_0 a0_1 a0_2 a0_3 a0_4 a0_5 a0_6 = some (r1, r2)) :
    Calls Try.prog 69 #[.agg #[.int .i64 a0_0, .int .i64 a0_1, .int .i64 a0_2, .string a0_3, .int .i64 a0_4, .int .i64 a0_5, .string a0_6]] w fun e w' => e = .returned (.tuple #[.int .i64 r1, .int .i64 r2]) ∧ Below w.heap.size w w' := by
  have hu61 := Try.underlying61
  have HB := Aside0.mk (Below.refl w.heap.size w)
  have H : (if a0_0 = 1 then (impl_Ins_needs.j0 k a0_0 (a0_0 == 1) a0_0 a0_1 a0_2 a0_3 a0_4 a0_5 a0_6) else (impl_Ins_needs.j0 k a0_0 (a0_0 == 2) a0_0 a0_1 a0_2 a0_3 a0_4 a0_5 a0_6)) = some (r1, r2) := h
  clear h
  have HC2 := Aside0.mk H
  clear H
  go_enter Try.func69, Try.ntmps69
  go_upto_if 6 with (first | ((with_reducible refine gate_dst (N := 1) rfl ?_); refine box_event ?hg (N := 1) ?hd (cs := #[.int .i64 a0_0, .int .i64 a0_1, .int .i64 a0_2, .string a0_3, .int .i64 a0_4, .int .i64 a0_5, .string a0_6]) (t := 61) ?hr ?_; (case hd => rfl); (case hg => rfl); (case hr => first | (go_simp; done) | (go_simp; rfl)); intro gb219 hg w3 hbox hb; have n0_ := Aside0.mk (below_step (by repeat (first | (with_reducible first | exact HB.out | apply below_alloc | apply pw_below_drewN | apply below_drew1) | exact HB.out)) hb); have n1_ := Aside0.mk (hbox); have n2_ := Aside0.mk ((by rw [hg]; exact (below_size (by repeat (first | (with_reducible first | exact HB.out | apply below_alloc | apply pw_below_drewN | apply below_drew1) | exact HB.out))) : w.heap.size ≤ gb219)); have n3_ := Aside0.mk ((by rw [hg]; exact (below_size (by repeat (first | (with_reducible first | exact HB.out | apply below_alloc | apply pw_below_drewN | apply below_drew1) | exact HB.out))) : w.heap.size ≤ gb219)); clear HB; have HB := n0_; have BK219 := n1_; have GW219 := n2_; have GE219 := n3_; clear n0_ n1_ n2_ n3_; clear hb hbox hg; have hcz4_0 : w3.cell? ⟨gb219, 0, none⟩ = some (.int .i64 a0_0) := (blk_cell BK219.out 0).trans rfl; have hcz4_1 : w3.cell? ⟨gb219, 1, none⟩ = some (.int .i64 a0_1) := (blk_cell BK219.out 1).trans rfl; have hcz4_2 : w3.cell? ⟨gb219, 2, none⟩ = some (.int .i64 a0_2) := (blk_cell BK219.out 2).trans rfl; have hcz4_3 : w3.cell? ⟨gb219, 3, none⟩ = some (.string a0_3) := (blk_cell BK219.out 3).trans rfl; have hcz4_4 : w3.cell? ⟨gb219, 4, none⟩ = some (.int .i64 a0_4) := (blk_cell BK219.out 4).trans rfl; have hcz4_5 : w3.cell? ⟨gb219, 5, none⟩ = some (.int .i64 a0_5) := (blk_cell BK219.out 5).trans rfl; have hcz4_6 : w3.cell? ⟨gb219, 6, none⟩ = some (.string a0_6) := (blk_cell BK219.out 6).trans rfl; have hfz4_0 := blk_frozen BK219.out 0; have hfz4_1 := blk_frozen BK219.out 1; have hfz4_2 := blk_frozen BK219.out 2; have hfz4_3 := blk_frozen BK219.out 3; have hfz4_4 := blk_frozen BK219.out 4; have hfz4_5 := blk_frozen BK219.out 5; have hfz4_6 := blk_frozen BK219.out 6))
  (try simp only [Act.put, List.setIfInBounds_toArray, List.set_cons_zero, List.set_cons_succ])
  go_cut [6] (fun v6 wc => ∃ (kq : Nat) (x6_1 : Bool), v6 = .bool x6_1 ∧ Aside0 (impl_Ins_needs.j0 kq a0_0 x6_1 a0_0 a0_1 a0_2 a0_3 a0_4 a0_5 a0_6 = some (r1, r2)) ∧ Aside0 (kq ≤ k) ∧ Aside0 (wc.heap[gb219]? = some (.cells #[.int .i64 a0_0, .int .i64 a0_1, .int .i64 a0_2, .string a0_3, .int .i64 a0_4, .int .i64 a0_5, .string a0_6] 61 (0, 0))) ∧ Aside0 (Below w.heap.size w wc))
  case first =>
    have H := HC2.out
    clear HC2
    by_cases c5 : a0_0 = 1
    · rw [if_pos c5] at H
      have c5b0 : (a0_0 == 1) = true := beq_iff_eq.mpr c5
      have c5b1 : (a0_0 != 1) = false := bne_eq_false_iff_eq.mpr c5
      clear c5
      (first | rw [c5b0] | (simp only [i64_w, i32_w]; rw [c5b0]) | skip)
      have H' := Aside0.mk H
      clear H
      go_wp2
      go_meet
      case rel => exact ⟨_, ((a0_0 == 1)), (by first | rfl | (simp; done) | (simp [*]; done)), H', ⟨by first | omega | exact Nat.le_refl _⟩, ⟨by (with_reducible repeat (first | refine blk_drewN ?_ _ | refine blk_drew ?_ | refine blk_alloc ?_ _)); exact BK219.out⟩, ⟨by repeat (first | (with_reducible first | exact HB.out | apply below_alloc | apply pw_below_drewN | apply below_drew1 | refine below_set ?_ GE219.out) | exact HB.out)⟩⟩
    · rw [if_neg c5] at H
      have c5b0 : (a0_0 == 1) = false := beq_eq_false_iff_ne.mpr c5
      have c5b1 : (a0_0 != 1) = true := bne_iff_ne.mpr c5
      (first | rw [c5b0] | (simp only [i64_w, i32_w]; rw [c5b0]) | skip)
      have H' := Aside0.mk H
      clear H
      go_wp2
      go_meet
      case rel => exact ⟨_, ((a0_0 == 2)), (by first | rfl | (simp; done) | (simp [*]; done)), H', ⟨by first | omega | exact Nat.le_refl _⟩, ⟨by (with_reducible repeat (first | refine blk_drewN ?_ _ | refine blk_drew ?_ | refine blk_alloc ?_ _)); exact BK219.out⟩, ⟨by repeat (first | (with_reducible first | exact HB.out | apply below_alloc | apply pw_below_drewN | apply below_drew1 | refine below_set ?_ GE219.out) | exact HB.out)⟩⟩
  case rest =>
    clear HC2
    try clear p2
    try clear c5
    try clear c5b0
    try clear c5b1
    try clear hcz4_0
    try clear hcz4_1
    try clear hcz4_2
    try clear hcz4_3
    try clear hcz4_4
    try clear hcz4_5
    try clear hcz4_6
    try clear hfz4_0
    try clear hfz4_1
    try clear hfz4_2
    try clear hfz4_3
    try clear hfz4_4
    try clear hfz4_5
    try clear hfz4_6
    obtain ⟨kq, x6_1, rfl, HA, HJ1, BK219, HB⟩ := hcut
    cases kq with
    | zero => exact absurd HA.out (by simp [impl_Ins_needs.j0])
    | succ kj1 =>
      have H := HA.out
      clear HA
      simp only [impl_Ins_needs.j0] at H
      by_cases c6 : x6_1 = true
      · subst c6
        have H1 : (some (0, 1)) = some (r1, r2) := by rw [if_pos rfl] at H; exact H
        clear H
        have H := H1
        clear H1
        simp only [Option.some.injEq, Prod.mk.injEq] at H
        obtain ⟨rfl, rfl⟩ := H
        go_wp2
        go_ret2
        exact ⟨by first | rfl | exact My.ret_isEmpty _ | (simp [errW_none, errW_some] <;> rfl) | (simp [*, errW_none, errW_some] <;> rfl), by repeat (first | (with_reducible first | exact HB.out | apply below_alloc | apply pw_below_drewN | apply below_drew1 | refine below_set ?_ GE219.out) | exact HB.out)⟩
      · replace c6 := Bool.eq_false_iff.mpr c6
        subst c6
        have H1 : (if a0_0 = 3 then (impl_Ins_needs.j1 kj1 a0_0 (a0_0 == 3) a0_0 a0_1 a0_2 a0_3 a0_4 a0_5 a0_6) else (if a0_0 = 7 then (impl_Ins_needs.j1 kj1 a0_0 (a0_0 == 7) a0_0 a0_1 a0_2 a0_3 a0_4 a0_5 a0_6) else (if a0_0 = 8 then (impl_Ins_needs.j1 kj1 a0_0 (a0_0 == 8) a0_0 a0_1 a0_2 a0_3 a0_4 a0_5 a0_6) else (if a0_0 = 9 then (impl_Ins_needs.j1 kj1 a0_0 (a0_0 == 9) a0_0 a0_1 a0_2 a0_3 a0_4 a0_5 a0_6) else (if a0_0 = 12 then (impl_Ins_needs.j1 kj1 a0_0 (a0_0 == 12) a0_0 a0_1 a0_2 a0_3 a0_4 a0_5 a0_6) else (if a0_0 = 13 then (impl_Ins_needs.j1 kj1 a0_0 (a0_0 == 13) a0_0 a0_1 a0_2 a0_3 a0_4 a0_5 a0_6) else (impl_Ins_needs.j1 kj1 a0_0 (a0_0 == 16) a0_0 a0_1 a0_2 a0_3 a0_4 a0_5 a0_6))))))) = some (r1, r2) := by rw [if_neg (show ¬ (false = true) by decide)] at H; exact H
        clear H
        have H := H1
        clear H1
        have HC7 := Aside0.mk H
        clear H
        go_upto_if 9 with (fail)
        go_cut [9] (fun v9 wc => ∃ (kq : Nat) (x9_6 : Bool), v9 = .bool x9_6 ∧ Aside0 (impl_Ins_needs.j1 kq a0_0 x9_6 a0_0 a0_1 a0_2 a0_3 a0_4 a0_5 a0_6 = some (r1, r2)) ∧ Aside0 (kq ≤ kj1) ∧ Aside0 (wc.heap[gb219]? = some (.cells #[.int .i64 a0_0, .int .i64 a0_1, .int .i64 a0_2, .string a0_3, .int .i64 a0_4, .int .i64 a0_5, .string a0_6] 61 (0, 0))) ∧ Aside0 (Below w.heap.size w wc))
        case first =>
          have H := HC7.out
          clear HC7
          by_cases c8 : a0_0 = 3
          · rw [if_pos c8] at H
            have c8b0 : (a0_0 == 3) = true := beq_iff_eq.mpr c8
            have c8b1 : (a0_0 != 3) = false := bne_eq_false_iff_eq.mpr c8
            clear c8
            (first | rw [c8b0] | (simp only [i64_w, i32_w]; rw [c8b0]) | skip)
            have H' := Aside0.mk H
            clear H
            go_wp2
            go_meet
            case rel => exact ⟨_, ((a0_0 == 3)), (by first | rfl | (simp; done) | (simp [*]; done)), H', ⟨by have := HJ1.out; first | omega | exact Nat.le_refl _⟩, ⟨by (with_reducible repeat (first | refine blk_drewN ?_ _ | refine blk_drew ?_ | refine blk_alloc ?_ _)); exact BK219.out⟩, ⟨by repeat (first | (with_reducible first | exact HB.out | apply below_alloc | apply pw_below_drewN | apply below_drew1 | refine below_set ?_ GE219.out) | exact HB.out)⟩⟩
          · rw [if_neg c8] at H
            have c8b0 : (a0_0 == 3) = false := beq_eq_false_iff_ne.mpr c8
            have c8b1 : (a0_0 != 3) = true := bne_iff_ne.mpr c8
            (first | rw [c8b0] | (simp only [i64_w, i32_w]; rw [c8b0]) | skip)
            by_cases c9 : a0_0 = 7
            · rw [if_pos c9] at H
              have c9b0 : (a0_0 == 7) = true := beq_iff_eq.mpr c9
              have c9b1 : (a0_0 != 7) = false := bne_eq_false_iff_eq.mpr c9
              clear c9
              have H' := Aside0.mk H
              clear H
              go_wp2
              go_meet
              case rel => exact ⟨_, ((a0_0 == 7)), (by first | rfl | (simp; done) | (simp [*]; done)), H', ⟨by have := HJ1.out; first | omega | exact Nat.le_refl _⟩, ⟨by (with_reducible repeat (first | refine blk_drewN ?_ _ | refine blk_drew ?_ | refine blk_alloc ?_ _)); exact BK219.out⟩, ⟨by repeat (first | (with_reducible first | exact HB.out | apply below_alloc | apply pw_below_drewN | apply below_drew1 | refine below_set ?_ GE219.out) | exact HB.out)⟩⟩
            · rw [if_neg c9] at H
              have c9b0 : (a0_0 == 7) = false := beq_eq_false_iff_ne.mpr c9
              have c9b1 : (a0_0 != 7) = true := bne_iff_ne.mpr c9
              by_cases c10 : a0_0 = 8
              · rw [if_pos c10] at H
                have c10b0 : (a0_0 == 8) = true := beq_iff_eq.mpr c10
                have c10b1 : (a0_0 != 8) = false := bne_eq_false_iff_eq.mpr c10
                clear c10
                have H' := Aside0.mk H
                clear H
                go_wp2
                go_meet
                case rel => exact ⟨_, ((a0_0 == 8)), (by first | rfl | (simp; done) | (simp [*]; done)), H', ⟨by have := HJ1.out; first | omega | exact Nat.le_refl _⟩, ⟨by (with_reducible repeat (first | refine blk_drewN ?_ _ | refine blk_drew ?_ | refine blk_alloc ?_ _)); exact BK219.out⟩, ⟨by repeat (first | (with_reducible first | exact HB.out | apply below_alloc | apply pw_below_drewN | apply below_drew1 | refine below_set ?_ GE219.out) | exact HB.out)⟩⟩
              · rw [if_neg c10] at H
                have c10b0 : (a0_0 == 8) = false := beq_eq_false_iff_ne.mpr c10
                have c10b1 : (a0_0 != 8) = true := bne_iff_ne.mpr c10
                by_cases c11 : a0_0 = 9
                · rw [if_pos c11] at H
                  have c11b0 : (a0_0 == 9) = true := beq_iff_eq.mpr c11
                  have c11b1 : (a0_0 != 9) = false := bne_eq_false_iff_eq.mpr c11
                  clear c11
                  have H' := Aside0.mk H
                  clear H
                  go_wp2
                  go_meet
                  case rel => exact ⟨_, ((a0_0 == 9)), (by first | rfl | (simp; done) | (simp [*]; done)), H', ⟨by have := HJ1.out; first | omega | exact Nat.le_refl _⟩, ⟨by (with_reducible repeat (first | refine blk_drewN ?_ _ | refine blk_drew ?_ | refine blk_alloc ?_ _)); exact BK219.out⟩, ⟨by repeat (first | (with_reducible first | exact HB.out | apply below_alloc | apply pw_below_drewN | apply below_drew1 | refine below_set ?_ GE219.out) | exact HB.out)⟩⟩
                · rw [if_neg c11] at H
                  have c11b0 : (a0_0 == 9) = false := beq_eq_false_iff_ne.mpr c11
                  have c11b1 : (a0_0 != 9) = true := bne_iff_ne.mpr c11
                  by_cases c12 : a0_0 = 12
                  · rw [if_pos c12] at H
                    have c12b0 : (a0_0 == 12) = true := beq_iff_eq.mpr c12
                    have c12b1 : (a0_0 != 12) = false := bne_eq_false_iff_eq.mpr c12
                    clear c12
                    have H' := Aside0.mk H
                    clear H
                    go_wp2
                    go_meet
                    case rel => exact ⟨_, ((a0_0 == 12)), (by first | rfl | (simp; done) | (simp [*]; done)), H', ⟨by have := HJ1.out; first | omega | exact Nat.le_refl _⟩, ⟨by (with_reducible repeat (first | refine blk_drewN ?_ _ | refine blk_drew ?_ | refine blk_alloc ?_ _)); exact BK219.out⟩, ⟨by repeat (first | (with_reducible first | exact HB.out | apply below_alloc | apply pw_below_drewN | apply below_drew1 | refine below_set ?_ GE219.out) | exact HB.out)⟩⟩
                  · rw [if_neg c12] at H
                    have c12b0 : (a0_0 == 12) = false := beq_eq_false_iff_ne.mpr c12
                    have c12b1 : (a0_0 != 12) = true := bne_iff_ne.mpr c12
                    by_cases c13 : a0_0 = 13
                    · rw [if_pos c13] at H
                      have c13b0 : (a0_0 == 13) = true := beq_iff_eq.mpr c13
                      have c13b1 : (a0_0 != 13) = false := bne_eq_false_iff_eq.mpr c13
                      clear c13
                      have H' := Aside0.mk H
                      clear H
                      go_wp2
                      go_meet
                      case rel => exact ⟨_, ((a0_0 == 13)), (by first | rfl | (simp; done) | (simp [*]; done)), H', ⟨by have := HJ1.out; first | omega | exact Nat.le_refl _⟩, ⟨by (with_reducible repeat (first | refine blk_drewN ?_ _ | refine blk_drew ?_ | refine blk_alloc ?_ _)); exact BK219.out⟩, ⟨by repeat (first | (with_reducible first | exact HB.out | apply below_alloc | apply pw_below_drewN | apply below_drew1 | refine below_set ?_ GE219.out) | exact HB.out)⟩⟩
                    · rw [if_neg c13] at H
                      have c13b0 : (a0_0 == 13) = false := beq_eq_false_iff_ne.mpr c13
                      have c13b1 : (a0_0 != 13) = true := bne_iff_ne.mpr c13
                      have H' := Aside0.mk H
                      clear H
                      go_wp2
                      go_meet
                      case rel => exact ⟨_, ((a0_0 == 16)), (by first | rfl | (simp; done) | (simp [*]; done)), H', ⟨by have := HJ1.out; first | omega | exact Nat.le_refl _⟩, ⟨by (with_reducible repeat (first | refine blk_drewN ?_ _ | refine blk_drew ?_ | refine blk_alloc ?_ _)); exact BK219.out⟩, ⟨by repeat (first | (with_reducible first | exact HB.out | apply below_alloc | apply pw_below_drewN | apply below_drew1 | refine below_set ?_ GE219.out) | exact HB.out)⟩⟩
        case rest =>
          clear HC7
          try clear c1
          try clear p2
          try clear c5
          try clear c5b0
          try clear c5b1
          try clear c6
          try clear c8
          try clear c8b0
          try clear c8b1
          try clear c9
          try clear c9b0
          try clear c9b1
          try clear c10
          try clear c10b0
          try clear c10b1
          try clear c11
          try clear c11b0
          try clear c11b1
          try clear c12
          try clear c12b0
          try clear c12b1
          try clear c13
          try clear c13b0
          try clear c13b1
          try clear hcz4_0
          try clear hcz4_1
          try clear hcz4_2
          try clear hcz4_3
          try clear hcz4_4
          try clear hcz4_5
          try clear hcz4_6
          try clear hfz4_0
          try clear hfz4_1
          try clear hfz4_2
          try clear hfz4_3
          try clear hfz4_4
          try clear hfz4_5
          try clear hfz4_6
          try clear p2
          obtain ⟨kq, x9_6, rfl, HA, HJ6, BK219, HB⟩ := hcut
          cases kq with
          | zero => exact absurd HA.out (by simp [impl_Ins_needs.j1])
          | succ kj6 =>
            have H := HA.out
            clear HA
            simp only [impl_Ins_needs.j1] at H
            by_cases c14 : x9_6 = true
            · subst c14
              have H1 : (some (1, 0)) = some (r1, r2) := by rw [if_pos rfl] at H; exact H
              clear H
              have H := H1
              clear H1
              simp only [Option.some.injEq, Prod.mk.injEq] at H
              obtain ⟨rfl, rfl⟩ := H
              go_wp2
              go_ret2
              exact ⟨by first | rfl | exact My.ret_isEmpty _ | (simp [errW_none, errW_some] <;> rfl) | (simp [*, errW_none, errW_some] <;> rfl), by repeat (first | (with_reducible first | exact HB.out | apply below_alloc | apply pw_below_drewN | apply below_drew1 | refine below_set ?_ GE219.out) | exact HB.out)⟩
            · replace c14 := Bool.eq_false_iff.mpr c14
              subst c14
              have H1 : (if a0_0 = 4 then (some (1, 1)) else (if a0_0 = 5 then (some (2, 1)) else (if a0_0 = 10 then (some (a0_2, 1)) else (if a0_0 = 11 then (some (a0_1, 1)) else (some (0, 0)))))) = some (r1, r2) := by rw [if_neg (show ¬ (false = true) by decide)] at H; exact H
              clear H
              have H := H1
              clear H1
              by_cases c15 : a0_0 = 4
              · rw [if_pos c15] at H
                have c15b0 : (a0_0 == 4) = true := beq_iff_eq.mpr c15
                have c15b1 : (a0_0 != 4) = false := bne_eq_false_iff_eq.mpr c15
                clear c15
                simp only [Option.some.injEq, Prod.mk.injEq] at H
                obtain ⟨rfl, rfl⟩ := H
                go_wp2
                go_ret2
                exact ⟨by first | rfl | exact My.ret_isEmpty _ | (simp [errW_none, errW_some] <;> rfl) | (simp [*, errW_none, errW_some] <;> rfl), by repeat (first | (with_reducible first | exact HB.out | apply below_alloc | apply pw_below_drewN | apply below_drew1 | refine below_set ?_ GE219.out) | exact HB.out)⟩
              · rw [if_neg c15] at H
                have c15b0 : (a0_0 == 4) = false := beq_eq_false_iff_ne.mpr c15
                have c15b1 : (a0_0 != 4) = true := bne_iff_ne.mpr c15
                by_cases c16 : a0_0 = 5
                · rw [if_pos c16] at H
                  have c16b0 : (a0_0 == 5) = true := beq_iff_eq.mpr c16
                  have c16b1 : (a0_0 != 5) = false := bne_eq_false_iff_eq.mpr c16
                  clear c16
                  simp only [Option.some.injEq, Prod.mk.injEq] at H
                  obtain ⟨rfl, rfl⟩ := H
                  go_wp2
                  go_ret2
                  exact ⟨by first | rfl | exact My.ret_isEmpty _ | (simp [errW_none, errW_some] <;> rfl) | (simp [*, errW_none, errW_some] <;> rfl), by repeat (first | (with_reducible first | exact HB.out | apply below_alloc | apply pw_below_drewN | apply below_drew1 | refine below_set ?_ GE219.out) | exact HB.out)⟩
                · rw [if_neg c16] at H
                  have c16b0 : (a0_0 == 5) = false := beq_eq_false_iff_ne.mpr c16
                  have c16b1 : (a0_0 != 5) = true := bne_iff_ne.mpr c16
                  by_cases c17 : a0_0 = 10
                  · rw [if_pos c17] at H
                    have c17b0 : (a0_0 == 10) = true := beq_iff_eq.mpr c17
                    have c17b1 : (a0_0 != 10) = false := bne_eq_false_iff_eq.mpr c17
                    clear c17
                    simp only [Option.some.injEq, Prod.mk.injEq] at H
                    obtain ⟨rfl, rfl⟩ := H
                    have hcz18_0 : wc.cell? ⟨gb219, 0, none⟩ = some (.int .i64 a0_0) := (blk_cell BK219.out 0).trans rfl
                    have hcz18_1 : wc.cell? ⟨gb219, 1, none⟩ = some (.int .i64 a0_1) := (blk_cell BK219.out 1).trans rfl
                    have hcz18_2 : wc.cell? ⟨gb219, 2, none⟩ = some (.int .i64 a0_2) := (blk_cell BK219.out 2).trans rfl
                    have hcz18_3 : wc.cell? ⟨gb219, 3, none⟩ = some (.string a0_3) := (blk_cell BK219.out 3).trans rfl
                    have hcz18_4 : wc.cell? ⟨gb219, 4, none⟩ = some (.int .i64 a0_4) := (blk_cell BK219.out 4).trans rfl
                    have hcz18_5 : wc.cell? ⟨gb219, 5, none⟩ = some (.int .i64 a0_5) := (blk_cell BK219.out 5).trans rfl
                    have hcz18_6 : wc.cell? ⟨gb219, 6, none⟩ = some (.string a0_6) := (blk_cell BK219.out 6).trans rfl
                    have hfz18_0 := blk_frozen BK219.out 0
                    have hfz18_1 := blk_frozen BK219.out 1
                    have hfz18_2 := blk_frozen BK219.out 2
                    have hfz18_3 := blk_frozen BK219.out 3
                    have hfz18_4 := blk_frozen BK219.out 4
                    have hfz18_5 := blk_frozen BK219.out 5
                    have hfz18_6 := blk_frozen BK219.out 6
                    go_wp2
                    go_ret2
                    exact ⟨by first | rfl | exact My.ret_isEmpty _ | (simp [errW_none, errW_some] <;> rfl) | (simp [*, errW_none, errW_some] <;> rfl), by repeat (first | (with_reducible first | exact HB.out | apply below_alloc | apply pw_below_drewN | apply below_drew1 | refine below_set ?_ GE219.out) | exact HB.out)⟩
                  · rw [if_neg c17] at H
                    have c17b0 : (a0_0 == 10) = false := beq_eq_false_iff_ne.mpr c17
                    have c17b1 : (a0_0 != 10) = true := bne_iff_ne.mpr c17
                    by_cases c19 : a0_0 = 11
                    · rw [if_pos c19] at H
                      have c19b0 : (a0_0 == 11) = true := beq_iff_eq.mpr c19
                      have c19b1 : (a0_0 != 11) = false := bne_eq_false_iff_eq.mpr c19
                      clear c19
                      simp only [Option.some.injEq, Prod.mk.injEq] at H
                      obtain ⟨rfl, rfl⟩ := H
                      have hcz20_0 : wc.cell? ⟨gb219, 0, none⟩ = some (.int .i64 a0_0) := (blk_cell BK219.out 0).trans rfl
                      have hcz20_1 : wc.cell? ⟨gb219, 1, none⟩ = some (.int .i64 a0_1) := (blk_cell BK219.out 1).trans rfl
                      have hcz20_2 : wc.cell? ⟨gb219, 2, none⟩ = some (.int .i64 a0_2) := (blk_cell BK219.out 2).trans rfl
                      have hcz20_3 : wc.cell? ⟨gb219, 3, none⟩ = some (.string a0_3) := (blk_cell BK219.out 3).trans rfl
                      have hcz20_4 : wc.cell? ⟨gb219, 4, none⟩ = some (.int .i64 a0_4) := (blk_cell BK219.out 4).trans rfl
                      have hcz20_5 : wc.cell? ⟨gb219, 5, none⟩ = some (.int .i64 a0_5) := (blk_cell BK219.out 5).trans rfl
                      have hcz20_6 : wc.cell? ⟨gb219, 6, none⟩ = some (.string a0_6) := (blk_cell BK219.out 6).trans rfl
                      have hfz20_0 := blk_frozen BK219.out 0
                      have hfz20_1 := blk_frozen BK219.out 1
                      have hfz20_2 := blk_frozen BK219.out 2
                      have hfz20_3 := blk_frozen BK219.out 3
                      have hfz20_4 := blk_frozen BK219.out 4
                      have hfz20_5 := blk_frozen BK219.out 5
                      have hfz20_6 := blk_frozen BK219.out 6
                      go_wp2
                      go_ret2
                      exact ⟨by first | rfl | exact My.ret_isEmpty _ | (simp [errW_none, errW_some] <;> rfl) | (simp [*, errW_none, errW_some] <;> rfl), by repeat (first | (with_reducible first | exact HB.out | apply below_alloc | apply pw_below_drewN | apply below_drew1 | refine below_set ?_ GE219.out) | exact HB.out)⟩
                    · rw [if_neg c19] at H
                      have c19b0 : (a0_0 == 11) = false := beq_eq_false_iff_ne.mpr c19
                      have c19b1 : (a0_0 != 11) = true := bne_iff_ne.mpr c19
                      simp only [Option.some.injEq, Prod.mk.injEq] at H
                      obtain ⟨rfl, rfl⟩ := H
                      go_wp2
                      go_ret2
                      exact ⟨by first | rfl | exact My.ret_isEmpty _ | (simp [errW_none, errW_some] <;> rfl) | (simp [*, errW_none, errW_some] <;> rfl), by repeat (first | (with_reducible first | exact HB.out | apply below_alloc | apply pw_below_drewN | apply below_drew1 | refine below_set ?_ GE219.out) | exact HB.out)⟩

end Go.Proofs.Ytlhbcgmmgofcgaa.QFnExactProgramOK
