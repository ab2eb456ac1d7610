/- Functions that the law uses, as Lean functions with the same answers, and the walks that show it: by this session's program, after the form of the kit's print. No condition. -/
import Derived.Test.YthclofmcinknlaaDoorQFnDividex0
import Derived.Test.YthclofmcinknlaaDoorQFnDividex2
import Derived.Test.YthclofmcinknlaaDoorQFnDividex3
import Derived.Test.YthclofmcinknlaaDoorQFnDividex4
import Derived.Test.YthclofmcinknlaaDoorQFnDividex5
namespace Go.Proofs.YthclofmcinknlaaDoor.QFnDivide
open Go.RowKit Go.Proofs.YthclofmcinknlaaDoorW.PrintWords Go.Proofs.YthclofmcinknlaaDoorW.PrintLast Go.Proofs.YthclofmcinknlaaDoorW.PrintMore
attribute [local go_sem] max2_int min2_int max_two min_two max_three min_three max_four min_four   -- for this text's walks alone
open Go.Proofs.YthclofmcinknlaaDoor
attribute [local go_sem high] My.binOp_gtr_flip
set_option linter.unusedVariables false
set_option linter.unusedSimpArgs false

/-! ### impl_Builtin: function 19 -/
def impl_Builtin.j0 : Nat → ByteArray → List (S29) → List Int → Bool → Bool → Option (Int × Int × ByteArray × Int)
  | 0, _, _, _, _, _ => none
  | k + 1, x0, x1, x6, x7, x13 => if x13 = true then (some (0, 0, (⟨#[]⟩ : ByteArray), 2)) else ((impl_valuesOK.f x1).bind fun t240 => (if t240 = true then (if x7 = true then (if (x1.length : Int) = (x6.length : Int) then ((impl_builtin.f k x0 x1).bind fun bt241 => (some (bt241.1, bt241.2.1, bt241.2.2.1, bt241.2.2.2))) else (some (0, 0, (⟨#[]⟩ : ByteArray), 14))) else (some (0, 0, (⟨#[]⟩ : ByteArray), 5))) else (some (0, 0, (⟨#[]⟩ : ByteArray), 1))))
def impl_Builtin.f (k : Nat) (a0 : ByteArray) (l1 : List (S29)) : Option (Int × Int × ByteArray × Int) := (impl_builtinKinds.f k a0).bind fun bt236 => (if (a0.size : Int) > 65536 then (impl_Builtin.j0 k a0 l1 bt236.1 bt236.2 true) else (impl_Builtin.j0 k a0 l1 bt236.1 bt236.2 (decide ((l1.length : Int) > 4096))))
theorem impl_Builtin.mono_l : ∀ k, (∀ y0 y1 y2 y3 y4, LeO (impl_Builtin.j0 k y0 y1 y2 y3 y4) (impl_Builtin.j0 (k + 1) y0 y1 y2 y3 y4))
  | 0 => fun _ _ _ _ _ r h => by simp [impl_Builtin.j0] at h
  | k + 1 => by
    have ih0 := impl_Builtin.mono_l k
    · intro y0 y1 y2 y3 y4
      unfold impl_Builtin.j0
      repeat' first
      | (with_reducible exact ih0 _ _ _ _ _)
      | (with_reducible exact impl_builtin.mono _ _ _)
      | (with_reducible exact impl_builtinKinds.mono _ _)
      | (with_reducible exact LeO.refl _)
      | (with_reducible exact LeO.none _)
      | (with_reducible refine LeO.ite ?_ ?_)
      | (with_reducible refine LeO.bind ?_ (fun _ => ?_))
      | exact ih0 _ _ _ _ _
      | exact impl_builtin.mono _ _ _
      | exact impl_builtinKinds.mono _ _
      | exact LeO.none _
      | refine LeO.ite ?_ ?_
      | refine LeO.bind ?_ (fun _ => ?_)
theorem impl_Builtin.mono : ∀ a0 a1 k, LeO (impl_Builtin.f k a0 a1) (impl_Builtin.f (k + 1) a0 a1) := by
  intro a0 a1 k
  have ih0 := impl_Builtin.mono_l k
  unfold impl_Builtin.f
  repeat' first
      | (with_reducible exact ih0 _ _ _ _ _)
      | (with_reducible exact impl_builtin.mono _ _ _)
      | (with_reducible exact impl_builtinKinds.mono _ _)
      | (with_reducible exact LeO.refl _)
      | (with_reducible exact LeO.none _)
      | (with_reducible refine LeO.ite ?_ ?_)
      | (with_reducible refine LeO.bind ?_ (fun _ => ?_))
      | exact ih0 _ _ _ _ _
      | exact impl_builtin.mono _ _ _
      | exact impl_builtinKinds.mono _ _
      | exact LeO.none _
      | refine LeO.ite ?_ ?_
      | refine LeO.bind ?_ (fun _ => ?_)
set_option maxHeartbeats 8000000 in
set_option maxRecDepth 100000 in
theorem impl_Builtin.calls (k : Nat) (a0 : ByteArray) (A1 : Option Addr) (c1 : Nat) (l1 : List (S29)) (r1 : Int) (r2 : Int) (r3 : ByteArray) (r4 : Int) (w : World) (hr1 : Kd.C k29 w A1 l1.length l1) (hc1 : l1.length ≤ c1) (hG : Aside0 (My.Tab w)) (h : impl_Builtin.f k a0 l1 = some (r1, r2, r3, r4)) :
    Calls Tryd.prog 19 #[.string a0, .slice A1 l1.length c1] w fun e w' => e = .returned (.tuple #[.agg #[.int .i64 r1, .int .i64 r2, .string r3], .int .i64 r4]) ∧ Below w.heap.size w w' := by
  have hu29 := Tryd.underlying29
  have HR1 := Aside0.mk hr1
  have HC1 := Aside0.mk hc1
  clear hr1 hc1
  have HB := Aside0.mk (Below.refl w.heap.size w)
  have H : ((impl_builtinKinds.f k a0).bind fun bt236 => (if (a0.size : Int) > 65536 then (impl_Builtin.j0 k a0 l1 bt236.1 bt236.2 true) else (impl_Builtin.j0 k a0 l1 bt236.1 bt236.2 (decide ((l1.length : Int) > 4096))))) = some (r1, r2, r3, r4) := h
  clear h
  replace H := Option.bind_eq_some_iff.mp H
  obtain ⟨⟨t236, t237⟩, A30, H⟩ := H
  replace H : (if (a0.size : Int) > 65536 then (impl_Builtin.j0 k a0 l1 t236 t237 true) else (impl_Builtin.j0 k a0 l1 t236 t237 (decide ((l1.length : Int) > 4096)))) = some (r1, r2, r3, r4) := H
  have A3 := Aside0.mk A30
  clear A30
  have HC4 := Aside0.mk H
  clear H
  go_enter Tryd.func19, Tryd.ntmps19
  go_upto_region 2 with (first | ((with_reducible refine gate_dst (N := 4) rfl ?_); (try (refine gate_guard (by rfl) ?_; dsimp only)); refine box_event ?hg (N := 4) ?hd (cs := #[.int .i64 0, .int .i64 0, .string (⟨#[]⟩ : ByteArray)]) (t := 29) ?hr ?_; (case hd => rfl); (case hg => rfl); (case hr => first | (go_simp; done) | (go_simp; rfl)); intro gb235 hg w5 hbox hb; have n0_ := Aside0.mk (below_step (by repeat (first | (with_reducible first | exact HB.out | apply below_alloc | apply pw_below_drewN | apply below_drew1) | exact HB.out)) hb); have n1_ := Aside0.mk (hbox); have n2_ := Aside0.mk ((by rw [hg]; exact (below_size (by repeat (first | (with_reducible first | exact HB.out | apply below_alloc | apply pw_below_drewN | apply below_drew1) | exact HB.out))) : w.heap.size ≤ gb235)); have n3_ := Aside0.mk ((by rw [hg]; exact (below_size (by repeat (first | (with_reducible first | exact HB.out | apply below_alloc | apply pw_below_drewN | apply below_drew1) | exact HB.out))) : w.heap.size ≤ gb235)); clear HB; have HB := n0_; have BK235 := n1_; have GW235 := n2_; have GE235 := n3_; clear n0_ n1_ n2_ n3_; clear hb hbox hg) | ((with_reducible refine gate_callee (f := 50) rfl ?_); refine goesL_ (some 10) rfl rfl Tryd.func50 (by kernel_rfl) rfl #[.string a0] rfl (by (try simp only [List.map_toArray, List.map_cons, List.map_nil]); first | done | rfl | (simp only [List.length_drop, List.length_take]; rfl)) ?_; (with_reducible refine (impl_builtinKinds.calls k a0 t236 t237 _ A3.out).mono ?_); rintro e w6 ⟨v238, rfl, ho0, hb⟩; refine ⟨_, rfl, ?_⟩; have n0_ := Aside0.mk (Kd.R_lower ho0 (below_size (by repeat (first | (with_reducible first | exact HB.out | apply below_alloc | apply pw_below_drewN | apply below_drew1 | refine below_set ?_ GE235.out) | exact HB.out)))); have n1_ := Aside0.mk (blk_below (g := gb235) (o := .cells #[.int .i64 0, .int .i64 0, .string (⟨#[]⟩ : ByteArray)] 29 (0, 0)) (by (with_reducible repeat (first | refine blk_drewN ?_ _ | refine blk_drew ?_ | refine blk_alloc ?_ _)); exact BK235.out) hb); have n2_ := Aside0.mk (below_step (by repeat (first | (with_reducible first | exact HB.out | apply below_alloc | apply pw_below_drewN | apply below_drew1 | refine below_set ?_ GE235.out) | exact HB.out)) hb); clear BK235; clear HB; have HO239 := n0_; have BK235 := n1_; have HB := n2_; clear n0_ n1_ n2_; (try clear hb); (try clear hb2); (try clear hk); (try clear hi); (try clear ho0)))
  (try simp only [Act.put, List.setIfInBounds_toArray, List.set_cons_zero, List.set_cons_succ])
  go_cut [13] (fun v13 wc => ∃ (kq : Nat) (x13_3 : Bool), v13 = .bool x13_3 ∧ Aside0 (impl_Builtin.j0 kq a0 l1 t236 t237 x13_3 = some (r1, r2, r3, r4)) ∧ Aside0 (kq ≤ k) ∧ Aside0 (Kd.R (Kd.int .i64) 3 wc w.heap.size (fun _ => True) v238 t236) ∧ Aside0 (wc.heap[gb235]? = some (.cells #[.int .i64 0, .int .i64 0, .string (⟨#[]⟩ : ByteArray)] 29 (0, 0))) ∧ Aside0 (Below w.heap.size w wc))
  case first =>
    have H := HC4.out
    clear HC4
    by_cases c7 : (a0.size : Int) > 65536
    · rw [if_pos c7] at H
      have c7b0 : decide (65536 < (a0.size : Int)) = true := decide_eq_true c7
      have c7b1 : decide (65536 < a0.size) = true := decide_eq_true (by omega)
      clear c7
      (first | rw [c7b0] | (simp only [i64_w, i32_w]; rw [c7b0]) | skip)
      have H' := Aside0.mk H
      clear H
      go_wp2
      go_meet
      case rel => exact ⟨_, (true), (by first | rfl | (simp; done) | (simp [*]; done)), H', ⟨by first | omega | exact Nat.le_refl _⟩, ⟨by (with_reducible repeat (first | apply Kd.R_alloc | apply Kd.R_drewN | apply Kd.R_drew)); exact HO239.out⟩, ⟨by (with_reducible repeat (first | refine blk_drewN ?_ _ | refine blk_drew ?_ | refine blk_alloc ?_ _)); exact BK235.out⟩, ⟨by repeat (first | (with_reducible first | exact HB.out | apply below_alloc | apply pw_below_drewN | apply below_drew1 | refine below_set ?_ GE235.out) | exact HB.out)⟩⟩
    · rw [if_neg c7] at H
      have c7b0 : decide (65536 < (a0.size : Int)) = false := decide_eq_false c7
      have c7b1 : decide (65536 < a0.size) = false := decide_eq_false (by omega)
      clear c7
      (first | rw [c7b0] | (simp only [i64_w, i32_w]; rw [c7b0]) | skip)
      have H' := Aside0.mk H
      clear H
      go_wp2
      go_meet
      case rel => exact ⟨_, (decide ((l1.length : Int) > 4096)), (by first | rfl | (simp; done) | (simp [*]; done)), H', ⟨by first | omega | exact Nat.le_refl _⟩, ⟨by (with_reducible repeat (first | apply Kd.R_alloc | apply Kd.R_drewN | apply Kd.R_drew)); exact HO239.out⟩, ⟨by (with_reducible repeat (first | refine blk_drewN ?_ _ | refine blk_drew ?_ | refine blk_alloc ?_ _)); exact BK235.out⟩, ⟨by repeat (first | (with_reducible first | exact HB.out | apply below_alloc | apply pw_below_drewN | apply below_drew1 | refine below_set ?_ GE235.out) | exact HB.out)⟩⟩
  case rest =>
    clear HC4
    try clear c1
    try clear p2
    try clear c5
    try clear c7
    try clear c7b0
    try clear c7b1
    obtain ⟨kq, x13_3, rfl, HA, HJ3, HO_6, BK235, HB⟩ := hcut
    cases kq with
    | zero => exact absurd HA.out (by simp [impl_Builtin.j0])
    | succ kj3 =>
      have H := HA.out
      clear HA
      simp only [impl_Builtin.j0] at H
      by_cases c8 : x13_3 = true
      · subst c8
        have H1 : (some (0, 0, (⟨#[]⟩ : ByteArray), 2)) = some (r1, r2, r3, r4) := by rw [if_pos rfl] at H; exact H
        clear H
        have H := H1
        clear H1
        simp only [Option.some.injEq, Prod.mk.injEq] at H
        obtain ⟨rfl, rfl, rfl, rfl⟩ := H
        have hcz9_0 : wc.cell? ⟨gb235, 0, none⟩ = some (.int .i64 0) := (blk_cell BK235.out 0).trans rfl
        have hcz9_1 : wc.cell? ⟨gb235, 1, none⟩ = some (.int .i64 0) := (blk_cell BK235.out 1).trans rfl
        have hcz9_2 : wc.cell? ⟨gb235, 2, none⟩ = some (.string (⟨#[]⟩ : ByteArray)) := (blk_cell BK235.out 2).trans rfl
        have hfz9_0 := blk_frozen BK235.out 0
        have hfz9_1 := blk_frozen BK235.out 1
        have hfz9_2 := blk_frozen BK235.out 2
        go_wp2
        refine bodyPost_ret (results_ct rfl _ _ gb235 29 #[.int .i64 0, .int .i64 0, .string (⟨#[]⟩ : ByteArray)] (0, 0) _ rfl (by (with_reducible repeat (first | refine blk_drewN ?_ _ | refine blk_drew ?_ | refine blk_alloc ?_ _)); refine blk_put (cs := #[.int .i64 0, .int .i64 0, .string (⟨#[]⟩ : ByteArray)]) ?_ 2 _ rfl; (with_reducible repeat (first | refine blk_drewN ?_ _ | refine blk_drew ?_ | refine blk_alloc ?_ _)); refine blk_put (cs := #[.int .i64 0, .int .i64 0, .string (⟨#[]⟩ : ByteArray)]) ?_ 1 _ rfl; (with_reducible repeat (first | refine blk_drewN ?_ _ | refine blk_drew ?_ | refine blk_alloc ?_ _)); refine blk_put (cs := #[.int .i64 0, .int .i64 0, .string (⟨#[]⟩ : ByteArray)]) ?_ 0 _ rfl; (with_reducible repeat (first | refine blk_drewN ?_ _ | refine blk_drew ?_ | refine blk_alloc ?_ _)); exact BK235.out) Tryd.underlying29 rfl (by kernel_rfl)) rfl ?_
        exact ⟨by first | rfl | exact My.ret_isEmpty _ | (simp [errW_none, errW_some] <;> rfl) | (simp [*, errW_none, errW_some] <;> rfl), by repeat (first | (with_reducible first | exact HB.out | apply below_alloc | apply pw_below_drewN | apply below_drew1 | refine below_set ?_ GE235.out) | exact HB.out)⟩
      · replace c8 := Bool.eq_false_iff.mpr c8
        subst c8
        have H1 : ((impl_valuesOK.f l1).bind fun t240 => (if t240 = true then (if t237 = true then (if (l1.length : Int) = (t236.length : Int) then ((impl_builtin.f kj3 a0 l1).bind fun bt241 => (some (bt241.1, bt241.2.1, bt241.2.2.1, bt241.2.2.2))) else (some (0, 0, (⟨#[]⟩ : ByteArray), 14))) else (some (0, 0, (⟨#[]⟩ : ByteArray), 5))) else (some (0, 0, (⟨#[]⟩ : ByteArray), 1)))) = some (r1, r2, r3, r4) := by rw [if_neg (show ¬ (false = true) by decide)] at H; exact H
        clear H
        have H := H1
        clear H1
        replace H := Option.bind_eq_some_iff.mp H
        obtain ⟨t240, A100, H⟩ := H
        replace H : (if t240 = true then (if t237 = true then (if (l1.length : Int) = (t236.length : Int) then ((impl_builtin.f kj3 a0 l1).bind fun bt241 => (some (bt241.1, bt241.2.1, bt241.2.2.1, bt241.2.2.2))) else (some (0, 0, (⟨#[]⟩ : ByteArray), 14))) else (some (0, 0, (⟨#[]⟩ : ByteArray), 5))) else (some (0, 0, (⟨#[]⟩ : ByteArray), 1))) = some (r1, r2, r3, r4) := H
        have A10 := Aside0.mk A100
        clear A100
        by_cases c11 : t240 = true
        · subst c11
          have H1 : (if t237 = true then (if (l1.length : Int) = (t236.length : Int) then ((impl_builtin.f kj3 a0 l1).bind fun bt241 => (some (bt241.1, bt241.2.1, bt241.2.2.1, bt241.2.2.2))) else (some (0, 0, (⟨#[]⟩ : ByteArray), 14))) else (some (0, 0, (⟨#[]⟩ : ByteArray), 5))) = some (r1, r2, r3, r4) := by rw [if_pos rfl] at H; exact H
          clear H
          have H := H1
          clear H1
          by_cases c12 : t237 = true
          · subst c12
            have H1 : (if (l1.length : Int) = (t236.length : Int) then ((impl_builtin.f kj3 a0 l1).bind fun bt241 => (some (bt241.1, bt241.2.1, bt241.2.2.1, bt241.2.2.2))) else (some (0, 0, (⟨#[]⟩ : ByteArray), 14))) = some (r1, r2, r3, r4) := by rw [if_pos rfl] at H; exact H
            clear H
            have H := H1
            clear H1
            by_cases c13 : (l1.length : Int) = (t236.length : Int)
            · rw [if_pos c13] at H
              have c13b0 : ((l1.length : Int) == (t236.length : Int)) = true := beq_iff_eq.mpr c13
              have c13b1 : ((l1.length : Int) != (t236.length : Int)) = false := bne_eq_false_iff_eq.mpr c13
              have c13b2 : (l1.length == t236.length) = true := by first | simpa using c13 | (simp at c13 ⊢; omega)
              clear c13
              replace H := Option.bind_eq_some_iff.mp H
              obtain ⟨⟨t241, t242, t243, t244⟩, A140, H⟩ := H
              replace H : (some (t241, t242, t243, t244)) = some (r1, r2, r3, r4) := H
              have A14 := Aside0.mk A140
              clear A140
              simp only [Option.some.injEq, Prod.mk.injEq] at H
              obtain ⟨rfl, rfl, rfl, rfl⟩ := H
              go_wp2_with (first | ((with_reducible refine gate_callee (f := 51) rfl ?_); refine goesL_ (some 25) rfl rfl Tryd.func51 (by kernel_rfl) rfl #[.slice A1 l1.length c1] rfl (by (try simp only [List.map_toArray, List.map_cons, List.map_nil]); first | done | rfl | (simp only [List.length_drop, List.length_take]; rfl)) ?_; (with_reducible refine (impl_valuesOK.calls _ _ l1 true _ ?side1 ?side2 A10.out).mono ?_); (case side1 => repeat (first | exact (Kd.C_below HR1.out HB.out) | (with_reducible refine Kd.C_alloc ?_ _) | (with_reducible refine Kd.C_drewN ?_ _) | (with_reducible refine Kd.C_drew ?_))); (case side2 => exact HC1.out); rintro e w15 ⟨rfl, hb⟩; refine ⟨_, rfl, ?_⟩; have n0_ := Aside0.mk (Kd.R_below (by (with_reducible repeat (first | apply Kd.R_alloc | apply Kd.R_drewN | apply Kd.R_drew)); exact HO_6.out) hb); have n1_ := Aside0.mk (blk_below (g := gb235) (o := .cells #[.int .i64 0, .int .i64 0, .string (⟨#[]⟩ : ByteArray)] 29 (0, 0)) (by (with_reducible repeat (first | refine blk_drewN ?_ _ | refine blk_drew ?_ | refine blk_alloc ?_ _)); exact BK235.out) hb); have n2_ := Aside0.mk (below_step (by repeat (first | (with_reducible first | exact HB.out | apply below_alloc | apply pw_below_drewN | apply below_drew1 | refine below_set ?_ GE235.out) | exact HB.out)) hb); clear HO_6; clear BK235; clear HB; have HO_6 := n0_; have BK235 := n1_; have HB := n2_; clear n0_ n1_ n2_; (try clear hb); (try clear hb2); (try clear hk); (try clear hi); obtain ⟨Ao16, co16, eo16⟩ := Kd.R_slice HO_6.out; subst eo16) | ((with_reducible refine gate_callee (f := 52) rfl ?_); refine goesL_ (some 41) rfl rfl Tryd.func52 (by kernel_rfl) rfl #[.string a0, .slice A1 l1.length c1] rfl (by (try simp only [List.map_toArray, List.map_cons, List.map_nil]); first | done | rfl | (simp only [List.length_drop, List.length_take]; rfl)) ?_; (with_reducible refine (impl_builtin.calls kj3 a0 _ _ l1 t241 t242 t243 t244 _ ?side1 ?side2 ?side3 A14.out).mono ?_); (case side1 => repeat (first | exact (Kd.C_below HR1.out HB.out) | (with_reducible refine Kd.C_alloc ?_ _) | (with_reducible refine Kd.C_drewN ?_ _) | (with_reducible refine Kd.C_drew ?_))); (case side2 => exact HC1.out); (case side3 => exact My.tab_below hG (by repeat (first | (with_reducible first | exact HB.out | apply below_alloc | apply pw_below_drewN | apply below_drew1 | refine below_set ?_ GE235.out) | exact HB.out))); rintro e w17 ⟨rfl, hb⟩; refine ⟨_, rfl, ?_⟩; have n0_ := Aside0.mk (Kd.R_below (by (with_reducible repeat (first | apply Kd.R_alloc | apply Kd.R_drewN | apply Kd.R_drew)); exact HO_6.out) hb); have n1_ := Aside0.mk (blk_below (g := gb235) (o := .cells #[.int .i64 0, .int .i64 0, .string (⟨#[]⟩ : ByteArray)] 29 (0, 0)) (by (with_reducible repeat (first | refine blk_drewN ?_ _ | refine blk_drew ?_ | refine blk_alloc ?_ _)); exact BK235.out) hb); have n2_ := Aside0.mk (below_step (by repeat (first | (with_reducible first | exact HB.out | apply below_alloc | apply pw_below_drewN | apply below_drew1 | refine below_set ?_ GE235.out) | exact HB.out)) hb); clear HO_6; clear BK235; clear HB; have HO_6 := n0_; have BK235 := n1_; have HB := n2_; clear n0_ n1_ n2_; (try clear hb); (try clear hb2); (try clear hk); (try clear hi); have hcz18_0 : w17.cell? ⟨gb235, 0, none⟩ = some (.int .i64 0) := (blk_cell BK235.out 0).trans rfl; have hcz18_1 : w17.cell? ⟨gb235, 1, none⟩ = some (.int .i64 0) := (blk_cell BK235.out 1).trans rfl; have hcz18_2 : w17.cell? ⟨gb235, 2, none⟩ = some (.string (⟨#[]⟩ : ByteArray)) := (blk_cell BK235.out 2).trans rfl; have hfz18_0 := blk_frozen BK235.out 0; have hfz18_1 := blk_frozen BK235.out 1; have hfz18_2 := blk_frozen BK235.out 2))
              refine bodyPost_ret (results_ct rfl _ _ gb235 29 #[.int .i64 t241, .int .i64 t242, .string t243] (0, 0) _ rfl (by (with_reducible repeat (first | refine blk_drewN ?_ _ | refine blk_drew ?_ | refine blk_alloc ?_ _)); refine blk_put (cs := #[.int .i64 t241, .int .i64 t242, .string (⟨#[]⟩ : ByteArray)]) ?_ 2 _ rfl; (with_reducible repeat (first | refine blk_drewN ?_ _ | refine blk_drew ?_ | refine blk_alloc ?_ _)); refine blk_put (cs := #[.int .i64 t241, .int .i64 0, .string (⟨#[]⟩ : ByteArray)]) ?_ 1 _ rfl; (with_reducible repeat (first | refine blk_drewN ?_ _ | refine blk_drew ?_ | refine blk_alloc ?_ _)); refine blk_put (cs := #[.int .i64 0, .int .i64 0, .string (⟨#[]⟩ : ByteArray)]) ?_ 0 _ rfl; (with_reducible repeat (first | refine blk_drewN ?_ _ | refine blk_drew ?_ | refine blk_alloc ?_ _)); exact BK235.out) Tryd.underlying29 rfl (by kernel_rfl)) rfl ?_
              exact ⟨by first | rfl | exact My.ret_isEmpty _ | (simp [errW_none, errW_some] <;> rfl) | (simp [*, errW_none, errW_some] <;> rfl), by repeat (first | (with_reducible first | exact HB.out | apply below_alloc | apply pw_below_drewN | apply below_drew1 | refine below_set ?_ GE235.out) | exact HB.out)⟩
            · rw [if_neg c13] at H
              have c13b0 : ((l1.length : Int) == (t236.length : Int)) = false := beq_eq_false_iff_ne.mpr c13
              have c13b1 : ((l1.length : Int) != (t236.length : Int)) = true := bne_iff_ne.mpr c13
              have c13b2 : (l1.length == t236.length) = false := by first | simpa using c13 | (simp at c13 ⊢; omega)
              simp only [Option.some.injEq, Prod.mk.injEq] at H
              obtain ⟨rfl, rfl, rfl, rfl⟩ := H
              go_wp2_with (first | ((with_reducible refine gate_callee (f := 51) rfl ?_); refine goesL_ (some 25) rfl rfl Tryd.func51 (by kernel_rfl) rfl #[.slice A1 l1.length c1] rfl (by (try simp only [List.map_toArray, List.map_cons, List.map_nil]); first | done | rfl | (simp only [List.length_drop, List.length_take]; rfl)) ?_; (with_reducible refine (impl_valuesOK.calls _ _ l1 true _ ?side1 ?side2 A10.out).mono ?_); (case side1 => repeat (first | exact (Kd.C_below HR1.out HB.out) | (with_reducible refine Kd.C_alloc ?_ _) | (with_reducible refine Kd.C_drewN ?_ _) | (with_reducible refine Kd.C_drew ?_))); (case side2 => exact HC1.out); rintro e w19 ⟨rfl, hb⟩; refine ⟨_, rfl, ?_⟩; have n0_ := Aside0.mk (Kd.R_below (by (with_reducible repeat (first | apply Kd.R_alloc | apply Kd.R_drewN | apply Kd.R_drew)); exact HO_6.out) hb); have n1_ := Aside0.mk (blk_below (g := gb235) (o := .cells #[.int .i64 0, .int .i64 0, .string (⟨#[]⟩ : ByteArray)] 29 (0, 0)) (by (with_reducible repeat (first | refine blk_drewN ?_ _ | refine blk_drew ?_ | refine blk_alloc ?_ _)); exact BK235.out) hb); have n2_ := Aside0.mk (below_step (by repeat (first | (with_reducible first | exact HB.out | apply below_alloc | apply pw_below_drewN | apply below_drew1 | refine below_set ?_ GE235.out) | exact HB.out)) hb); clear HO_6; clear BK235; clear HB; have HO_6 := n0_; have BK235 := n1_; have HB := n2_; clear n0_ n1_ n2_; (try clear hb); (try clear hb2); (try clear hk); (try clear hi); obtain ⟨Ao20, co20, eo20⟩ := Kd.R_slice HO_6.out; subst eo20; have hcz21_0 : w19.cell? ⟨gb235, 0, none⟩ = some (.int .i64 0) := (blk_cell BK235.out 0).trans rfl; have hcz21_1 : w19.cell? ⟨gb235, 1, none⟩ = some (.int .i64 0) := (blk_cell BK235.out 1).trans rfl; have hcz21_2 : w19.cell? ⟨gb235, 2, none⟩ = some (.string (⟨#[]⟩ : ByteArray)) := (blk_cell BK235.out 2).trans rfl; have hfz21_0 := blk_frozen BK235.out 0; have hfz21_1 := blk_frozen BK235.out 1; have hfz21_2 := blk_frozen BK235.out 2))
              refine bodyPost_ret (results_ct rfl _ _ gb235 29 #[.int .i64 0, .int .i64 0, .string (⟨#[]⟩ : ByteArray)] (0, 0) _ rfl (by (with_reducible repeat (first | refine blk_drewN ?_ _ | refine blk_drew ?_ | refine blk_alloc ?_ _)); refine blk_put (cs := #[.int .i64 0, .int .i64 0, .string (⟨#[]⟩ : ByteArray)]) ?_ 2 _ rfl; (with_reducible repeat (first | refine blk_drewN ?_ _ | refine blk_drew ?_ | refine blk_alloc ?_ _)); refine blk_put (cs := #[.int .i64 0, .int .i64 0, .string (⟨#[]⟩ : ByteArray)]) ?_ 1 _ rfl; (with_reducible repeat (first | refine blk_drewN ?_ _ | refine blk_drew ?_ | refine blk_alloc ?_ _)); refine blk_put (cs := #[.int .i64 0, .int .i64 0, .string (⟨#[]⟩ : ByteArray)]) ?_ 0 _ rfl; (with_reducible repeat (first | refine blk_drewN ?_ _ | refine blk_drew ?_ | refine blk_alloc ?_ _)); exact BK235.out) Tryd.underlying29 rfl (by kernel_rfl)) rfl ?_
              exact ⟨by first | rfl | exact My.ret_isEmpty _ | (simp [errW_none, errW_some] <;> rfl) | (simp [*, errW_none, errW_some] <;> rfl), by repeat (first | (with_reducible first | exact HB.out | apply below_alloc | apply pw_below_drewN | apply below_drew1 | refine below_set ?_ GE235.out) | exact HB.out)⟩
          · replace c12 := Bool.eq_false_iff.mpr c12
            subst c12
            have H1 : (some (0, 0, (⟨#[]⟩ : ByteArray), 5)) = some (r1, r2, r3, r4) := by rw [if_neg (show ¬ (false = true) by decide)] at H; exact H
            clear H
            have H := H1
            clear H1
            simp only [Option.some.injEq, Prod.mk.injEq] at H
            obtain ⟨rfl, rfl, rfl, rfl⟩ := H
            go_wp2_with (first | ((with_reducible refine gate_callee (f := 51) rfl ?_); refine goesL_ (some 25) rfl rfl Tryd.func51 (by kernel_rfl) rfl #[.slice A1 l1.length c1] rfl (by (try simp only [List.map_toArray, List.map_cons, List.map_nil]); first | done | rfl | (simp only [List.length_drop, List.length_take]; rfl)) ?_; (with_reducible refine (impl_valuesOK.calls _ _ l1 true _ ?side1 ?side2 A10.out).mono ?_); (case side1 => repeat (first | exact (Kd.C_below HR1.out HB.out) | (with_reducible refine Kd.C_alloc ?_ _) | (with_reducible refine Kd.C_drewN ?_ _) | (with_reducible refine Kd.C_drew ?_))); (case side2 => exact HC1.out); rintro e w22 ⟨rfl, hb⟩; refine ⟨_, rfl, ?_⟩; have n0_ := Aside0.mk (Kd.R_below (by (with_reducible repeat (first | apply Kd.R_alloc | apply Kd.R_drewN | apply Kd.R_drew)); exact HO_6.out) hb); have n1_ := Aside0.mk (blk_below (g := gb235) (o := .cells #[.int .i64 0, .int .i64 0, .string (⟨#[]⟩ : ByteArray)] 29 (0, 0)) (by (with_reducible repeat (first | refine blk_drewN ?_ _ | refine blk_drew ?_ | refine blk_alloc ?_ _)); exact BK235.out) hb); have n2_ := Aside0.mk (below_step (by repeat (first | (with_reducible first | exact HB.out | apply below_alloc | apply pw_below_drewN | apply below_drew1 | refine below_set ?_ GE235.out) | exact HB.out)) hb); clear HO_6; clear BK235; clear HB; have HO_6 := n0_; have BK235 := n1_; have HB := n2_; clear n0_ n1_ n2_; (try clear hb); (try clear hb2); (try clear hk); (try clear hi); have hcz23_0 : w22.cell? ⟨gb235, 0, none⟩ = some (.int .i64 0) := (blk_cell BK235.out 0).trans rfl; have hcz23_1 : w22.cell? ⟨gb235, 1, none⟩ = some (.int .i64 0) := (blk_cell BK235.out 1).trans rfl; have hcz23_2 : w22.cell? ⟨gb235, 2, none⟩ = some (.string (⟨#[]⟩ : ByteArray)) := (blk_cell BK235.out 2).trans rfl; have hfz23_0 := blk_frozen BK235.out 0; have hfz23_1 := blk_frozen BK235.out 1; have hfz23_2 := blk_frozen BK235.out 2))
            refine bodyPost_ret (results_ct rfl _ _ gb235 29 #[.int .i64 0, .int .i64 0, .string (⟨#[]⟩ : ByteArray)] (0, 0) _ rfl (by (with_reducible repeat (first | refine blk_drewN ?_ _ | refine blk_drew ?_ | refine blk_alloc ?_ _)); refine blk_put (cs := #[.int .i64 0, .int .i64 0, .string (⟨#[]⟩ : ByteArray)]) ?_ 2 _ rfl; (with_reducible repeat (first | refine blk_drewN ?_ _ | refine blk_drew ?_ | refine blk_alloc ?_ _)); refine blk_put (cs := #[.int .i64 0, .int .i64 0, .string (⟨#[]⟩ : ByteArray)]) ?_ 1 _ rfl; (with_reducible repeat (first | refine blk_drewN ?_ _ | refine blk_drew ?_ | refine blk_alloc ?_ _)); refine blk_put (cs := #[.int .i64 0, .int .i64 0, .string (⟨#[]⟩ : ByteArray)]) ?_ 0 _ rfl; (with_reducible repeat (first | refine blk_drewN ?_ _ | refine blk_drew ?_ | refine blk_alloc ?_ _)); exact BK235.out) Tryd.underlying29 rfl (by kernel_rfl)) rfl ?_
            exact ⟨by first | rfl | exact My.ret_isEmpty _ | (simp [errW_none, errW_some] <;> rfl) | (simp [*, errW_none, errW_some] <;> rfl), by repeat (first | (with_reducible first | exact HB.out | apply below_alloc | apply pw_below_drewN | apply below_drew1 | refine below_set ?_ GE235.out) | exact HB.out)⟩
        · replace c11 := Bool.eq_false_iff.mpr c11
          subst c11
          have H1 : (some (0, 0, (⟨#[]⟩ : ByteArray), 1)) = some (r1, r2, r3, r4) := by rw [if_neg (show ¬ (false = true) by decide)] at H; exact H
          clear H
          have H := H1
          clear H1
          simp only [Option.some.injEq, Prod.mk.injEq] at H
          obtain ⟨rfl, rfl, rfl, rfl⟩ := H
          go_wp2_with (first | ((with_reducible refine gate_callee (f := 51) rfl ?_); refine goesL_ (some 25) rfl rfl Tryd.func51 (by kernel_rfl) rfl #[.slice A1 l1.length c1] rfl (by (try simp only [List.map_toArray, List.map_cons, List.map_nil]); first | done | rfl | (simp only [List.length_drop, List.length_take]; rfl)) ?_; (with_reducible refine (impl_valuesOK.calls _ _ l1 false _ ?side1 ?side2 A10.out).mono ?_); (case side1 => repeat (first | exact (Kd.C_below HR1.out HB.out) | (with_reducible refine Kd.C_alloc ?_ _) | (with_reducible refine Kd.C_drewN ?_ _) | (with_reducible refine Kd.C_drew ?_))); (case side2 => exact HC1.out); rintro e w24 ⟨rfl, hb⟩; refine ⟨_, rfl, ?_⟩; have n0_ := Aside0.mk (Kd.R_below (by (with_reducible repeat (first | apply Kd.R_alloc | apply Kd.R_drewN | apply Kd.R_drew)); exact HO_6.out) hb); have n1_ := Aside0.mk (blk_below (g := gb235) (o := .cells #[.int .i64 0, .int .i64 0, .string (⟨#[]⟩ : ByteArray)] 29 (0, 0)) (by (with_reducible repeat (first | refine blk_drewN ?_ _ | refine blk_drew ?_ | refine blk_alloc ?_ _)); exact BK235.out) hb); have n2_ := Aside0.mk (below_step (by repeat (first | (with_reducible first | exact HB.out | apply below_alloc | apply pw_below_drewN | apply below_drew1 | refine below_set ?_ GE235.out) | exact HB.out)) hb); clear HO_6; clear BK235; clear HB; have HO_6 := n0_; have BK235 := n1_; have HB := n2_; clear n0_ n1_ n2_; (try clear hb); (try clear hb2); (try clear hk); (try clear hi); have hcz25_0 : w24.cell? ⟨gb235, 0, none⟩ = some (.int .i64 0) := (blk_cell BK235.out 0).trans rfl; have hcz25_1 : w24.cell? ⟨gb235, 1, none⟩ = some (.int .i64 0) := (blk_cell BK235.out 1).trans rfl; have hcz25_2 : w24.cell? ⟨gb235, 2, none⟩ = some (.string (⟨#[]⟩ : ByteArray)) := (blk_cell BK235.out 2).trans rfl; have hfz25_0 := blk_frozen BK235.out 0; have hfz25_1 := blk_frozen BK235.out 1; have hfz25_2 := blk_frozen BK235.out 2))
          refine bodyPost_ret (results_ct rfl _ _ gb235 29 #[.int .i64 0, .int .i64 0, .string (⟨#[]⟩ : ByteArray)] (0, 0) _ rfl (by (with_reducible repeat (first | refine blk_drewN ?_ _ | refine blk_drew ?_ | refine blk_alloc ?_ _)); refine blk_put (cs := #[.int .i64 0, .int .i64 0, .string (⟨#[]⟩ : ByteArray)]) ?_ 2 _ rfl; (with_reducible repeat (first | refine blk_drewN ?_ _ | refine blk_drew ?_ | refine blk_alloc ?_ _)); refine blk_put (cs := #[.int .i64 0, .int .i64 0, .string (⟨#[]⟩ : ByteArray)]) ?_ 1 _ rfl; (with_reducible repeat (first | refine blk_drewN ?_ _ | refine blk_drew ?_ | refine blk_alloc ?_ _)); refine blk_put (cs := #[.int .i64 0, .int .i64 0, .string (⟨#[]⟩ : ByteArray)]) ?_ 0 _ rfl; (with_reducible repeat (first | refine blk_drewN ?_ _ | refine blk_drew ?_ | refine blk_alloc ?_ _)); exact BK235.out) Tryd.underlying29 rfl (by kernel_rfl)) rfl ?_
          exact ⟨by first | rfl | exact My.ret_isEmpty _ | (simp [errW_none, errW_some] <;> rfl) | (simp [*, errW_none, errW_some] <;> rfl), by repeat (first | (with_reducible first | exact HB.out | apply below_alloc | apply pw_below_drewN | apply below_drew1 | refine below_set ?_ GE235.out) | exact HB.out)⟩

/-! ### laws_FnDivide: function 5 -/
open Hd
/-- A variable that holds a value. -/
def laws_FnDivide.V (g : Nat) (k n : Int) (t : ByteArray) (W : World) : Prop := W.heap[g]? = some (.cells #[.int .i64 k, .int .i64 n, .string t] 29 (0, 0))
/-- The cells of a row of values. -/
def laws_FnDivide.cells (l : List S29) : List Value := (l.map fun x => [Value.int .i64 x.f0, .int .i64 x.f1, .string x.f2]).flatten
theorem laws_FnDivide.cells_get : ∀ (l : List S29) (j : Nat) (x : S29) (i : Nat) (u : Value), l[j]? = some x → [Value.int .i64 x.f0, .int .i64 x.f1, .string x.f2][i]? = some u → (laws_FnDivide.cells l)[j * 3 + i]? = some u
  | [], j, x, i, u, h, _ => by simp at h
  | y :: l, 0, x, i, u, h, hi => by
    obtain rfl : y = x := by simpa using h
    have hl : i < 3 := (List.getElem?_eq_some_iff.1 hi).1
    show ([Value.int .i64 y.f0, .int .i64 y.f1, .string y.f2] ++ laws_FnDivide.cells l)[0 * 3 + i]? = _
    rw [Nat.zero_mul, Nat.zero_add, List.getElem?_append_left (by simpa using hl)]
    exact hi
  | y :: l, j + 1, x, i, u, h, hi => by
    show ([Value.int .i64 y.f0, .int .i64 y.f1, .string y.f2] ++ laws_FnDivide.cells l)[(j + 1) * 3 + i]? = _
    rw [List.getElem?_append_right (by simp; omega), show (j + 1) * 3 + i - [Value.int .i64 y.f0, .int .i64 y.f1, .string y.f2].length = j * 3 + i by simp; omega]
    exact laws_FnDivide.cells_get l j x i u (by simpa using h) hi
theorem laws_FnDivide.row {W : World} {b : Nat} {l : List S29} {cs : Array Value} {t : TypeId} (h : W.heap[b]? = some (.cells cs t (0, 0))) (hc : cs.toList = laws_FnDivide.cells l := by rfl) (hl : l.length ≤ 9223372036854775807 := by decide) : Kd.C k29 W (some ⟨b, 0, none⟩) l.length l :=
  ⟨rfl, hl, fun _ => ⟨_, rfl, fun j p hj => ⟨[.int .i64 p.f0, .int .i64 p.f1, .string p.f2], rfl, k29_mk W p, fun i u hu => by
    show W.cell? ((⟨b, 0, none⟩ : Addr).add (j * 3 + i)) = _
    rw [add_plain, blk_cell h, ← Array.getElem?_toList, hc]
    exact laws_FnDivide.cells_get l j p i u hj hu⟩⟩⟩
/-- All is as it should be: what is divided, and by what. -/
def laws_FnDivide.good (k : Nat) (a b : Int) : Bool :=
  match impl_Binary.f k (⟨#[42]⟩ : ByteArray) 1 a (⟨#[]⟩ : ByteArray) 1 b (⟨#[]⟩ : ByteArray) with
  | none => false
  | some p => match impl_Binary.f k (⟨#[47]⟩ : ByteArray) p.1 p.2.1 p.2.2.1 1 b (⟨#[]⟩ : ByteArray), impl_Binary.f k (⟨#[37]⟩ : ByteArray) 1 a (⟨#[]⟩ : ByteArray) 1 b (⟨#[]⟩ : ByteArray), impl_Binary.f k (⟨#[47]⟩ : ByteArray) 1 a (⟨#[]⟩ : ByteArray) 1 b (⟨#[]⟩ : ByteArray), impl_Builtin.f k (⟨#[97, 98, 115]⟩ : ByteArray) [(⟨1, b, (⟨#[]⟩ : ByteArray)⟩ : S29)], impl_Binary.f k (⟨#[47]⟩ : ByteArray) 1 a (⟨#[]⟩ : ByteArray) 1 0 (⟨#[]⟩ : ByteArray) with
    | some q, some r, some w, some y, some z => match impl_Builtin.f k (⟨#[97, 98, 115]⟩ : ByteArray) [(⟨r.1, r.2.1, r.2.2.1⟩ : S29)] with
      | none => false
      | some x => match impl_Binary.f k (⟨#[60]⟩ : ByteArray) x.1 x.2.1 x.2.2.1 y.1 y.2.1 y.2.2.1 with
        | none => false
        | some l => decide (p.2.2.2 = 0 ∧ q = (1, a, (⟨#[]⟩ : ByteArray), 0) ∧ r.2.2.2 = 0 ∧ x.2.2.2 = 0 ∧ y.2.2.2 = 0 ∧ l.2.2.2 = 0 ∧ l.2.1 = 1 ∧ z.2.2.2 = 4) && (if r.2.1 = 0 then decide (w.2.2.2 = 0 ∧ impl_Binary.f k (⟨#[42]⟩ : ByteArray) w.1 w.2.1 w.2.2.1 1 b (⟨#[]⟩ : ByteArray) = some (1, a, (⟨#[]⟩ : ByteArray), 0)) else decide (w.2.2.2 = 4))
    | _, _, _, _, _ => false
def laws_FnDivide.f (k : Nat) (l0 : List Int) (l1 : List Int) : Option Bool :=
  if l0.length > 1048576 ∨ l1.length > 1048576 then some true else
    (laws_at.f l0 0 30000).bind fun x => (laws_at.f l1 0 30000).bind fun y => (laws_at.f l1 1 2).bind fun z => if laws_FnDivide.good k (wrap64 (x - 15000)) (if z = 1 then wrap64 (-(wrap64 (1 + y))) else wrap64 (1 + y)) = true then some true else none
set_option maxHeartbeats 8000000 in
set_option maxRecDepth 100000 in
theorem laws_FnDivide.walk_yes (k : Nat) (A0 : Option Addr) (c0 : Nat) (l0 : List Int) (A1 : Option Addr) (c1 : Nat) (l1 : List Int) (w : World) (hr0 : Kd.C (Kd.int .u8) w A0 l0.length l0) (hc0 : l0.length ≤ c0) (hr1 : Kd.C (Kd.int .u8) w A1 l1.length l1) (hc1 : l1.length ≤ c1) (hG : Aside0 (My.Tab w)) (m0 : l0.length ≤ 1048576) (m1 : l1.length ≤ 1048576) (x y z a b : Int) (e1 : laws_at.f l0 0 30000 = some x) (e2 : laws_at.f l1 0 30000 = some y) (e3 : laws_at.f l1 1 2 = some z) (ea : wrap64 (x - 15000) = a) (eb : (if z = 1 then wrap64 (-(wrap64 (1 + y))) else wrap64 (1 + y)) = b)
    (p1 p2 r1 r2 w1 w2 wq x1 x2 y1 y2 q1 z1 z2 : Int) (p3 r3 w3 x3 y3 q3 z3 : ByteArray) (h1 : impl_Binary.f k (⟨#[42]⟩ : ByteArray) 1 a (⟨#[]⟩ : ByteArray) 1 b (⟨#[]⟩ : ByteArray) = some (p1, p2, p3, 0)) (h2 : impl_Binary.f k (⟨#[47]⟩ : ByteArray) p1 p2 p3 1 b (⟨#[]⟩ : ByteArray) = some (1, a, (⟨#[]⟩ : ByteArray), 0)) (h3 : impl_Binary.f k (⟨#[37]⟩ : ByteArray) 1 a (⟨#[]⟩ : ByteArray) 1 b (⟨#[]⟩ : ByteArray) = some (r1, r2, r3, 0)) (h4 : impl_Binary.f k (⟨#[47]⟩ : ByteArray) 1 a (⟨#[]⟩ : ByteArray) 1 b (⟨#[]⟩ : ByteArray) = some (w1, w2, w3, wq)) (h5 : impl_Builtin.f k (⟨#[97, 98, 115]⟩ : ByteArray) [(⟨r1, r2, r3⟩ : S29)] = some (x1, x2, x3, 0)) (h6 : impl_Builtin.f k (⟨#[97, 98, 115]⟩ : ByteArray) [(⟨1, b, (⟨#[]⟩ : ByteArray)⟩ : S29)] = some (y1, y2, y3, 0)) (h7 : impl_Binary.f k (⟨#[60]⟩ : ByteArray) x1 x2 x3 y1 y2 y3 = some (q1, 1, q3, 0)) (h8 : impl_Binary.f k (⟨#[47]⟩ : ByteArray) 1 a (⟨#[]⟩ : ByteArray) 1 0 (⟨#[]⟩ : ByteArray) = some (z1, z2, z3, 4)) (hr : r2 = 0) (hw : wq = 0) (h9 : impl_Binary.f k (⟨#[42]⟩ : ByteArray) w1 w2 w3 1 b (⟨#[]⟩ : ByteArray) = some (1, a, (⟨#[]⟩ : ByteArray), 0)) :
    Calls Tryd.prog 5 #[.slice A0 l0.length c0, .slice A1 l1.length c1] w fun e w' => e = .returned (.bool true) ∧ Below w.heap.size w w' := by
  subst hr hw
  have hu := Tryd.underlying29
  have b0 : decide (1048576 < (l0.length : Int)) = false := decide_eq_false (by omega)
  have b1 : decide (1048576 < (l1.length : Int)) = false := decide_eq_false (by omega)
  have b2 : decide (1048576 < l0.length) = false := decide_eq_false (by omega)
  have b3 : decide (1048576 < l1.length) = false := decide_eq_false (by omega)
  have M0_ := Lib.hid m0
  have M1_ := Lib.hid m1
  have HR0_ := Lib.hid hr0
  have HC0_ := Lib.hid hc0
  have HR1_ := Lib.hid hr1
  have HC1_ := Lib.hid hc1
  have E1_ := Lib.hid e1
  have E2_ := Lib.hid e2
  have E3_ := Lib.hid e3
  have EA_ := Lib.hid ea
  have EB_ := Lib.hid eb
  have H1_ := Lib.hid h1
  have H2_ := Lib.hid h2
  have H3_ := Lib.hid h3
  have H4_ := Lib.hid h4
  have H5_ := Lib.hid h5
  have H6_ := Lib.hid h6
  have H7_ := Lib.hid h7
  have H8_ := Lib.hid h8
  have H9_ := Lib.hid h9
  clear m0 m1 hr0 hc0 hr1 hc1 e1 e2 e3 ea eb h1 h2 h3 h4 h5 h6 h7 h8 h9
  go_enter Tryd.func5, Tryd.ntmps5
  go_upto_region 3 with fail
  go_cut [5] from 33 to 36 (fun v5 wx => ∃ g5 : Nat, v5 = .pointer (some ⟨g5, 0, none⟩) ∧ Aside0 (laws_FnDivide.V g5 1 a (⟨#[]⟩ : ByteArray) wx) ∧ Aside0 (Below w.heap.size w wx))
  case first =>
    go_wp2_with (go_at_call 17; (with_reducible refine (laws_at.calls A0 c0 l0 0 30000 x _ ?q1 HC0_.out E1_.out).mono ?_); (case q1 => exact HR0_.out); rintro e wa ⟨rfl, hd⟩; have HD1 := Lib.hid hd.below; clear hd)
    go_meet
    case rel => exact ⟨_, rfl, ⟨by rw [← EA_.out]; exact blk_new _ _⟩, ⟨below_alloc HD1.out _⟩⟩
  case rest =>
    obtain ⟨g5, rfl, H5, HB⟩ := hcut
    go_upto_region 4 with fail
    go_cut [6] from 37 to 40 (fun v6 wx => ∃ g6 : Nat, v6 = .pointer (some ⟨g6, 0, none⟩) ∧ Aside0 (g5 ≠ g6) ∧ Aside0 (w.heap.size ≤ g6) ∧ Aside0 (laws_FnDivide.V g5 1 a (⟨#[]⟩ : ByteArray) wx) ∧ Aside0 (laws_FnDivide.V g6 1 (wrap64 (1 + y)) (⟨#[]⟩ : ByteArray) wx) ∧ Aside0 (Below w.heap.size w wx))
    case first =>
      go_wp2_with (go_at_call 17; (with_reducible refine (laws_at.calls A1 c1 l1 0 30000 y _ ?q1 HC1_.out E2_.out).mono ?_); (case q1 => exact Kd.C_below HR1_.out HB.out); rintro e wa ⟨rfl, hd⟩; have HBc := Lib.hid hd.below; clear hd)
      go_meet
      case rel => exact ⟨_, rfl, ⟨Nat.ne_of_lt (blk_lt (blk_below H5.out HBc.out))⟩, ⟨(HB.out.trans (HBc.out.mono HB.out.size)).size⟩, ⟨blk_alloc (blk_below H5.out HBc.out) _⟩, ⟨blk_new _ _⟩, ⟨below_alloc (HB.out.trans (HBc.out.mono HB.out.size)) _⟩⟩
    case rest =>
      clear HB H5
      obtain ⟨g6, rfl, HN, HG6, H5, H6, HB⟩ := hcut
      go_upto_region 5 with fail
      go_cut [43] from 41 to 43 (fun v43 wx => v43 = .bool (z == 1) ∧ Aside0 (laws_FnDivide.V g5 1 a (⟨#[]⟩ : ByteArray) wx) ∧ Aside0 (laws_FnDivide.V g6 1 (wrap64 (1 + y)) (⟨#[]⟩ : ByteArray) wx) ∧ Aside0 (Below w.heap.size w wx))
      case first =>
        go_wp2_with (go_at_call 17; (with_reducible refine (laws_at.calls A1 c1 l1 1 2 z _ ?q1 HC1_.out E3_.out).mono ?_); (case q1 => exact Kd.C_below HR1_.out HB.out); rintro e wa ⟨rfl, hd⟩; have HBc := Lib.hid hd.below; clear hd)
        go_meet
        case rel => exact ⟨rfl, ⟨blk_below H5.out HBc.out⟩, ⟨blk_below H6.out HBc.out⟩, ⟨HB.out.trans (HBc.out.mono HB.out.size)⟩⟩
      case rest =>
        clear HB H5 H6
        obtain ⟨rfl, H5, H6, HB⟩ := hcut
        have GE6 := HG6
        go_upto_if 43 with fail
        go_cut [44] from 44 to 47 (fun v44 wx => Aside0 (laws_FnDivide.V g5 1 a (⟨#[]⟩ : ByteArray) wx) ∧ Aside0 (laws_FnDivide.V g6 1 b (⟨#[]⟩ : ByteArray) wx) ∧ Aside0 (Below w.heap.size w wx))
        case first =>
          have eb := EB_.out
          by_cases hz : z = 1
          · rw [if_pos hz] at eb
            have q0 : (z == 1) = true := beq_iff_eq.2 hz
            have EB2 := Lib.hid eb
            have z6_1 := blk_cell H6.out 1
            have z6_f := blk_frozen H6.out 1
            clear eb hz
            go_wp2_with fail
            go_meet
            case rel => exact ⟨⟨blk_far H5.out HN.out _⟩, ⟨by rw [← EB2.out]; exact blk_set H6.out 1 _⟩, ⟨below_set HB.out GE6.out⟩⟩
          · rw [if_neg hz] at eb
            have q0 : (z == 1) = false := beq_eq_false_iff_ne.2 hz
            have EB2 := Lib.hid eb
            have z6_1 := blk_cell H6.out 1
            have z6_f := blk_frozen H6.out 1
            clear eb hz
            go_wp2_with fail
            go_meet
            case rel => exact ⟨⟨H5.out⟩, ⟨by rw [← EB2.out]; exact H6.out⟩, ⟨HB.out⟩⟩
        case rest =>
          clear HB H5 H6
          obtain ⟨H5, H6, HB⟩ := hcut
          go_upto_region 7 with fail
          go_cut [7, 8] from 48 to 53 (fun v7 v8 wx => ∃ g7 : Nat, v7 = .pointer (some ⟨g7, 0, none⟩) ∧ v8 = .int .i64 0 ∧ Aside0 (laws_FnDivide.V g5 1 a (⟨#[]⟩ : ByteArray) wx) ∧ Aside0 (laws_FnDivide.V g6 1 b (⟨#[]⟩ : ByteArray) wx) ∧ Aside0 (laws_FnDivide.V g7 p1 p2 p3 wx) ∧ Aside0 (Below w.heap.size w wx))
          case first =>
            have x5_0 := blk_cell H5.out 0
            have x5_1 := blk_cell H5.out 1
            have x5_2 := blk_cell H5.out 2
            have x6_0 := blk_cell H6.out 0
            have x6_1 := blk_cell H6.out 1
            have x6_2 := blk_cell H6.out 2
            go_wp2_with (go_at_call 18; (with_reducible refine (impl_Binary.calls k (⟨#[42]⟩ : ByteArray) 1 a (⟨#[]⟩ : ByteArray) 1 b (⟨#[]⟩ : ByteArray) p1 p2 p3 0 _ H1_.out).mono ?_); rintro e w' ⟨rfl, hb⟩; have HBc := Lib.hid hb; clear hb)
            go_meet
            case rel => exact ⟨_, rfl, rfl, ⟨blk_alloc (blk_below H5.out HBc.out) _⟩, ⟨blk_alloc (blk_below H6.out HBc.out) _⟩, ⟨blk_new _ _⟩, ⟨below_alloc (HB.out.trans (HBc.out.mono HB.out.size)) _⟩⟩
          case rest =>
            clear HB H5 H6
            obtain ⟨g7, rfl, rfl, H5, H6, H7, HB⟩ := hcut
            go_upto_region 8 with fail
            go_cut [9, 10] from 54 to 59 (fun v9 v10 wx => ∃ g9 : Nat, v9 = .pointer (some ⟨g9, 0, none⟩) ∧ v10 = .int .i64 0 ∧ Aside0 (laws_FnDivide.V g5 1 a (⟨#[]⟩ : ByteArray) wx) ∧ Aside0 (laws_FnDivide.V g6 1 b (⟨#[]⟩ : ByteArray) wx) ∧ Aside0 (laws_FnDivide.V g7 p1 p2 p3 wx) ∧ Aside0 (laws_FnDivide.V g9 1 a (⟨#[]⟩ : ByteArray) wx) ∧ Aside0 (Below w.heap.size w wx))
            case first =>
              have x6_0 := blk_cell H6.out 0
              have x6_1 := blk_cell H6.out 1
              have x6_2 := blk_cell H6.out 2
              have x7_0 := blk_cell H7.out 0
              have x7_1 := blk_cell H7.out 1
              have x7_2 := blk_cell H7.out 2
              go_wp2_with (go_at_call 18; (with_reducible refine (impl_Binary.calls k (⟨#[47]⟩ : ByteArray) p1 p2 p3 1 b (⟨#[]⟩ : ByteArray) 1 a (⟨#[]⟩ : ByteArray) 0 _ H2_.out).mono ?_); rintro e w' ⟨rfl, hb⟩; have HBc := Lib.hid hb; clear hb)
              go_meet
              case rel => exact ⟨_, rfl, rfl, ⟨blk_alloc (blk_below H5.out HBc.out) _⟩, ⟨blk_alloc (blk_below H6.out HBc.out) _⟩, ⟨blk_alloc (blk_below H7.out HBc.out) _⟩, ⟨blk_new _ _⟩, ⟨below_alloc (HB.out.trans (HBc.out.mono HB.out.size)) _⟩⟩
            case rest =>
              clear HB H5 H6 H7
              obtain ⟨g9, rfl, rfl, H5, H6, H7, H9, HB⟩ := hcut
              go_upto_region 9 with fail
              go_cut [11, 12] from 60 to 65 (fun v11 v12 wx => ∃ g11 : Nat, v11 = .pointer (some ⟨g11, 0, none⟩) ∧ v12 = .int .i64 0 ∧ Aside0 (laws_FnDivide.V g5 1 a (⟨#[]⟩ : ByteArray) wx) ∧ Aside0 (laws_FnDivide.V g6 1 b (⟨#[]⟩ : ByteArray) wx) ∧ Aside0 (laws_FnDivide.V g7 p1 p2 p3 wx) ∧ Aside0 (laws_FnDivide.V g9 1 a (⟨#[]⟩ : ByteArray) wx) ∧ Aside0 (laws_FnDivide.V g11 r1 0 r3 wx) ∧ Aside0 (Below w.heap.size w wx))
              case first =>
                have x5_0 := blk_cell H5.out 0
                have x5_1 := blk_cell H5.out 1
                have x5_2 := blk_cell H5.out 2
                have x6_0 := blk_cell H6.out 0
                have x6_1 := blk_cell H6.out 1
                have x6_2 := blk_cell H6.out 2
                go_wp2_with (go_at_call 18; (with_reducible refine (impl_Binary.calls k (⟨#[37]⟩ : ByteArray) 1 a (⟨#[]⟩ : ByteArray) 1 b (⟨#[]⟩ : ByteArray) r1 0 r3 0 _ H3_.out).mono ?_); rintro e w' ⟨rfl, hb⟩; have HBc := Lib.hid hb; clear hb)
                go_meet
                case rel => exact ⟨_, rfl, rfl, ⟨blk_alloc (blk_below H5.out HBc.out) _⟩, ⟨blk_alloc (blk_below H6.out HBc.out) _⟩, ⟨blk_alloc (blk_below H7.out HBc.out) _⟩, ⟨blk_alloc (blk_below H9.out HBc.out) _⟩, ⟨blk_new _ _⟩, ⟨below_alloc (HB.out.trans (HBc.out.mono HB.out.size)) _⟩⟩
              case rest =>
                clear HB H5 H6 H7 H9
                obtain ⟨g11, rfl, rfl, H5, H6, H7, H9, H11, HB⟩ := hcut
                go_upto_region 10 with fail
                go_cut [13, 14] from 66 to 71 (fun v13 v14 wx => ∃ g13 : Nat, v13 = .pointer (some ⟨g13, 0, none⟩) ∧ v14 = .int .i64 0 ∧ Aside0 (laws_FnDivide.V g5 1 a (⟨#[]⟩ : ByteArray) wx) ∧ Aside0 (laws_FnDivide.V g6 1 b (⟨#[]⟩ : ByteArray) wx) ∧ Aside0 (laws_FnDivide.V g7 p1 p2 p3 wx) ∧ Aside0 (laws_FnDivide.V g9 1 a (⟨#[]⟩ : ByteArray) wx) ∧ Aside0 (laws_FnDivide.V g11 r1 0 r3 wx) ∧ Aside0 (laws_FnDivide.V g13 w1 w2 w3 wx) ∧ Aside0 (Below w.heap.size w wx))
                case first =>
                  have x5_0 := blk_cell H5.out 0
                  have x5_1 := blk_cell H5.out 1
                  have x5_2 := blk_cell H5.out 2
                  have x6_0 := blk_cell H6.out 0
                  have x6_1 := blk_cell H6.out 1
                  have x6_2 := blk_cell H6.out 2
                  go_wp2_with (go_at_call 18; (with_reducible refine (impl_Binary.calls k (⟨#[47]⟩ : ByteArray) 1 a (⟨#[]⟩ : ByteArray) 1 b (⟨#[]⟩ : ByteArray) w1 w2 w3 0 _ H4_.out).mono ?_); rintro e w' ⟨rfl, hb⟩; have HBc := Lib.hid hb; clear hb)
                  go_meet
                  case rel => exact ⟨_, rfl, rfl, ⟨blk_alloc (blk_below H5.out HBc.out) _⟩, ⟨blk_alloc (blk_below H6.out HBc.out) _⟩, ⟨blk_alloc (blk_below H7.out HBc.out) _⟩, ⟨blk_alloc (blk_below H9.out HBc.out) _⟩, ⟨blk_alloc (blk_below H11.out HBc.out) _⟩, ⟨blk_new _ _⟩, ⟨below_alloc (HB.out.trans (HBc.out.mono HB.out.size)) _⟩⟩
                case rest =>
                  clear HB H5 H6 H7 H9 H11
                  obtain ⟨g13, rfl, rfl, H5, H6, H7, H9, H11, H13, HB⟩ := hcut
                  go_upto_region 11 with fail
                  go_cut [15, 16] from 72 to 77 (fun v15 v16 wx => ∃ g15 : Nat, v15 = .pointer (some ⟨g15, 0, none⟩) ∧ v16 = .int .i64 0 ∧ Aside0 (laws_FnDivide.V g5 1 a (⟨#[]⟩ : ByteArray) wx) ∧ Aside0 (laws_FnDivide.V g6 1 b (⟨#[]⟩ : ByteArray) wx) ∧ Aside0 (laws_FnDivide.V g7 p1 p2 p3 wx) ∧ Aside0 (laws_FnDivide.V g9 1 a (⟨#[]⟩ : ByteArray) wx) ∧ Aside0 (laws_FnDivide.V g11 r1 0 r3 wx) ∧ Aside0 (laws_FnDivide.V g13 w1 w2 w3 wx) ∧ Aside0 (laws_FnDivide.V g15 x1 x2 x3 wx) ∧ Aside0 (Below w.heap.size w wx))
                  case first =>
                    have x11_0 := blk_cell H11.out 0
                    have x11_1 := blk_cell H11.out 1
                    have x11_2 := blk_cell H11.out 2
                    have hcall : Calls Tryd.prog 19 #[.string (⟨#[97, 98, 115]⟩ : ByteArray), .slice (some ⟨wc.heap.size, 0, none⟩) 1 1] (wc.alloc (.cells #[.int .i64 r1, .int .i64 0, .string r3] 29)) _ := impl_Builtin.calls k (⟨#[97, 98, 115]⟩ : ByteArray) (some ⟨wc.heap.size, 0, none⟩) 1 [(⟨r1, 0, r3⟩ : S29)] x1 x2 x3 0 (wc.alloc (.cells #[.int .i64 r1, .int .i64 0, .string r3] 29)) (laws_FnDivide.row (blk_new _ _) (by rfl) (by simp)) (Nat.le_refl _) (My.tab_below hG (below_alloc HB.out _)) H5_.out
                    go_wp2_with (go_at_call 19; (with_reducible refine hcall.mono ?_); rintro e w' ⟨rfl, hb⟩; have HBc := Lib.hid hb; clear hb hcall)
                    go_meet
                    case rel => exact ⟨_, rfl, rfl, ⟨blk_alloc (blk_below (blk_alloc H5.out _) HBc.out) _⟩, ⟨blk_alloc (blk_below (blk_alloc H6.out _) HBc.out) _⟩, ⟨blk_alloc (blk_below (blk_alloc H7.out _) HBc.out) _⟩, ⟨blk_alloc (blk_below (blk_alloc H9.out _) HBc.out) _⟩, ⟨blk_alloc (blk_below (blk_alloc H11.out _) HBc.out) _⟩, ⟨blk_alloc (blk_below (blk_alloc H13.out _) HBc.out) _⟩, ⟨blk_new _ _⟩, ⟨below_alloc ((below_alloc HB.out _).trans (HBc.out.mono (below_alloc HB.out _).size)) _⟩⟩
                  case rest =>
                    clear HB H5 H6 H7 H9 H11 H13
                    obtain ⟨g15, rfl, rfl, H5, H6, H7, H9, H11, H13, H15, HB⟩ := hcut
                    go_upto_region 12 with fail
                    go_cut [17, 18] from 78 to 83 (fun v17 v18 wx => ∃ g17 : Nat, v17 = .pointer (some ⟨g17, 0, none⟩) ∧ v18 = .int .i64 0 ∧ Aside0 (laws_FnDivide.V g5 1 a (⟨#[]⟩ : ByteArray) wx) ∧ Aside0 (laws_FnDivide.V g6 1 b (⟨#[]⟩ : ByteArray) wx) ∧ Aside0 (laws_FnDivide.V g7 p1 p2 p3 wx) ∧ Aside0 (laws_FnDivide.V g9 1 a (⟨#[]⟩ : ByteArray) wx) ∧ Aside0 (laws_FnDivide.V g11 r1 0 r3 wx) ∧ Aside0 (laws_FnDivide.V g13 w1 w2 w3 wx) ∧ Aside0 (laws_FnDivide.V g15 x1 x2 x3 wx) ∧ Aside0 (laws_FnDivide.V g17 y1 y2 y3 wx) ∧ Aside0 (Below w.heap.size w wx))
                    case first =>
                      have x6_0 := blk_cell H6.out 0
                      have x6_1 := blk_cell H6.out 1
                      have x6_2 := blk_cell H6.out 2
                      have hcall : Calls Tryd.prog 19 #[.string (⟨#[97, 98, 115]⟩ : ByteArray), .slice (some ⟨wc.heap.size, 0, none⟩) 1 1] (wc.alloc (.cells #[.int .i64 1, .int .i64 b, .string (⟨#[]⟩ : ByteArray)] 29)) _ := impl_Builtin.calls k (⟨#[97, 98, 115]⟩ : ByteArray) (some ⟨wc.heap.size, 0, none⟩) 1 [(⟨1, b, (⟨#[]⟩ : ByteArray)⟩ : S29)] y1 y2 y3 0 (wc.alloc (.cells #[.int .i64 1, .int .i64 b, .string (⟨#[]⟩ : ByteArray)] 29)) (laws_FnDivide.row (blk_new _ _) (by rfl) (by simp)) (Nat.le_refl _) (My.tab_below hG (below_alloc HB.out _)) H6_.out
                      go_wp2_with (go_at_call 19; (with_reducible refine hcall.mono ?_); rintro e w' ⟨rfl, hb⟩; have HBc := Lib.hid hb; clear hb hcall)
                      go_meet
                      case rel => exact ⟨_, rfl, rfl, ⟨blk_alloc (blk_below (blk_alloc H5.out _) HBc.out) _⟩, ⟨blk_alloc (blk_below (blk_alloc H6.out _) HBc.out) _⟩, ⟨blk_alloc (blk_below (blk_alloc H7.out _) HBc.out) _⟩, ⟨blk_alloc (blk_below (blk_alloc H9.out _) HBc.out) _⟩, ⟨blk_alloc (blk_below (blk_alloc H11.out _) HBc.out) _⟩, ⟨blk_alloc (blk_below (blk_alloc H13.out _) HBc.out) _⟩, ⟨blk_alloc (blk_below (blk_alloc H15.out _) HBc.out) _⟩, ⟨blk_new _ _⟩, ⟨below_alloc ((below_alloc HB.out _).trans (HBc.out.mono (below_alloc HB.out _).size)) _⟩⟩
                    case rest =>
                      clear HB H5 H6 H7 H9 H11 H13 H15
                      obtain ⟨g17, rfl, rfl, H5, H6, H7, H9, H11, H13, H15, H17, HB⟩ := hcut
                      go_upto_region 13 with fail
                      go_cut [19, 20] from 84 to 89 (fun v19 v20 wx => ∃ g19 : Nat, v19 = .pointer (some ⟨g19, 0, none⟩) ∧ v20 = .int .i64 0 ∧ Aside0 (laws_FnDivide.V g5 1 a (⟨#[]⟩ : ByteArray) wx) ∧ Aside0 (laws_FnDivide.V g6 1 b (⟨#[]⟩ : ByteArray) wx) ∧ Aside0 (laws_FnDivide.V g7 p1 p2 p3 wx) ∧ Aside0 (laws_FnDivide.V g9 1 a (⟨#[]⟩ : ByteArray) wx) ∧ Aside0 (laws_FnDivide.V g11 r1 0 r3 wx) ∧ Aside0 (laws_FnDivide.V g13 w1 w2 w3 wx) ∧ Aside0 (laws_FnDivide.V g15 x1 x2 x3 wx) ∧ Aside0 (laws_FnDivide.V g17 y1 y2 y3 wx) ∧ Aside0 (laws_FnDivide.V g19 q1 1 q3 wx) ∧ Aside0 (Below w.heap.size w wx))
                      case first =>
                        have x15_0 := blk_cell H15.out 0
                        have x15_1 := blk_cell H15.out 1
                        have x15_2 := blk_cell H15.out 2
                        have x17_0 := blk_cell H17.out 0
                        have x17_1 := blk_cell H17.out 1
                        have x17_2 := blk_cell H17.out 2
                        go_wp2_with (go_at_call 18; (with_reducible refine (impl_Binary.calls k (⟨#[60]⟩ : ByteArray) x1 x2 x3 y1 y2 y3 q1 1 q3 0 _ H7_.out).mono ?_); rintro e w' ⟨rfl, hb⟩; have HBc := Lib.hid hb; clear hb)
                        go_meet
                        case rel => exact ⟨_, rfl, rfl, ⟨blk_alloc (blk_below H5.out HBc.out) _⟩, ⟨blk_alloc (blk_below H6.out HBc.out) _⟩, ⟨blk_alloc (blk_below H7.out HBc.out) _⟩, ⟨blk_alloc (blk_below H9.out HBc.out) _⟩, ⟨blk_alloc (blk_below H11.out HBc.out) _⟩, ⟨blk_alloc (blk_below H13.out HBc.out) _⟩, ⟨blk_alloc (blk_below H15.out HBc.out) _⟩, ⟨blk_alloc (blk_below H17.out HBc.out) _⟩, ⟨blk_new _ _⟩, ⟨below_alloc (HB.out.trans (HBc.out.mono HB.out.size)) _⟩⟩
                      case rest =>
                        clear HB H5 H6 H7 H9 H11 H13 H15 H17
                        obtain ⟨g19, rfl, rfl, H5, H6, H7, H9, H11, H13, H15, H17, H19, HB⟩ := hcut
                        go_upto_region 14 with fail
                        go_cut [21, 22] from 90 to 95 (fun v21 v22 wx => ∃ g21 : Nat, v21 = .pointer (some ⟨g21, 0, none⟩) ∧ v22 = .int .i64 4 ∧ Aside0 (laws_FnDivide.V g5 1 a (⟨#[]⟩ : ByteArray) wx) ∧ Aside0 (laws_FnDivide.V g6 1 b (⟨#[]⟩ : ByteArray) wx) ∧ Aside0 (laws_FnDivide.V g7 p1 p2 p3 wx) ∧ Aside0 (laws_FnDivide.V g9 1 a (⟨#[]⟩ : ByteArray) wx) ∧ Aside0 (laws_FnDivide.V g11 r1 0 r3 wx) ∧ Aside0 (laws_FnDivide.V g13 w1 w2 w3 wx) ∧ Aside0 (laws_FnDivide.V g15 x1 x2 x3 wx) ∧ Aside0 (laws_FnDivide.V g17 y1 y2 y3 wx) ∧ Aside0 (laws_FnDivide.V g19 q1 1 q3 wx) ∧ Aside0 (laws_FnDivide.V g21 z1 z2 z3 wx) ∧ Aside0 (Below w.heap.size w wx))
                        case first =>
                          have x5_0 := blk_cell H5.out 0
                          have x5_1 := blk_cell H5.out 1
                          have x5_2 := blk_cell H5.out 2
                          go_wp2_with (go_at_call 18; (with_reducible refine (impl_Binary.calls k (⟨#[47]⟩ : ByteArray) 1 a (⟨#[]⟩ : ByteArray) 1 0 (⟨#[]⟩ : ByteArray) z1 z2 z3 4 _ H8_.out).mono ?_); rintro e w' ⟨rfl, hb⟩; have HBc := Lib.hid hb; clear hb)
                          go_meet
                          case rel => exact ⟨_, rfl, rfl, ⟨blk_alloc (blk_below H5.out HBc.out) _⟩, ⟨blk_alloc (blk_below H6.out HBc.out) _⟩, ⟨blk_alloc (blk_below H7.out HBc.out) _⟩, ⟨blk_alloc (blk_below H9.out HBc.out) _⟩, ⟨blk_alloc (blk_below H11.out HBc.out) _⟩, ⟨blk_alloc (blk_below H13.out HBc.out) _⟩, ⟨blk_alloc (blk_below H15.out HBc.out) _⟩, ⟨blk_alloc (blk_below H17.out HBc.out) _⟩, ⟨blk_alloc (blk_below H19.out HBc.out) _⟩, ⟨blk_new _ _⟩, ⟨below_alloc (HB.out.trans (HBc.out.mono HB.out.size)) _⟩⟩
                        case rest =>
                          clear HB H5 H6 H7 H9 H11 H13 H15 H17 H19
                          obtain ⟨g21, rfl, rfl, H5, H6, H7, H9, H11, H13, H15, H17, H19, H21, HB⟩ := hcut
                          have x5_0 := blk_cell H5.out 0
                          have x5_1 := blk_cell H5.out 1
                          have x5_2 := blk_cell H5.out 2
                          have x9_0 := blk_cell H9.out 0
                          have x9_1 := blk_cell H9.out 1
                          have x9_2 := blk_cell H9.out 2
                          have x11_0 := blk_cell H11.out 0
                          have x11_1 := blk_cell H11.out 1
                          have x11_2 := blk_cell H11.out 2
                          have x19_0 := blk_cell H19.out 0
                          have x19_1 := blk_cell H19.out 1
                          have x19_2 := blk_cell H19.out 2
                          go_upto_region 19 with fail
                          go_cut [23, 24] from 137 to 142 (fun v23 v24 wx => ∃ g23 : Nat, v23 = .pointer (some ⟨g23, 0, none⟩) ∧ v24 = .int .i64 0 ∧ Aside0 (laws_FnDivide.V g5 1 a (⟨#[]⟩ : ByteArray) wx) ∧ Aside0 (laws_FnDivide.V g6 1 b (⟨#[]⟩ : ByteArray) wx) ∧ Aside0 (laws_FnDivide.V g7 p1 p2 p3 wx) ∧ Aside0 (laws_FnDivide.V g9 1 a (⟨#[]⟩ : ByteArray) wx) ∧ Aside0 (laws_FnDivide.V g11 r1 0 r3 wx) ∧ Aside0 (laws_FnDivide.V g13 w1 w2 w3 wx) ∧ Aside0 (laws_FnDivide.V g15 x1 x2 x3 wx) ∧ Aside0 (laws_FnDivide.V g17 y1 y2 y3 wx) ∧ Aside0 (laws_FnDivide.V g19 q1 1 q3 wx) ∧ Aside0 (laws_FnDivide.V g21 z1 z2 z3 wx) ∧ Aside0 (laws_FnDivide.V g23 1 a (⟨#[]⟩ : ByteArray) wx) ∧ Aside0 (Below w.heap.size w wx))
                          case first =>
                            have x6_0 := blk_cell H6.out 0
                            have x6_1 := blk_cell H6.out 1
                            have x6_2 := blk_cell H6.out 2
                            have x13_0 := blk_cell H13.out 0
                            have x13_1 := blk_cell H13.out 1
                            have x13_2 := blk_cell H13.out 2
                            go_wp2_with (go_at_call 18; (with_reducible refine (impl_Binary.calls k (⟨#[42]⟩ : ByteArray) w1 w2 w3 1 b (⟨#[]⟩ : ByteArray) 1 a (⟨#[]⟩ : ByteArray) 0 _ H9_.out).mono ?_); rintro e w' ⟨rfl, hb⟩; have HBc := Lib.hid hb; clear hb)
                            go_meet
                            case rel => exact ⟨_, rfl, rfl, ⟨blk_alloc (blk_below H5.out HBc.out) _⟩, ⟨blk_alloc (blk_below H6.out HBc.out) _⟩, ⟨blk_alloc (blk_below H7.out HBc.out) _⟩, ⟨blk_alloc (blk_below H9.out HBc.out) _⟩, ⟨blk_alloc (blk_below H11.out HBc.out) _⟩, ⟨blk_alloc (blk_below H13.out HBc.out) _⟩, ⟨blk_alloc (blk_below H15.out HBc.out) _⟩, ⟨blk_alloc (blk_below H17.out HBc.out) _⟩, ⟨blk_alloc (blk_below H19.out HBc.out) _⟩, ⟨blk_alloc (blk_below H21.out HBc.out) _⟩, ⟨blk_new _ _⟩, ⟨below_alloc (HB.out.trans (HBc.out.mono HB.out.size)) _⟩⟩
                          case rest =>
                            clear HB H5 H6 H7 H9 H11 H13 H15 H17 H19 H21
                            obtain ⟨g23, rfl, rfl, H5, H6, H7, H9, H11, H13, H15, H17, H19, H21, H23, HB⟩ := hcut
                            have x5_0 := blk_cell H5.out 0
                            have x5_1 := blk_cell H5.out 1
                            have x5_2 := blk_cell H5.out 2
                            have x23_0 := blk_cell H23.out 0
                            have x23_1 := blk_cell H23.out 1
                            have x23_2 := blk_cell H23.out 2
                            go_wp2_with fail
                            go_ret
                            exact ⟨by first | rfl | simp, HB.out⟩
set_option maxHeartbeats 8000000 in
set_option maxRecDepth 100000 in
theorem laws_FnDivide.walk_no (k : Nat) (A0 : Option Addr) (c0 : Nat) (l0 : List Int) (A1 : Option Addr) (c1 : Nat) (l1 : List Int) (w : World) (hr0 : Kd.C (Kd.int .u8) w A0 l0.length l0) (hc0 : l0.length ≤ c0) (hr1 : Kd.C (Kd.int .u8) w A1 l1.length l1) (hc1 : l1.length ≤ c1) (hG : Aside0 (My.Tab w)) (m0 : l0.length ≤ 1048576) (m1 : l1.length ≤ 1048576) (x y z a b : Int) (e1 : laws_at.f l0 0 30000 = some x) (e2 : laws_at.f l1 0 30000 = some y) (e3 : laws_at.f l1 1 2 = some z) (ea : wrap64 (x - 15000) = a) (eb : (if z = 1 then wrap64 (-(wrap64 (1 + y))) else wrap64 (1 + y)) = b)
    (p1 p2 r1 r2 w1 w2 wq x1 x2 y1 y2 q1 z1 z2 : Int) (p3 r3 w3 x3 y3 q3 z3 : ByteArray) (h1 : impl_Binary.f k (⟨#[42]⟩ : ByteArray) 1 a (⟨#[]⟩ : ByteArray) 1 b (⟨#[]⟩ : ByteArray) = some (p1, p2, p3, 0)) (h2 : impl_Binary.f k (⟨#[47]⟩ : ByteArray) p1 p2 p3 1 b (⟨#[]⟩ : ByteArray) = some (1, a, (⟨#[]⟩ : ByteArray), 0)) (h3 : impl_Binary.f k (⟨#[37]⟩ : ByteArray) 1 a (⟨#[]⟩ : ByteArray) 1 b (⟨#[]⟩ : ByteArray) = some (r1, r2, r3, 0)) (h4 : impl_Binary.f k (⟨#[47]⟩ : ByteArray) 1 a (⟨#[]⟩ : ByteArray) 1 b (⟨#[]⟩ : ByteArray) = some (w1, w2, w3, wq)) (h5 : impl_Builtin.f k (⟨#[97, 98, 115]⟩ : ByteArray) [(⟨r1, r2, r3⟩ : S29)] = some (x1, x2, x3, 0)) (h6 : impl_Builtin.f k (⟨#[97, 98, 115]⟩ : ByteArray) [(⟨1, b, (⟨#[]⟩ : ByteArray)⟩ : S29)] = some (y1, y2, y3, 0)) (h7 : impl_Binary.f k (⟨#[60]⟩ : ByteArray) x1 x2 x3 y1 y2 y3 = some (q1, 1, q3, 0)) (h8 : impl_Binary.f k (⟨#[47]⟩ : ByteArray) 1 a (⟨#[]⟩ : ByteArray) 1 0 (⟨#[]⟩ : ByteArray) = some (z1, z2, z3, 4)) (hr : r2 ≠ 0) (hw : wq = 4) :
    Calls Tryd.prog 5 #[.slice A0 l0.length c0, .slice A1 l1.length c1] w fun e w' => e = .returned (.bool true) ∧ Below w.heap.size w w' := by
  subst hw
  have HRN := Lib.hid hr
  clear hr
  have hu := Tryd.underlying29
  have b0 : decide (1048576 < (l0.length : Int)) = false := decide_eq_false (by omega)
  have b1 : decide (1048576 < (l1.length : Int)) = false := decide_eq_false (by omega)
  have b2 : decide (1048576 < l0.length) = false := decide_eq_false (by omega)
  have b3 : decide (1048576 < l1.length) = false := decide_eq_false (by omega)
  have M0_ := Lib.hid m0
  have M1_ := Lib.hid m1
  have HR0_ := Lib.hid hr0
  have HC0_ := Lib.hid hc0
  have HR1_ := Lib.hid hr1
  have HC1_ := Lib.hid hc1
  have E1_ := Lib.hid e1
  have E2_ := Lib.hid e2
  have E3_ := Lib.hid e3
  have EA_ := Lib.hid ea
  have EB_ := Lib.hid eb
  have H1_ := Lib.hid h1
  have H2_ := Lib.hid h2
  have H3_ := Lib.hid h3
  have H4_ := Lib.hid h4
  have H5_ := Lib.hid h5
  have H6_ := Lib.hid h6
  have H7_ := Lib.hid h7
  have H8_ := Lib.hid h8
  clear m0 m1 hr0 hc0 hr1 hc1 e1 e2 e3 ea eb h1 h2 h3 h4 h5 h6 h7 h8
  go_enter Tryd.func5, Tryd.ntmps5
  go_upto_region 3 with fail
  go_cut [5] from 33 to 36 (fun v5 wx => ∃ g5 : Nat, v5 = .pointer (some ⟨g5, 0, none⟩) ∧ Aside0 (laws_FnDivide.V g5 1 a (⟨#[]⟩ : ByteArray) wx) ∧ Aside0 (Below w.heap.size w wx))
  case first =>
    go_wp2_with (go_at_call 17; (with_reducible refine (laws_at.calls A0 c0 l0 0 30000 x _ ?q1 HC0_.out E1_.out).mono ?_); (case q1 => exact HR0_.out); rintro e wa ⟨rfl, hd⟩; have HD1 := Lib.hid hd.below; clear hd)
    go_meet
    case rel => exact ⟨_, rfl, ⟨by rw [← EA_.out]; exact blk_new _ _⟩, ⟨below_alloc HD1.out _⟩⟩
  case rest =>
    obtain ⟨g5, rfl, H5, HB⟩ := hcut
    go_upto_region 4 with fail
    go_cut [6] from 37 to 40 (fun v6 wx => ∃ g6 : Nat, v6 = .pointer (some ⟨g6, 0, none⟩) ∧ Aside0 (g5 ≠ g6) ∧ Aside0 (w.heap.size ≤ g6) ∧ Aside0 (laws_FnDivide.V g5 1 a (⟨#[]⟩ : ByteArray) wx) ∧ Aside0 (laws_FnDivide.V g6 1 (wrap64 (1 + y)) (⟨#[]⟩ : ByteArray) wx) ∧ Aside0 (Below w.heap.size w wx))
    case first =>
      go_wp2_with (go_at_call 17; (with_reducible refine (laws_at.calls A1 c1 l1 0 30000 y _ ?q1 HC1_.out E2_.out).mono ?_); (case q1 => exact Kd.C_below HR1_.out HB.out); rintro e wa ⟨rfl, hd⟩; have HBc := Lib.hid hd.below; clear hd)
      go_meet
      case rel => exact ⟨_, rfl, ⟨Nat.ne_of_lt (blk_lt (blk_below H5.out HBc.out))⟩, ⟨(HB.out.trans (HBc.out.mono HB.out.size)).size⟩, ⟨blk_alloc (blk_below H5.out HBc.out) _⟩, ⟨blk_new _ _⟩, ⟨below_alloc (HB.out.trans (HBc.out.mono HB.out.size)) _⟩⟩
    case rest =>
      clear HB H5
      obtain ⟨g6, rfl, HN, HG6, H5, H6, HB⟩ := hcut
      go_upto_region 5 with fail
      go_cut [43] from 41 to 43 (fun v43 wx => v43 = .bool (z == 1) ∧ Aside0 (laws_FnDivide.V g5 1 a (⟨#[]⟩ : ByteArray) wx) ∧ Aside0 (laws_FnDivide.V g6 1 (wrap64 (1 + y)) (⟨#[]⟩ : ByteArray) wx) ∧ Aside0 (Below w.heap.size w wx))
      case first =>
        go_wp2_with (go_at_call 17; (with_reducible refine (laws_at.calls A1 c1 l1 1 2 z _ ?q1 HC1_.out E3_.out).mono ?_); (case q1 => exact Kd.C_below HR1_.out HB.out); rintro e wa ⟨rfl, hd⟩; have HBc := Lib.hid hd.below; clear hd)
        go_meet
        case rel => exact ⟨rfl, ⟨blk_below H5.out HBc.out⟩, ⟨blk_below H6.out HBc.out⟩, ⟨HB.out.trans (HBc.out.mono HB.out.size)⟩⟩
      case rest =>
        clear HB H5 H6
        obtain ⟨rfl, H5, H6, HB⟩ := hcut
        have GE6 := HG6
        go_upto_if 43 with fail
        go_cut [44] from 44 to 47 (fun v44 wx => Aside0 (laws_FnDivide.V g5 1 a (⟨#[]⟩ : ByteArray) wx) ∧ Aside0 (laws_FnDivide.V g6 1 b (⟨#[]⟩ : ByteArray) wx) ∧ Aside0 (Below w.heap.size w wx))
        case first =>
          have eb := EB_.out
          by_cases hz : z = 1
          · rw [if_pos hz] at eb
            have q0 : (z == 1) = true := beq_iff_eq.2 hz
            have EB2 := Lib.hid eb
            have z6_1 := blk_cell H6.out 1
            have z6_f := blk_frozen H6.out 1
            clear eb hz
            go_wp2_with fail
            go_meet
            case rel => exact ⟨⟨blk_far H5.out HN.out _⟩, ⟨by rw [← EB2.out]; exact blk_set H6.out 1 _⟩, ⟨below_set HB.out GE6.out⟩⟩
          · rw [if_neg hz] at eb
            have q0 : (z == 1) = false := beq_eq_false_iff_ne.2 hz
            have EB2 := Lib.hid eb
            have z6_1 := blk_cell H6.out 1
            have z6_f := blk_frozen H6.out 1
            clear eb hz
            go_wp2_with fail
            go_meet
            case rel => exact ⟨⟨H5.out⟩, ⟨by rw [← EB2.out]; exact H6.out⟩, ⟨HB.out⟩⟩
        case rest =>
          clear HB H5 H6
          obtain ⟨H5, H6, HB⟩ := hcut
          go_upto_region 7 with fail
          go_cut [7, 8] from 48 to 53 (fun v7 v8 wx => ∃ g7 : Nat, v7 = .pointer (some ⟨g7, 0, none⟩) ∧ v8 = .int .i64 0 ∧ Aside0 (laws_FnDivide.V g5 1 a (⟨#[]⟩ : ByteArray) wx) ∧ Aside0 (laws_FnDivide.V g6 1 b (⟨#[]⟩ : ByteArray) wx) ∧ Aside0 (laws_FnDivide.V g7 p1 p2 p3 wx) ∧ Aside0 (Below w.heap.size w wx))
          case first =>
            have x5_0 := blk_cell H5.out 0
            have x5_1 := blk_cell H5.out 1
            have x5_2 := blk_cell H5.out 2
            have x6_0 := blk_cell H6.out 0
            have x6_1 := blk_cell H6.out 1
            have x6_2 := blk_cell H6.out 2
            go_wp2_with (go_at_call 18; (with_reducible refine (impl_Binary.calls k (⟨#[42]⟩ : ByteArray) 1 a (⟨#[]⟩ : ByteArray) 1 b (⟨#[]⟩ : ByteArray) p1 p2 p3 0 _ H1_.out).mono ?_); rintro e w' ⟨rfl, hb⟩; have HBc := Lib.hid hb; clear hb)
            go_meet
            case rel => exact ⟨_, rfl, rfl, ⟨blk_alloc (blk_below H5.out HBc.out) _⟩, ⟨blk_alloc (blk_below H6.out HBc.out) _⟩, ⟨blk_new _ _⟩, ⟨below_alloc (HB.out.trans (HBc.out.mono HB.out.size)) _⟩⟩
          case rest =>
            clear HB H5 H6
            obtain ⟨g7, rfl, rfl, H5, H6, H7, HB⟩ := hcut
            go_upto_region 8 with fail
            go_cut [9, 10] from 54 to 59 (fun v9 v10 wx => ∃ g9 : Nat, v9 = .pointer (some ⟨g9, 0, none⟩) ∧ v10 = .int .i64 0 ∧ Aside0 (laws_FnDivide.V g5 1 a (⟨#[]⟩ : ByteArray) wx) ∧ Aside0 (laws_FnDivide.V g6 1 b (⟨#[]⟩ : ByteArray) wx) ∧ Aside0 (laws_FnDivide.V g7 p1 p2 p3 wx) ∧ Aside0 (laws_FnDivide.V g9 1 a (⟨#[]⟩ : ByteArray) wx) ∧ Aside0 (Below w.heap.size w wx))
            case first =>
              have x6_0 := blk_cell H6.out 0
              have x6_1 := blk_cell H6.out 1
              have x6_2 := blk_cell H6.out 2
              have x7_0 := blk_cell H7.out 0
              have x7_1 := blk_cell H7.out 1
              have x7_2 := blk_cell H7.out 2
              go_wp2_with (go_at_call 18; (with_reducible refine (impl_Binary.calls k (⟨#[47]⟩ : ByteArray) p1 p2 p3 1 b (⟨#[]⟩ : ByteArray) 1 a (⟨#[]⟩ : ByteArray) 0 _ H2_.out).mono ?_); rintro e w' ⟨rfl, hb⟩; have HBc := Lib.hid hb; clear hb)
              go_meet
              case rel => exact ⟨_, rfl, rfl, ⟨blk_alloc (blk_below H5.out HBc.out) _⟩, ⟨blk_alloc (blk_below H6.out HBc.out) _⟩, ⟨blk_alloc (blk_below H7.out HBc.out) _⟩, ⟨blk_new _ _⟩, ⟨below_alloc (HB.out.trans (HBc.out.mono HB.out.size)) _⟩⟩
            case rest =>
              clear HB H5 H6 H7
              obtain ⟨g9, rfl, rfl, H5, H6, H7, H9, HB⟩ := hcut
              go_upto_region 9 with fail
              go_cut [11, 12] from 60 to 65 (fun v11 v12 wx => ∃ g11 : Nat, v11 = .pointer (some ⟨g11, 0, none⟩) ∧ v12 = .int .i64 0 ∧ Aside0 (laws_FnDivide.V g5 1 a (⟨#[]⟩ : ByteArray) wx) ∧ Aside0 (laws_FnDivide.V g6 1 b (⟨#[]⟩ : ByteArray) wx) ∧ Aside0 (laws_FnDivide.V g7 p1 p2 p3 wx) ∧ Aside0 (laws_FnDivide.V g9 1 a (⟨#[]⟩ : ByteArray) wx) ∧ Aside0 (laws_FnDivide.V g11 r1 r2 r3 wx) ∧ Aside0 (Below w.heap.size w wx))
              case first =>
                have x5_0 := blk_cell H5.out 0
                have x5_1 := blk_cell H5.out 1
                have x5_2 := blk_cell H5.out 2
                have x6_0 := blk_cell H6.out 0
                have x6_1 := blk_cell H6.out 1
                have x6_2 := blk_cell H6.out 2
                go_wp2_with (go_at_call 18; (with_reducible refine (impl_Binary.calls k (⟨#[37]⟩ : ByteArray) 1 a (⟨#[]⟩ : ByteArray) 1 b (⟨#[]⟩ : ByteArray) r1 r2 r3 0 _ H3_.out).mono ?_); rintro e w' ⟨rfl, hb⟩; have HBc := Lib.hid hb; clear hb)
                go_meet
                case rel => exact ⟨_, rfl, rfl, ⟨blk_alloc (blk_below H5.out HBc.out) _⟩, ⟨blk_alloc (blk_below H6.out HBc.out) _⟩, ⟨blk_alloc (blk_below H7.out HBc.out) _⟩, ⟨blk_alloc (blk_below H9.out HBc.out) _⟩, ⟨blk_new _ _⟩, ⟨below_alloc (HB.out.trans (HBc.out.mono HB.out.size)) _⟩⟩
              case rest =>
                clear HB H5 H6 H7 H9
                obtain ⟨g11, rfl, rfl, H5, H6, H7, H9, H11, HB⟩ := hcut
                go_upto_region 10 with fail
                go_cut [13, 14] from 66 to 71 (fun v13 v14 wx => ∃ g13 : Nat, v13 = .pointer (some ⟨g13, 0, none⟩) ∧ v14 = .int .i64 4 ∧ Aside0 (laws_FnDivide.V g5 1 a (⟨#[]⟩ : ByteArray) wx) ∧ Aside0 (laws_FnDivide.V g6 1 b (⟨#[]⟩ : ByteArray) wx) ∧ Aside0 (laws_FnDivide.V g7 p1 p2 p3 wx) ∧ Aside0 (laws_FnDivide.V g9 1 a (⟨#[]⟩ : ByteArray) wx) ∧ Aside0 (laws_FnDivide.V g11 r1 r2 r3 wx) ∧ Aside0 (laws_FnDivide.V g13 w1 w2 w3 wx) ∧ Aside0 (Below w.heap.size w wx))
                case first =>
                  have x5_0 := blk_cell H5.out 0
                  have x5_1 := blk_cell H5.out 1
                  have x5_2 := blk_cell H5.out 2
                  have x6_0 := blk_cell H6.out 0
                  have x6_1 := blk_cell H6.out 1
                  have x6_2 := blk_cell H6.out 2
                  go_wp2_with (go_at_call 18; (with_reducible refine (impl_Binary.calls k (⟨#[47]⟩ : ByteArray) 1 a (⟨#[]⟩ : ByteArray) 1 b (⟨#[]⟩ : ByteArray) w1 w2 w3 4 _ H4_.out).mono ?_); rintro e w' ⟨rfl, hb⟩; have HBc := Lib.hid hb; clear hb)
                  go_meet
                  case rel => exact ⟨_, rfl, rfl, ⟨blk_alloc (blk_below H5.out HBc.out) _⟩, ⟨blk_alloc (blk_below H6.out HBc.out) _⟩, ⟨blk_alloc (blk_below H7.out HBc.out) _⟩, ⟨blk_alloc (blk_below H9.out HBc.out) _⟩, ⟨blk_alloc (blk_below H11.out HBc.out) _⟩, ⟨blk_new _ _⟩, ⟨below_alloc (HB.out.trans (HBc.out.mono HB.out.size)) _⟩⟩
                case rest =>
                  clear HB H5 H6 H7 H9 H11
                  obtain ⟨g13, rfl, rfl, H5, H6, H7, H9, H11, H13, HB⟩ := hcut
                  go_upto_region 11 with fail
                  go_cut [15, 16] from 72 to 77 (fun v15 v16 wx => ∃ g15 : Nat, v15 = .pointer (some ⟨g15, 0, none⟩) ∧ v16 = .int .i64 0 ∧ Aside0 (laws_FnDivide.V g5 1 a (⟨#[]⟩ : ByteArray) wx) ∧ Aside0 (laws_FnDivide.V g6 1 b (⟨#[]⟩ : ByteArray) wx) ∧ Aside0 (laws_FnDivide.V g7 p1 p2 p3 wx) ∧ Aside0 (laws_FnDivide.V g9 1 a (⟨#[]⟩ : ByteArray) wx) ∧ Aside0 (laws_FnDivide.V g11 r1 r2 r3 wx) ∧ Aside0 (laws_FnDivide.V g13 w1 w2 w3 wx) ∧ Aside0 (laws_FnDivide.V g15 x1 x2 x3 wx) ∧ Aside0 (Below w.heap.size w wx))
                  case first =>
                    have x11_0 := blk_cell H11.out 0
                    have x11_1 := blk_cell H11.out 1
                    have x11_2 := blk_cell H11.out 2
                    have hcall : Calls Tryd.prog 19 #[.string (⟨#[97, 98, 115]⟩ : ByteArray), .slice (some ⟨wc.heap.size, 0, none⟩) 1 1] (wc.alloc (.cells #[.int .i64 r1, .int .i64 r2, .string r3] 29)) _ := impl_Builtin.calls k (⟨#[97, 98, 115]⟩ : ByteArray) (some ⟨wc.heap.size, 0, none⟩) 1 [(⟨r1, r2, r3⟩ : S29)] x1 x2 x3 0 (wc.alloc (.cells #[.int .i64 r1, .int .i64 r2, .string r3] 29)) (laws_FnDivide.row (blk_new _ _) (by rfl) (by simp)) (Nat.le_refl _) (My.tab_below hG (below_alloc HB.out _)) H5_.out
                    go_wp2_with (go_at_call 19; (with_reducible refine hcall.mono ?_); rintro e w' ⟨rfl, hb⟩; have HBc := Lib.hid hb; clear hb hcall)
                    go_meet
                    case rel => exact ⟨_, rfl, rfl, ⟨blk_alloc (blk_below (blk_alloc H5.out _) HBc.out) _⟩, ⟨blk_alloc (blk_below (blk_alloc H6.out _) HBc.out) _⟩, ⟨blk_alloc (blk_below (blk_alloc H7.out _) HBc.out) _⟩, ⟨blk_alloc (blk_below (blk_alloc H9.out _) HBc.out) _⟩, ⟨blk_alloc (blk_below (blk_alloc H11.out _) HBc.out) _⟩, ⟨blk_alloc (blk_below (blk_alloc H13.out _) HBc.out) _⟩, ⟨blk_new _ _⟩, ⟨below_alloc ((below_alloc HB.out _).trans (HBc.out.mono (below_alloc HB.out _).size)) _⟩⟩
                  case rest =>
                    clear HB H5 H6 H7 H9 H11 H13
                    obtain ⟨g15, rfl, rfl, H5, H6, H7, H9, H11, H13, H15, HB⟩ := hcut
                    go_upto_region 12 with fail
                    go_cut [17, 18] from 78 to 83 (fun v17 v18 wx => ∃ g17 : Nat, v17 = .pointer (some ⟨g17, 0, none⟩) ∧ v18 = .int .i64 0 ∧ Aside0 (laws_FnDivide.V g5 1 a (⟨#[]⟩ : ByteArray) wx) ∧ Aside0 (laws_FnDivide.V g6 1 b (⟨#[]⟩ : ByteArray) wx) ∧ Aside0 (laws_FnDivide.V g7 p1 p2 p3 wx) ∧ Aside0 (laws_FnDivide.V g9 1 a (⟨#[]⟩ : ByteArray) wx) ∧ Aside0 (laws_FnDivide.V g11 r1 r2 r3 wx) ∧ Aside0 (laws_FnDivide.V g13 w1 w2 w3 wx) ∧ Aside0 (laws_FnDivide.V g15 x1 x2 x3 wx) ∧ Aside0 (laws_FnDivide.V g17 y1 y2 y3 wx) ∧ Aside0 (Below w.heap.size w wx))
                    case first =>
                      have x6_0 := blk_cell H6.out 0
                      have x6_1 := blk_cell H6.out 1
                      have x6_2 := blk_cell H6.out 2
                      have hcall : Calls Tryd.prog 19 #[.string (⟨#[97, 98, 115]⟩ : ByteArray), .slice (some ⟨wc.heap.size, 0, none⟩) 1 1] (wc.alloc (.cells #[.int .i64 1, .int .i64 b, .string (⟨#[]⟩ : ByteArray)] 29)) _ := impl_Builtin.calls k (⟨#[97, 98, 115]⟩ : ByteArray) (some ⟨wc.heap.size, 0, none⟩) 1 [(⟨1, b, (⟨#[]⟩ : ByteArray)⟩ : S29)] y1 y2 y3 0 (wc.alloc (.cells #[.int .i64 1, .int .i64 b, .string (⟨#[]⟩ : ByteArray)] 29)) (laws_FnDivide.row (blk_new _ _) (by rfl) (by simp)) (Nat.le_refl _) (My.tab_below hG (below_alloc HB.out _)) H6_.out
                      go_wp2_with (go_at_call 19; (with_reducible refine hcall.mono ?_); rintro e w' ⟨rfl, hb⟩; have HBc := Lib.hid hb; clear hb hcall)
                      go_meet
                      case rel => exact ⟨_, rfl, rfl, ⟨blk_alloc (blk_below (blk_alloc H5.out _) HBc.out) _⟩, ⟨blk_alloc (blk_below (blk_alloc H6.out _) HBc.out) _⟩, ⟨blk_alloc (blk_below (blk_alloc H7.out _) HBc.out) _⟩, ⟨blk_alloc (blk_below (blk_alloc H9.out _) HBc.out) _⟩, ⟨blk_alloc (blk_below (blk_alloc H11.out _) HBc.out) _⟩, ⟨blk_alloc (blk_below (blk_alloc H13.out _) HBc.out) _⟩, ⟨blk_alloc (blk_below (blk_alloc H15.out _) HBc.out) _⟩, ⟨blk_new _ _⟩, ⟨below_alloc ((below_alloc HB.out _).trans (HBc.out.mono (below_alloc HB.out _).size)) _⟩⟩
                    case rest =>
                      clear HB H5 H6 H7 H9 H11 H13 H15
                      obtain ⟨g17, rfl, rfl, H5, H6, H7, H9, H11, H13, H15, H17, HB⟩ := hcut
                      go_upto_region 13 with fail
                      go_cut [19, 20] from 84 to 89 (fun v19 v20 wx => ∃ g19 : Nat, v19 = .pointer (some ⟨g19, 0, none⟩) ∧ v20 = .int .i64 0 ∧ Aside0 (laws_FnDivide.V g5 1 a (⟨#[]⟩ : ByteArray) wx) ∧ Aside0 (laws_FnDivide.V g6 1 b (⟨#[]⟩ : ByteArray) wx) ∧ Aside0 (laws_FnDivide.V g7 p1 p2 p3 wx) ∧ Aside0 (laws_FnDivide.V g9 1 a (⟨#[]⟩ : ByteArray) wx) ∧ Aside0 (laws_FnDivide.V g11 r1 r2 r3 wx) ∧ Aside0 (laws_FnDivide.V g13 w1 w2 w3 wx) ∧ Aside0 (laws_FnDivide.V g15 x1 x2 x3 wx) ∧ Aside0 (laws_FnDivide.V g17 y1 y2 y3 wx) ∧ Aside0 (laws_FnDivide.V g19 q1 1 q3 wx) ∧ Aside0 (Below w.heap.size w wx))
                      case first =>
                        have x15_0 := blk_cell H15.out 0
                        have x15_1 := blk_cell H15.out 1
                        have x15_2 := blk_cell H15.out 2
                        have x17_0 := blk_cell H17.out 0
                        have x17_1 := blk_cell H17.out 1
                        have x17_2 := blk_cell H17.out 2
                        go_wp2_with (go_at_call 18; (with_reducible refine (impl_Binary.calls k (⟨#[60]⟩ : ByteArray) x1 x2 x3 y1 y2 y3 q1 1 q3 0 _ H7_.out).mono ?_); rintro e w' ⟨rfl, hb⟩; have HBc := Lib.hid hb; clear hb)
                        go_meet
                        case rel => exact ⟨_, rfl, rfl, ⟨blk_alloc (blk_below H5.out HBc.out) _⟩, ⟨blk_alloc (blk_below H6.out HBc.out) _⟩, ⟨blk_alloc (blk_below H7.out HBc.out) _⟩, ⟨blk_alloc (blk_below H9.out HBc.out) _⟩, ⟨blk_alloc (blk_below H11.out HBc.out) _⟩, ⟨blk_alloc (blk_below H13.out HBc.out) _⟩, ⟨blk_alloc (blk_below H15.out HBc.out) _⟩, ⟨blk_alloc (blk_below H17.out HBc.out) _⟩, ⟨blk_new _ _⟩, ⟨below_alloc (HB.out.trans (HBc.out.mono HB.out.size)) _⟩⟩
                      case rest =>
                        clear HB H5 H6 H7 H9 H11 H13 H15 H17
                        obtain ⟨g19, rfl, rfl, H5, H6, H7, H9, H11, H13, H15, H17, H19, HB⟩ := hcut
                        go_upto_region 14 with fail
                        go_cut [21, 22] from 90 to 95 (fun v21 v22 wx => ∃ g21 : Nat, v21 = .pointer (some ⟨g21, 0, none⟩) ∧ v22 = .int .i64 4 ∧ Aside0 (laws_FnDivide.V g5 1 a (⟨#[]⟩ : ByteArray) wx) ∧ Aside0 (laws_FnDivide.V g6 1 b (⟨#[]⟩ : ByteArray) wx) ∧ Aside0 (laws_FnDivide.V g7 p1 p2 p3 wx) ∧ Aside0 (laws_FnDivide.V g9 1 a (⟨#[]⟩ : ByteArray) wx) ∧ Aside0 (laws_FnDivide.V g11 r1 r2 r3 wx) ∧ Aside0 (laws_FnDivide.V g13 w1 w2 w3 wx) ∧ Aside0 (laws_FnDivide.V g15 x1 x2 x3 wx) ∧ Aside0 (laws_FnDivide.V g17 y1 y2 y3 wx) ∧ Aside0 (laws_FnDivide.V g19 q1 1 q3 wx) ∧ Aside0 (laws_FnDivide.V g21 z1 z2 z3 wx) ∧ Aside0 (Below w.heap.size w wx))
                        case first =>
                          have x5_0 := blk_cell H5.out 0
                          have x5_1 := blk_cell H5.out 1
                          have x5_2 := blk_cell H5.out 2
                          go_wp2_with (go_at_call 18; (with_reducible refine (impl_Binary.calls k (⟨#[47]⟩ : ByteArray) 1 a (⟨#[]⟩ : ByteArray) 1 0 (⟨#[]⟩ : ByteArray) z1 z2 z3 4 _ H8_.out).mono ?_); rintro e w' ⟨rfl, hb⟩; have HBc := Lib.hid hb; clear hb)
                          go_meet
                          case rel => exact ⟨_, rfl, rfl, ⟨blk_alloc (blk_below H5.out HBc.out) _⟩, ⟨blk_alloc (blk_below H6.out HBc.out) _⟩, ⟨blk_alloc (blk_below H7.out HBc.out) _⟩, ⟨blk_alloc (blk_below H9.out HBc.out) _⟩, ⟨blk_alloc (blk_below H11.out HBc.out) _⟩, ⟨blk_alloc (blk_below H13.out HBc.out) _⟩, ⟨blk_alloc (blk_below H15.out HBc.out) _⟩, ⟨blk_alloc (blk_below H17.out HBc.out) _⟩, ⟨blk_alloc (blk_below H19.out HBc.out) _⟩, ⟨blk_new _ _⟩, ⟨below_alloc (HB.out.trans (HBc.out.mono HB.out.size)) _⟩⟩
                        case rest =>
                          clear HB H5 H6 H7 H9 H11 H13 H15 H17 H19
                          obtain ⟨g21, rfl, rfl, H5, H6, H7, H9, H11, H13, H15, H17, H19, H21, HB⟩ := hcut
                          have x5_0 := blk_cell H5.out 0
                          have x5_1 := blk_cell H5.out 1
                          have x5_2 := blk_cell H5.out 2
                          have x9_0 := blk_cell H9.out 0
                          have x9_1 := blk_cell H9.out 1
                          have x9_2 := blk_cell H9.out 2
                          have x11_0 := blk_cell H11.out 0
                          have x11_1 := blk_cell H11.out 1
                          have x11_2 := blk_cell H11.out 2
                          have x19_0 := blk_cell H19.out 0
                          have x19_1 := blk_cell H19.out 1
                          have x19_2 := blk_cell H19.out 2
                          have q1 : (r2 != 0) = true := bne_iff_ne.2 HRN.out
                          go_wp2_with fail
                          go_ret
                          exact ⟨rfl, HB.out⟩
set_option maxHeartbeats 2000000 in
set_option maxRecDepth 100000 in
theorem laws_FnDivide.long (k : Nat) (A0 : Option Addr) (c0 : Nat) (l0 : List Int) (A1 : Option Addr) (c1 : Nat) (l1 : List Int) (w : World) (hr0 : Kd.C (Kd.int .u8) w A0 l0.length l0) (hc0 : l0.length ≤ c0) (hr1 : Kd.C (Kd.int .u8) w A1 l1.length l1) (hc1 : l1.length ≤ c1) (hm : l0.length > 1048576 ∨ l1.length > 1048576) :
    Calls Tryd.prog 5 #[.slice A0 l0.length c0, .slice A1 l1.length c1] w fun e w' => e = .returned (.bool true) ∧ Below w.heap.size w w' := by
  clear hr0 hc0 hr1 hc1
  by_cases h0 : l0.length > 1048576
  · have b0 : decide (1048576 < (l0.length : Int)) = true := decide_eq_true (by omega)
    have b2 : decide (1048576 < l0.length) = true := decide_eq_true (by omega)
    clear hm h0
    go_enter Tryd.func5, Tryd.ntmps5
    go_wp2_with fail
    go_ret
    exact ⟨rfl, Below.refl _ _⟩
  · have h1 := hm.resolve_left h0
    have b0 : decide (1048576 < (l0.length : Int)) = false := decide_eq_false (by omega)
    have b2 : decide (1048576 < l0.length) = false := decide_eq_false (by omega)
    have b1 : decide (1048576 < (l1.length : Int)) = true := decide_eq_true (by omega)
    have b3 : decide (1048576 < l1.length) = true := decide_eq_true (by omega)
    clear hm h0 h1
    go_enter Tryd.func5, Tryd.ntmps5
    go_wp2_with fail
    go_ret
    exact ⟨rfl, Below.refl _ _⟩
theorem laws_FnDivide.calls (k : Nat) (A0 : Option Addr) (c0 : Nat) (l0 : List Int) (A1 : Option Addr) (c1 : Nat) (l1 : List Int) (r : Bool) (w : World) (hr0 : Kd.C (Kd.int .u8) w A0 l0.length l0) (hc0 : l0.length ≤ c0) (hr1 : Kd.C (Kd.int .u8) w A1 l1.length l1) (hc1 : l1.length ≤ c1) (hG : Aside0 (My.Tab w)) (h : laws_FnDivide.f k l0 l1 = some r) :
    Calls Tryd.prog 5 #[.slice A0 l0.length c0, .slice A1 l1.length c1] w fun e w' => e = .returned (.bool r) ∧ Below w.heap.size w w' := by
  unfold laws_FnDivide.f at h
  by_cases hm : l0.length > 1048576 ∨ l1.length > 1048576
  · rw [if_pos hm] at h
    obtain rfl := Option.some.inj h
    exact laws_FnDivide.long k A0 c0 l0 A1 c1 l1 w hr0 hc0 hr1 hc1 hm
  rw [if_neg hm] at h
  obtain ⟨x, e1, h⟩ := Option.bind_eq_some_iff.1 h
  obtain ⟨y, e2, h⟩ := Option.bind_eq_some_iff.1 h
  obtain ⟨z, e3, h⟩ := Option.bind_eq_some_iff.1 h
  generalize ea : wrap64 (x - 15000) = a at h
  generalize eb : (if z = 1 then wrap64 (-(wrap64 (1 + y))) else wrap64 (1 + y)) = b at h
  by_cases hg : laws_FnDivide.good k a b = true
  case neg => rw [if_neg hg] at h; cases h
  rw [if_pos hg] at h
  obtain rfl := Option.some.inj h
  unfold laws_FnDivide.good at hg
  cases Ep : impl_Binary.f k (⟨#[42]⟩ : ByteArray) 1 a (⟨#[]⟩ : ByteArray) 1 b (⟨#[]⟩ : ByteArray) with
  | none => simp [Ep] at hg
  | some Vp =>
  obtain ⟨P1, P2, P3, P4⟩ := Vp
  cases Eq : impl_Binary.f k (⟨#[47]⟩ : ByteArray) P1 P2 P3 1 b (⟨#[]⟩ : ByteArray) with
  | none => simp [Ep, Eq] at hg
  | some Vq =>
  obtain ⟨Q1, Q2, Q3, Q4⟩ := Vq
  cases Er : impl_Binary.f k (⟨#[37]⟩ : ByteArray) 1 a (⟨#[]⟩ : ByteArray) 1 b (⟨#[]⟩ : ByteArray) with
  | none => simp [Ep, Eq, Er] at hg
  | some Vr =>
  obtain ⟨R1, R2, R3, R4⟩ := Vr
  cases Ew : impl_Binary.f k (⟨#[47]⟩ : ByteArray) 1 a (⟨#[]⟩ : ByteArray) 1 b (⟨#[]⟩ : ByteArray) with
  | none => simp [Ep, Eq, Er, Ew] at hg
  | some Vw =>
  obtain ⟨W1, W2, W3, W4⟩ := Vw
  cases Ey : impl_Builtin.f k (⟨#[97, 98, 115]⟩ : ByteArray) [(⟨1, b, (⟨#[]⟩ : ByteArray)⟩ : S29)] with
  | none => simp [Ep, Eq, Er, Ew, Ey] at hg
  | some Vy =>
  obtain ⟨Y1, Y2, Y3, Y4⟩ := Vy
  cases Ez : impl_Binary.f k (⟨#[47]⟩ : ByteArray) 1 a (⟨#[]⟩ : ByteArray) 1 0 (⟨#[]⟩ : ByteArray) with
  | none => simp [Ep, Eq, Er, Ew, Ey, Ez] at hg
  | some Vz =>
  obtain ⟨Z1, Z2, Z3, Z4⟩ := Vz
  cases Ex : impl_Builtin.f k (⟨#[97, 98, 115]⟩ : ByteArray) [(⟨R1, R2, R3⟩ : S29)] with
  | none => simp [Ep, Eq, Er, Ew, Ey, Ez, Ex] at hg
  | some Vx =>
  obtain ⟨X1, X2, X3, X4⟩ := Vx
  cases El : impl_Binary.f k (⟨#[60]⟩ : ByteArray) X1 X2 X3 Y1 Y2 Y3 with
  | none => simp [Ep, Eq, Er, Ew, Ey, Ez, Ex, El] at hg
  | some Vl =>
  obtain ⟨L1, L2, L3, L4⟩ := Vl
  simp only [Ep, Eq, Er, Ew, Ey, Ez, Ex, El, Bool.and_eq_true, decide_eq_true_eq] at hg
  obtain ⟨⟨rfl, hq, rfl, rfl, rfl, rfl, rfl, rfl⟩, hg⟩ := hg
  obtain ⟨rfl, rfl, rfl, rfl⟩ : Q1 = 1 ∧ Q2 = a ∧ Q3 = (⟨#[]⟩ : ByteArray) ∧ Q4 = 0 := by simpa [Prod.mk.injEq] using hq
  have m0 : l0.length ≤ 1048576 := by omega
  have m1 : l1.length ≤ 1048576 := by omega
  by_cases hR : R2 = 0
  · rw [if_pos hR] at hg
    obtain ⟨hw, h9⟩ := of_decide_eq_true hg
    exact laws_FnDivide.walk_yes k A0 c0 l0 A1 c1 l1 w hr0 hc0 hr1 hc1 hG m0 m1 x y z _ b e1 e2 e3 ea eb P1 P2 R1 R2 W1 W2 W4 X1 X2 Y1 Y2 L1 Z1 Z2 P3 R3 W3 X3 Y3 L3 Z3 Ep Eq Er Ew Ex Ey El Ez hR hw h9
  · rw [if_neg hR] at hg
    exact laws_FnDivide.walk_no k A0 c0 l0 A1 c1 l1 w hr0 hc0 hr1 hc1 hG m0 m1 x y z _ b e1 e2 e3 ea eb P1 P2 R1 R2 W1 W2 W4 X1 X2 Y1 Y2 L1 Z1 Z2 P3 R3 W3 X3 Y3 L3 Z3 Ep Eq Er Ew Ex Ey El Ez hR (of_decide_eq_true hg)

end Go.Proofs.YthclofmcinknlaaDoor.QFnDivide
