/- Functions that the law uses, as Lean functions with the same answers, and the walks that show it: by this session's program, after the form of the kit's print. No condition. -/
import Derived.Test.YtlhbcgmmgofcgaaQFnExactProgramOKx0
import Derived.Test.YtlhbcgmmgofcgaaQFnExactProgramOKx1
import Derived.Test.YtlhbcgmmgofcgaaQFnExactProgramOKx7
import Derived.Test.YtlhbcgmmgofcgaaQFnExactProgramOKx8
namespace Go.Proofs.Ytlhbcgmmgofcgaa.QFnExactProgramOK
open Go.RowKit Go.Proofs.YtlhbcgmmgofcgaaW.PrintWords Go.Proofs.YtlhbcgmmgofcgaaW.PrintLast Go.Proofs.YtlhbcgmmgofcgaaW.PrintMore
attribute [local go_sem] max2_int min2_int max_two min_two max_three min_three max_four min_four   -- for this text's walks alone
open Go.Proofs.Ytlhbcgmmgofcgaa
attribute [local go_sem high] My.binOp_gtr_flip
set_option linter.unusedVariables false
set_option linter.unusedSimpArgs false

attribute [local go_sem high] eqA45
/-! ### impl_leads: function 43 -/
def impl_leads.f (k : Nat) (a0 : Int) : Option (Bool) := (slices_Contains_int_int.f k (([6, 7, 8, 9, 14] : List Int)) a0).bind fun t193 => (some t193)
theorem impl_leads.mono : ∀ a0 k, LeO (impl_leads.f k a0) (impl_leads.f (k + 1) a0) := by
  intro a0 k
  unfold impl_leads.f
  repeat' first
      | (with_reducible exact slices_Contains_int_int.mono _ _ _)
      | (with_reducible exact LeO.refl _)
      | (with_reducible exact LeO.none _)
      | (with_reducible refine LeO.ite ?_ ?_)
      | (with_reducible refine LeO.bind ?_ (fun _ => ?_))
      | exact slices_Contains_int_int.mono _ _ _
      | exact LeO.none _
      | refine LeO.ite ?_ ?_
      | refine LeO.bind ?_ (fun _ => ?_)
set_option maxHeartbeats 8000000 in
set_option maxRecDepth 100000 in
theorem impl_leads.calls (k : Nat) (a0 : Int) (r : Bool) (w : World) (h : impl_leads.f k a0 = some r) :
    Calls Try.prog 43 #[.int .i64 a0] w fun e w' => e = .returned (.bool r) ∧ Below w.heap.size w w' := by
  have HB := Aside0.mk (Below.refl w.heap.size w)
  have H : ((slices_Contains_int_int.f k (([6, 7, 8, 9, 14] : List Int)) a0).bind fun t193 => (some t193)) = some r := h
  clear h
  obtain ⟨y190, hy190⟩ : ∃ y_ : List Int, y_ = (([6, 7, 8, 9, 14] : List Int)) := ⟨_, rfl⟩
  replace H : ((slices_Contains_int_int.f k y190 a0).bind fun t193 => (some t193)) = some r := by first | (rw [hy190]; with_reducible exact H) | (have H2_ := (Option.bind_some _ _).symm.trans H; rw [hy190]; with_reducible exact H2_) | (have H2_ := (Option.bind_some _ _).symm.trans H; with_reducible exact H2_) | with_reducible exact H | (rw [hy190]; exact H) | exact H
  have Ny190 := Aside0.mk hy190
  clear hy190
  replace H := Option.bind_eq_some_iff.mp H
  obtain ⟨t193, A20, H⟩ := H
  replace H : (some t193) = some r := H
  have A2 := Aside0.mk A20
  clear A20
  obtain rfl := Option.some.inj H
  go_enter Try.func43, Try.ntmps43
  go_wp2_with (first | ((with_reducible refine gate_dst (N := 3) rfl ?_); refine Kd.R_lit (Kd.int .i64) _ 3 ?hg (N := 3) ?hd (xs := ([6, 7, 8, 9, 14] : List Int)) (inner := [.int .i64 6, .int .i64 7, .int .i64 8, .int .i64 9, .int .i64 14]) (ok := fun _ => True) (okp := fun _ => True) ?hr ?hp (fun _ hk => hk) trivial (Below.refl _ _) (Nat.le_refl _) (by simp) ?_; (case hd => rfl); (case hg => rfl); (case hr => first | (go_simp; done) | (go_simp; rfl)); (case hp => exact (Reps.one (show Kd.M (Kd.int .i64) _ _ _ 6 [.int .i64 6] from rfl) (Reps.one (show Kd.M (Kd.int .i64) _ _ _ 7 [.int .i64 7] from rfl) (Reps.one (show Kd.M (Kd.int .i64) _ _ _ 8 [.int .i64 8] from rfl) (Reps.one (show Kd.M (Kd.int .i64) _ _ _ 9 [.int .i64 9] from rfl) (Reps.one (show Kd.M (Kd.int .i64) _ _ _ 14 [.int .i64 14] from rfl) (Reps.none _ _))))))); intro v191 w3 ho4 hb hg_ hnew_; clear hg_ hnew_; (first | rw [← Ny190.out] at ho4 | (simp only [Int.reduceToNat] at ho4; rw [← Ny190.out] at ho4)); have n0_ := Aside0.mk (Kd.R_lower ho4 (below_size (by repeat (first | (with_reducible first | exact HB.out | apply below_alloc | apply pw_below_drewN | apply below_drew1) | exact HB.out)))); have n1_ := Aside0.mk (below_step (by repeat (first | (with_reducible first | exact HB.out | apply below_alloc | apply pw_below_drewN | apply below_drew1) | exact HB.out)) hb); clear HB; have HO192 := n0_; have HB := n1_; clear n0_ n1_; clear hb ho4; obtain ⟨Ao5, co5, eo5⟩ := Kd.R_slice HO192.out; subst eo5) | ((with_reducible refine gate_callee (f := 70) rfl ?_); refine goesL_ (some 5) rfl rfl Try.func70 (by kernel_rfl) rfl #[.slice Ao5 y190.length co5, .int .i64 a0] rfl (by (try simp only [List.map_toArray, List.map_cons, List.map_nil]); first | done | rfl | (simp only [List.length_drop, List.length_take]; rfl)) ?_; (with_reducible refine (slices_Contains_int_int.calls k _ _ y190 a0 t193 _ ?side1 ?side2 A2.out).mono ?_); (case side1 => repeat (first | exact (Kd.R_reads' HO192.out).2.2 | (with_reducible refine Kd.C_alloc ?_ _) | (with_reducible refine Kd.C_drewN ?_ _) | (with_reducible refine Kd.C_drew ?_))); (case side2 => exact (Kd.R_reads' HO192.out).2.1); rintro e w' ⟨rfl, ⟨nd, rfl⟩⟩; refine ⟨_, rfl, ?_⟩))
  go_ret
  exact ⟨by first | rfl | exact My.ret_isEmpty _ | (simp [errW_none, errW_some] <;> rfl) | (simp [*, errW_none, errW_some] <;> rfl), by repeat (first | (with_reducible first | exact HB.out | apply below_alloc | apply pw_below_drewN | apply below_drew1) | exact HB.out)⟩

/-! ### impl_Ins_bare: function 91 -/
theorem impl_Ins_bare.loop (l : List Int) (K : Int) (hl : l.length ≤ 9223372036854775807) : ∀ (d j k : Nat), j + d = l.length → d < k → ∃ v : Int, slices_Index_int_int.l0 k l K (l.length : Int) (j : Int) = some v ∧ decide (v ≥ 0) = (l.drop j).contains K
  | 0, j, k, hj, hk => by
    obtain ⟨k, rfl⟩ : ∃ m, k = m + 1 := ⟨k - 1, by omega⟩
    refine ⟨-1, ?_, ?_⟩
    · rw [slices_Index_int_int.l0, if_neg (by omega)]
    · rw [List.drop_eq_nil_iff.2 (by omega)]
      rfl
  | d + 1, j, k, hj, hk => by
    obtain ⟨k, rfl⟩ : ∃ m, k = m + 1 := ⟨k - 1, by omega⟩
    have hj' : j < l.length := by omega
    have e : rd l (j : Int) = l[j] := by
      unfold rd
      rw [Int.toNat_natCast, List.getD_eq_getElem?_getD, List.getElem?_eq_getElem hj']
      rfl
    have e2 : wrap64 ((j : Int) + 1) = ((j + 1 : Nat) : Int) := by unfold wrap64; omega
    obtain ⟨v, h1, h2⟩ := impl_Ins_bare.loop l K hl d (j + 1) k (by omega) (by omega)
    rw [slices_Index_int_int.l0, if_pos (by omega), if_pos (by omega), if_pos (by omega), e, e2, List.drop_eq_getElem_cons hj', List.contains_cons]
    by_cases hb : K = l[j]
    · exact ⟨(j : Int), by rw [if_pos hb], by rw [← hb]; simp⟩
    · exact ⟨v, by rw [if_neg hb]; exact h1, by rw [h2, beq_eq_false_iff_ne.2 hb, Bool.false_or]⟩
/-- Does an op lead to a place. -/
def impl_Ins_bare.lead (a : Int) : Bool := [6, 7, 8, 9, 14].contains a
theorem impl_Ins_bare.leads_is (a : Int) (k : Nat) (hk : 5 < k) : impl_leads.f k a = some (impl_Ins_bare.lead a) := by
  obtain ⟨v, h1, h2⟩ := impl_Ins_bare.loop [6, 7, 8, 9, 14] a (by decide) 5 0 k rfl hk
  unfold impl_leads.f slices_Contains_int_int.f slices_Index_int_int.f
  rw [show (0 : Int) = ((0 : Nat) : Int) from rfl, h1]
  rw [List.drop_zero] at h2
  show some (decide (v ≥ 0)) = _
  rw [h2]
  rfl
/-- An instruction with just the fields that its op has a use for. -/
def impl_Ins_bare.v (a0 a1 a2 : Int) (a3 : ByteArray) (v0 v1 : Int) (v2 : ByteArray) : Int × Int × Int × ByteArray × Int × Int × ByteArray :=
  if a0 = 1 then (a0, 0, 0, ⟨#[]⟩, v0, v1, v2)
  else if a0 = 2 ∨ a0 = 3 ∨ impl_Ins_bare.lead a0 = true then (a0, a1, 0, ⟨#[]⟩, 0, 0, ⟨#[]⟩)
  else if a0 = 4 ∨ a0 = 5 then (a0, 0, 0, a3, 0, 0, ⟨#[]⟩)
  else if a0 = 10 then (a0, a1, a2, ⟨#[]⟩, 0, 0, ⟨#[]⟩)
  else if a0 = 11 then (a0, a1, 0, a3, 0, 0, ⟨#[]⟩)
  else (a0, 0, 0, ⟨#[]⟩, 0, 0, ⟨#[]⟩)
def impl_Ins_bare.f (a0 a1 a2 : Int) (a3 : ByteArray) (v0 v1 : Int) (v2 : ByteArray) : Option (Int × Int × Int × ByteArray × Int × Int × ByteArray) := some (impl_Ins_bare.v a0 a1 a2 a3 v0 v1 v2)
theorem impl_Ins_bare.set7 {W : World} {g t : Nat} {a0 a1 a2 a3 a4 a5 a6 : Value} (h : W.heap[g]? = some (.cells #[a0, a1, a2, a3, a4, a5, a6] t (0, 0))) (b0 b1 b2 b3 b4 b5 b6 : Value) :
    (((((((W.setCell ⟨g, 0, none⟩ b0).setCell ⟨g, 1, none⟩ b1).setCell ⟨g, 2, none⟩ b2).setCell ⟨g, 3, none⟩ b3).setCell ⟨g, 4, none⟩ b4).setCell ⟨g, 5, none⟩ b5).setCell ⟨g, 6, none⟩ b6).heap[g]? = some (.cells #[b0, b1, b2, b3, b4, b5, b6] t (0, 0)) := by
  have e := blk_set (blk_set (blk_set (blk_set (blk_set (blk_set (blk_set h 0 b0) 1 b1) 2 b2) 3 b3) 4 b4) 5 b5) 6 b6
  simpa using e
theorem impl_Ins_bare.set1 {W : World} {g t : Nat} {cs ds : Array Value} (h : W.heap[g]? = some (.cells cs t (0, 0))) (j : Nat) (v : Value) (e : cs.setIfInBounds j v = ds) : (W.setCell ⟨g, j, none⟩ v).heap[g]? = some (.cells ds t (0, 0)) := by
  rw [← e]
  exact blk_set h j v
theorem impl_Ins_bare.mixed : Try.prog.follows Departure.mixedOrders = true := by kernel_rfl
set_option maxHeartbeats 4000000 in
set_option maxRecDepth 100000 in
theorem impl_Ins_bare.at1 (a1 a2 : Int) (a3 : ByteArray) (v0 v1 : Int) (v2 : ByteArray) (w : World) :
    Calls Try.prog 91 #[.agg #[.int .i64 1, .int .i64 a1, .int .i64 a2, .string a3, .int .i64 v0, .int .i64 v1, .string v2]] w fun e w' => e = .returned (.agg #[.int .i64 1, .int .i64 0, .int .i64 0, .string ⟨#[]⟩, .int .i64 v0, .int .i64 v1, .string v2]) ∧ Below w.heap.size w w' := by
  have huI := Try.underlying61
  have huV := Try.underlying45
  have hm := impl_Ins_bare.mixed
  go_enter Try.func91, Try.ntmps91
  go_upto_region 2 with fail
  obtain ⟨W, hW⟩ : ∃ W, ((w.alloc (Obj.cells #[.int .i64 1, .int .i64 a1, .int .i64 a2, .string a3, .int .i64 v0, .int .i64 v1, .string v2] 61)).alloc (Obj.cells #[.int .i64 0, .int .i64 0, .int .i64 0, .string ⟨#[]⟩, .int .i64 0, .int .i64 0, .string ⟨#[]⟩] 61)).alloc (Obj.cells #[.int .i64 1, .int .i64 0, .int .i64 0, .string ⟨#[]⟩, .int .i64 0, .int .i64 0, .string ⟨#[]⟩] 61) = W := ⟨_, rfl⟩
  have B1 : W.heap[w.heap.size]? = some (.cells #[.int .i64 1, .int .i64 a1, .int .i64 a2, .string a3, .int .i64 v0, .int .i64 v1, .string v2] 61 (0, 0)) := by rw [← hW]; exact blk_alloc (blk_alloc (Hd.at_alloc _ _ _ rfl) _) _
  have B2 : W.heap[w.heap.size + 1]? = some (.cells #[.int .i64 0, .int .i64 0, .int .i64 0, .string ⟨#[]⟩, .int .i64 0, .int .i64 0, .string ⟨#[]⟩] 61 (0, 0)) := by rw [← hW]; exact blk_alloc (Hd.at_alloc _ _ _ (by simp only [Hd.size_alloc])) _
  have B3 : W.heap[w.heap.size + 1 + 1]? = some (.cells #[.int .i64 1, .int .i64 0, .int .i64 0, .string ⟨#[]⟩, .int .i64 0, .int .i64 0, .string ⟨#[]⟩] 61 (0, 0)) := by rw [← hW]; exact Hd.at_alloc _ _ _ (by simp only [Hd.size_alloc])
  have HB : Below w.heap.size w W := by rw [← hW]; repeat (first | exact Below.refl _ _ | apply below_alloc)
  rw [hW]
  clear hW
  obtain ⟨n, hn⟩ : ∃ n, w.heap.size = n := ⟨_, rfl⟩
  rw [hn] at B1 B2 B3 ⊢
  have x0 := blk_cell B1 0
  have x1 := blk_cell B1 1
  have x2 := blk_cell B1 2
  have x3 := blk_cell B1 3
  have x4 := blk_cell B1 4
  have x5 := blk_cell B1 5
  have x6 := blk_cell B1 6
  have y0 := blk_cell B3 0
  have y1 := blk_cell B3 1
  have y2 := blk_cell B3 2
  have y3 := blk_cell B3 3
  have y4 := blk_cell B3 4
  have y5 := blk_cell B3 5
  have y6 := blk_cell B3 6
  have fz := fun j => blk_frozen B3 j
  go_upto_region 12 with fail
  obtain ⟨V, hV⟩ : ∃ V, (((W).setCell ⟨n + 1 + 1, 4, none⟩ (.int .i64 v0)).setCell ⟨n + 1 + 1, 5, none⟩ (.int .i64 v1)).setCell ⟨n + 1 + 1, 6, none⟩ (.string v2) = V := ⟨_, rfl⟩
  have D3 : V.heap[n + 1 + 1]? = some (.cells #[.int .i64 1, .int .i64 0, .int .i64 0, .string ⟨#[]⟩, .int .i64 v0, .int .i64 v1, .string v2] 61 (0, 0)) := by rw [← hV]; have e := blk_set (blk_set (blk_set B3 4 (.int .i64 v0)) 5 (.int .i64 v1)) 6 (.string v2); simpa using e
  have D2 : V.heap[n + 1]? = some (.cells #[.int .i64 0, .int .i64 0, .int .i64 0, .string ⟨#[]⟩, .int .i64 0, .int .i64 0, .string ⟨#[]⟩] 61 (0, 0)) := by rw [← hV]; exact (blk_far (blk_far (blk_far B2 (Nat.ne_of_lt (Nat.lt_succ_self _)) _) (Nat.ne_of_lt (Nat.lt_succ_self _)) _) (Nat.ne_of_lt (Nat.lt_succ_self _)) _)
  have HV : Below w.heap.size w V := by rw [← hV]; exact Below.setCell (Below.setCell (Below.setCell (HB) (by rw [hn]; exact Nat.le_add_right n 2) _) (by rw [hn]; exact Nat.le_add_right n 2) _) (by rw [hn]; exact Nat.le_add_right n 2) _
  rw [hV]
  clear hV
  clear x0 x1 x2 x3 x4 x5 x6 y0 y1 y2 y3 y4 y5 y6 fz
  have z0 := blk_cell D3 0
  have z1 := blk_cell D3 1
  have z2 := blk_cell D3 2
  have z3 := blk_cell D3 3
  have z4 := blk_cell D3 4
  have z5 := blk_cell D3 5
  have z6 := blk_cell D3 6
  have q0 := blk_cell D2 0
  have q1 := blk_cell D2 1
  have q2 := blk_cell D2 2
  have q3 := blk_cell D2 3
  have q4 := blk_cell D2 4
  have q5 := blk_cell D2 5
  have q6 := blk_cell D2 6
  have fz := fun j => blk_frozen D2 j
  go_wp2
  refine bodyPost_ret (results_cell_row rfl _ _ (n + 1) 61 #[.int .i64 1, .int .i64 0, .int .i64 0, .string ⟨#[]⟩, .int .i64 v0, .int .i64 v1, .string v2] (0, 0) _ rfl (by exact impl_Ins_bare.set7 D2 _ _ _ _ _ _ _) Try.underlying61 rfl (by kernel_rfl)) rfl ⟨rfl, ?_⟩
  repeat (with_reducible first | exact HV | refine Below.setCell ?_ (by rw [hn]; exact Nat.le_add_right n 1) _)
set_option maxHeartbeats 4000000 in
set_option maxRecDepth 100000 in
theorem impl_Ins_bare.at2 (a1 a2 : Int) (a3 : ByteArray) (v0 v1 : Int) (v2 : ByteArray) (w : World) :
    Calls Try.prog 91 #[.agg #[.int .i64 2, .int .i64 a1, .int .i64 a2, .string a3, .int .i64 v0, .int .i64 v1, .string v2]] w fun e w' => e = .returned (.agg #[.int .i64 2, .int .i64 a1, .int .i64 0, .string ⟨#[]⟩, .int .i64 0, .int .i64 0, .string ⟨#[]⟩]) ∧ Below w.heap.size w w' := by
  have huI := Try.underlying61
  have huV := Try.underlying45
  have hm := impl_Ins_bare.mixed
  go_enter Try.func91, Try.ntmps91
  go_upto_region 2 with fail
  obtain ⟨W, hW⟩ : ∃ W, ((w.alloc (Obj.cells #[.int .i64 2, .int .i64 a1, .int .i64 a2, .string a3, .int .i64 v0, .int .i64 v1, .string v2] 61)).alloc (Obj.cells #[.int .i64 0, .int .i64 0, .int .i64 0, .string ⟨#[]⟩, .int .i64 0, .int .i64 0, .string ⟨#[]⟩] 61)).alloc (Obj.cells #[.int .i64 2, .int .i64 0, .int .i64 0, .string ⟨#[]⟩, .int .i64 0, .int .i64 0, .string ⟨#[]⟩] 61) = W := ⟨_, rfl⟩
  have B1 : W.heap[w.heap.size]? = some (.cells #[.int .i64 2, .int .i64 a1, .int .i64 a2, .string a3, .int .i64 v0, .int .i64 v1, .string v2] 61 (0, 0)) := by rw [← hW]; exact blk_alloc (blk_alloc (Hd.at_alloc _ _ _ rfl) _) _
  have B2 : W.heap[w.heap.size + 1]? = some (.cells #[.int .i64 0, .int .i64 0, .int .i64 0, .string ⟨#[]⟩, .int .i64 0, .int .i64 0, .string ⟨#[]⟩] 61 (0, 0)) := by rw [← hW]; exact blk_alloc (Hd.at_alloc _ _ _ (by simp only [Hd.size_alloc])) _
  have B3 : W.heap[w.heap.size + 1 + 1]? = some (.cells #[.int .i64 2, .int .i64 0, .int .i64 0, .string ⟨#[]⟩, .int .i64 0, .int .i64 0, .string ⟨#[]⟩] 61 (0, 0)) := by rw [← hW]; exact Hd.at_alloc _ _ _ (by simp only [Hd.size_alloc])
  have HB : Below w.heap.size w W := by rw [← hW]; repeat (first | exact Below.refl _ _ | apply below_alloc)
  rw [hW]
  clear hW
  obtain ⟨n, hn⟩ : ∃ n, w.heap.size = n := ⟨_, rfl⟩
  rw [hn] at B1 B2 B3 ⊢
  have x0 := blk_cell B1 0
  have x1 := blk_cell B1 1
  have x2 := blk_cell B1 2
  have x3 := blk_cell B1 3
  have x4 := blk_cell B1 4
  have x5 := blk_cell B1 5
  have x6 := blk_cell B1 6
  have y0 := blk_cell B3 0
  have y1 := blk_cell B3 1
  have y2 := blk_cell B3 2
  have y3 := blk_cell B3 3
  have y4 := blk_cell B3 4
  have y5 := blk_cell B3 5
  have y6 := blk_cell B3 6
  have fz := fun j => blk_frozen B3 j
  go_upto_region 12 with fail
  obtain ⟨V, hV⟩ : ∃ V, (W).setCell ⟨n + 1 + 1, 1, none⟩ (.int .i64 a1) = V := ⟨_, rfl⟩
  have D3 : V.heap[n + 1 + 1]? = some (.cells #[.int .i64 2, .int .i64 a1, .int .i64 0, .string ⟨#[]⟩, .int .i64 0, .int .i64 0, .string ⟨#[]⟩] 61 (0, 0)) := by rw [← hV]; have e := blk_set B3 1 (.int .i64 a1); simpa using e
  have D2 : V.heap[n + 1]? = some (.cells #[.int .i64 0, .int .i64 0, .int .i64 0, .string ⟨#[]⟩, .int .i64 0, .int .i64 0, .string ⟨#[]⟩] 61 (0, 0)) := by rw [← hV]; exact (blk_far B2 (Nat.ne_of_lt (Nat.lt_succ_self _)) _)
  have HV : Below w.heap.size w V := by rw [← hV]; exact Below.setCell (HB) (by rw [hn]; exact Nat.le_add_right n 2) _
  rw [hV]
  clear hV
  clear x0 x1 x2 x3 x4 x5 x6 y0 y1 y2 y3 y4 y5 y6 fz
  have z0 := blk_cell D3 0
  have z1 := blk_cell D3 1
  have z2 := blk_cell D3 2
  have z3 := blk_cell D3 3
  have z4 := blk_cell D3 4
  have z5 := blk_cell D3 5
  have z6 := blk_cell D3 6
  have q0 := blk_cell D2 0
  have q1 := blk_cell D2 1
  have q2 := blk_cell D2 2
  have q3 := blk_cell D2 3
  have q4 := blk_cell D2 4
  have q5 := blk_cell D2 5
  have q6 := blk_cell D2 6
  have fz := fun j => blk_frozen D2 j
  go_wp2
  refine bodyPost_ret (results_cell_row rfl _ _ (n + 1) 61 #[.int .i64 2, .int .i64 a1, .int .i64 0, .string ⟨#[]⟩, .int .i64 0, .int .i64 0, .string ⟨#[]⟩] (0, 0) _ rfl (by exact impl_Ins_bare.set7 D2 _ _ _ _ _ _ _) Try.underlying61 rfl (by kernel_rfl)) rfl ⟨rfl, ?_⟩
  repeat (with_reducible first | exact HV | refine Below.setCell ?_ (by rw [hn]; exact Nat.le_add_right n 1) _)
set_option maxHeartbeats 4000000 in
set_option maxRecDepth 100000 in
theorem impl_Ins_bare.at3 (a1 a2 : Int) (a3 : ByteArray) (v0 v1 : Int) (v2 : ByteArray) (w : World) :
    Calls Try.prog 91 #[.agg #[.int .i64 3, .int .i64 a1, .int .i64 a2, .string a3, .int .i64 v0, .int .i64 v1, .string v2]] w fun e w' => e = .returned (.agg #[.int .i64 3, .int .i64 a1, .int .i64 0, .string ⟨#[]⟩, .int .i64 0, .int .i64 0, .string ⟨#[]⟩]) ∧ Below w.heap.size w w' := by
  have huI := Try.underlying61
  have huV := Try.underlying45
  have hm := impl_Ins_bare.mixed
  go_enter Try.func91, Try.ntmps91
  go_upto_region 2 with fail
  obtain ⟨W, hW⟩ : ∃ W, ((w.alloc (Obj.cells #[.int .i64 3, .int .i64 a1, .int .i64 a2, .string a3, .int .i64 v0, .int .i64 v1, .string v2] 61)).alloc (Obj.cells #[.int .i64 0, .int .i64 0, .int .i64 0, .string ⟨#[]⟩, .int .i64 0, .int .i64 0, .string ⟨#[]⟩] 61)).alloc (Obj.cells #[.int .i64 3, .int .i64 0, .int .i64 0, .string ⟨#[]⟩, .int .i64 0, .int .i64 0, .string ⟨#[]⟩] 61) = W := ⟨_, rfl⟩
  have B1 : W.heap[w.heap.size]? = some (.cells #[.int .i64 3, .int .i64 a1, .int .i64 a2, .string a3, .int .i64 v0, .int .i64 v1, .string v2] 61 (0, 0)) := by rw [← hW]; exact blk_alloc (blk_alloc (Hd.at_alloc _ _ _ rfl) _) _
  have B2 : W.heap[w.heap.size + 1]? = some (.cells #[.int .i64 0, .int .i64 0, .int .i64 0, .string ⟨#[]⟩, .int .i64 0, .int .i64 0, .string ⟨#[]⟩] 61 (0, 0)) := by rw [← hW]; exact blk_alloc (Hd.at_alloc _ _ _ (by simp only [Hd.size_alloc])) _
  have B3 : W.heap[w.heap.size + 1 + 1]? = some (.cells #[.int .i64 3, .int .i64 0, .int .i64 0, .string ⟨#[]⟩, .int .i64 0, .int .i64 0, .string ⟨#[]⟩] 61 (0, 0)) := by rw [← hW]; exact Hd.at_alloc _ _ _ (by simp only [Hd.size_alloc])
  have HB : Below w.heap.size w W := by rw [← hW]; repeat (first | exact Below.refl _ _ | apply below_alloc)
  rw [hW]
  clear hW
  obtain ⟨n, hn⟩ : ∃ n, w.heap.size = n := ⟨_, rfl⟩
  rw [hn] at B1 B2 B3 ⊢
  have x0 := blk_cell B1 0
  have x1 := blk_cell B1 1
  have x2 := blk_cell B1 2
  have x3 := blk_cell B1 3
  have x4 := blk_cell B1 4
  have x5 := blk_cell B1 5
  have x6 := blk_cell B1 6
  have y0 := blk_cell B3 0
  have y1 := blk_cell B3 1
  have y2 := blk_cell B3 2
  have y3 := blk_cell B3 3
  have y4 := blk_cell B3 4
  have y5 := blk_cell B3 5
  have y6 := blk_cell B3 6
  have fz := fun j => blk_frozen B3 j
  go_upto_region 12 with fail
  obtain ⟨V, hV⟩ : ∃ V, (W).setCell ⟨n + 1 + 1, 1, none⟩ (.int .i64 a1) = V := ⟨_, rfl⟩
  have D3 : V.heap[n + 1 + 1]? = some (.cells #[.int .i64 3, .int .i64 a1, .int .i64 0, .string ⟨#[]⟩, .int .i64 0, .int .i64 0, .string ⟨#[]⟩] 61 (0, 0)) := by rw [← hV]; have e := blk_set B3 1 (.int .i64 a1); simpa using e
  have D2 : V.heap[n + 1]? = some (.cells #[.int .i64 0, .int .i64 0, .int .i64 0, .string ⟨#[]⟩, .int .i64 0, .int .i64 0, .string ⟨#[]⟩] 61 (0, 0)) := by rw [← hV]; exact (blk_far B2 (Nat.ne_of_lt (Nat.lt_succ_self _)) _)
  have HV : Below w.heap.size w V := by rw [← hV]; exact Below.setCell (HB) (by rw [hn]; exact Nat.le_add_right n 2) _
  rw [hV]
  clear hV
  clear x0 x1 x2 x3 x4 x5 x6 y0 y1 y2 y3 y4 y5 y6 fz
  have z0 := blk_cell D3 0
  have z1 := blk_cell D3 1
  have z2 := blk_cell D3 2
  have z3 := blk_cell D3 3
  have z4 := blk_cell D3 4
  have z5 := blk_cell D3 5
  have z6 := blk_cell D3 6
  have q0 := blk_cell D2 0
  have q1 := blk_cell D2 1
  have q2 := blk_cell D2 2
  have q3 := blk_cell D2 3
  have q4 := blk_cell D2 4
  have q5 := blk_cell D2 5
  have q6 := blk_cell D2 6
  have fz := fun j => blk_frozen D2 j
  go_wp2
  refine bodyPost_ret (results_cell_row rfl _ _ (n + 1) 61 #[.int .i64 3, .int .i64 a1, .int .i64 0, .string ⟨#[]⟩, .int .i64 0, .int .i64 0, .string ⟨#[]⟩] (0, 0) _ rfl (by exact impl_Ins_bare.set7 D2 _ _ _ _ _ _ _) Try.underlying61 rfl (by kernel_rfl)) rfl ⟨rfl, ?_⟩
  repeat (with_reducible first | exact HV | refine Below.setCell ?_ (by rw [hn]; exact Nat.le_add_right n 1) _)
set_option maxHeartbeats 4000000 in
set_option maxRecDepth 100000 in
theorem impl_Ins_bare.lead_ (a0 : Int) (a1 a2 : Int) (a3 : ByteArray) (v0 v1 : Int) (v2 : ByteArray) (w : World) (h1 : a0 ≠ 1) (h2 : a0 ≠ 2) (h3 : a0 ≠ 3) (hl : impl_leads.f 64 a0 = some true) :
    Calls Try.prog 91 #[.agg #[.int .i64 a0, .int .i64 a1, .int .i64 a2, .string a3, .int .i64 v0, .int .i64 v1, .string v2]] w fun e w' => e = .returned (.agg #[.int .i64 a0, .int .i64 a1, .int .i64 0, .string ⟨#[]⟩, .int .i64 0, .int .i64 0, .string ⟨#[]⟩]) ∧ Below w.heap.size w w' := by
  have huI := Try.underlying61
  have huV := Try.underlying45
  have hm := impl_Ins_bare.mixed
  have e1 : (a0 == 1) = false := beq_eq_false_iff_ne.mpr h1
  have d1 : (a0 = 1) = False := eq_false h1
  have e2 : (a0 == 2) = false := beq_eq_false_iff_ne.mpr h2
  have d2 : (a0 = 2) = False := eq_false h2
  have e3 : (a0 == 3) = false := beq_eq_false_iff_ne.mpr h3
  have d3 : (a0 = 3) = False := eq_false h3
  go_enter Try.func91, Try.ntmps91
  go_upto_region 2 with fail
  obtain ⟨W, hW⟩ : ∃ W, ((w.alloc (Obj.cells #[.int .i64 a0, .int .i64 a1, .int .i64 a2, .string a3, .int .i64 v0, .int .i64 v1, .string v2] 61)).alloc (Obj.cells #[.int .i64 0, .int .i64 0, .int .i64 0, .string ⟨#[]⟩, .int .i64 0, .int .i64 0, .string ⟨#[]⟩] 61)).alloc (Obj.cells #[.int .i64 a0, .int .i64 0, .int .i64 0, .string ⟨#[]⟩, .int .i64 0, .int .i64 0, .string ⟨#[]⟩] 61) = W := ⟨_, rfl⟩
  have B1 : W.heap[w.heap.size]? = some (.cells #[.int .i64 a0, .int .i64 a1, .int .i64 a2, .string a3, .int .i64 v0, .int .i64 v1, .string v2] 61 (0, 0)) := by rw [← hW]; exact blk_alloc (blk_alloc (Hd.at_alloc _ _ _ rfl) _) _
  have B2 : W.heap[w.heap.size + 1]? = some (.cells #[.int .i64 0, .int .i64 0, .int .i64 0, .string ⟨#[]⟩, .int .i64 0, .int .i64 0, .string ⟨#[]⟩] 61 (0, 0)) := by rw [← hW]; exact blk_alloc (Hd.at_alloc _ _ _ (by simp only [Hd.size_alloc])) _
  have B3 : W.heap[w.heap.size + 1 + 1]? = some (.cells #[.int .i64 a0, .int .i64 0, .int .i64 0, .string ⟨#[]⟩, .int .i64 0, .int .i64 0, .string ⟨#[]⟩] 61 (0, 0)) := by rw [← hW]; exact Hd.at_alloc _ _ _ (by simp only [Hd.size_alloc])
  have HB : Below w.heap.size w W := by rw [← hW]; repeat (first | exact Below.refl _ _ | apply below_alloc)
  rw [hW]
  clear hW
  obtain ⟨n, hn⟩ : ∃ n, w.heap.size = n := ⟨_, rfl⟩
  rw [hn] at B1 B2 B3 ⊢
  have x0 := blk_cell B1 0
  have x1 := blk_cell B1 1
  have x2 := blk_cell B1 2
  have x3 := blk_cell B1 3
  have x4 := blk_cell B1 4
  have x5 := blk_cell B1 5
  have x6 := blk_cell B1 6
  have y0 := blk_cell B3 0
  have y1 := blk_cell B3 1
  have y2 := blk_cell B3 2
  have y3 := blk_cell B3 3
  have y4 := blk_cell B3 4
  have y5 := blk_cell B3 5
  have y6 := blk_cell B3 6
  have fz := fun j => blk_frozen B3 j
  go_upto_region 12 with (go_at_call 43; (with_reducible refine (impl_leads.calls 64 _ true _ hl).mono ?_); rintro e w7 ⟨rfl, hb⟩; have C1 := blk_below B1 hb; have C2 := blk_below B2 hb; have C3 := blk_below B3 hb; have HC := HB.trans (hb.mono HB.size); clear x0 x1 x2 x3 x4 x5 x6 y0 y1 y2 y3 y4 y5 y6 fz; have x0 := blk_cell C1 0; have x1 := blk_cell C1 1; have x2 := blk_cell C1 2; have x3 := blk_cell C1 3; have x4 := blk_cell C1 4; have x5 := blk_cell C1 5; have x6 := blk_cell C1 6; have y0 := blk_cell C3 0; have y1 := blk_cell C3 1; have y2 := blk_cell C3 2; have y3 := blk_cell C3 3; have y4 := blk_cell C3 4; have y5 := blk_cell C3 5; have y6 := blk_cell C3 6; have fz := fun j => blk_frozen C3 j)
  obtain ⟨V, hV⟩ : ∃ V, (w7).setCell ⟨n + 1 + 1, 1, none⟩ (.int .i64 a1) = V := ⟨_, rfl⟩
  have D3 : V.heap[n + 1 + 1]? = some (.cells #[.int .i64 a0, .int .i64 a1, .int .i64 0, .string ⟨#[]⟩, .int .i64 0, .int .i64 0, .string ⟨#[]⟩] 61 (0, 0)) := by rw [← hV]; have e := blk_set C3 1 (.int .i64 a1); simpa using e
  have D2 : V.heap[n + 1]? = some (.cells #[.int .i64 0, .int .i64 0, .int .i64 0, .string ⟨#[]⟩, .int .i64 0, .int .i64 0, .string ⟨#[]⟩] 61 (0, 0)) := by rw [← hV]; exact (blk_far C2 (Nat.ne_of_lt (Nat.lt_succ_self _)) _)
  have HV : Below w.heap.size w V := by rw [← hV]; exact Below.setCell (HC) (by rw [hn]; exact Nat.le_add_right n 2) _
  rw [hV]
  clear hV
  clear x0 x1 x2 x3 x4 x5 x6 y0 y1 y2 y3 y4 y5 y6 fz
  have z0 := blk_cell D3 0
  have z1 := blk_cell D3 1
  have z2 := blk_cell D3 2
  have z3 := blk_cell D3 3
  have z4 := blk_cell D3 4
  have z5 := blk_cell D3 5
  have z6 := blk_cell D3 6
  have q0 := blk_cell D2 0
  have q1 := blk_cell D2 1
  have q2 := blk_cell D2 2
  have q3 := blk_cell D2 3
  have q4 := blk_cell D2 4
  have q5 := blk_cell D2 5
  have q6 := blk_cell D2 6
  have fz := fun j => blk_frozen D2 j
  go_wp2
  refine bodyPost_ret (results_cell_row rfl _ _ (n + 1) 61 #[.int .i64 a0, .int .i64 a1, .int .i64 0, .string ⟨#[]⟩, .int .i64 0, .int .i64 0, .string ⟨#[]⟩] (0, 0) _ rfl (by exact impl_Ins_bare.set7 D2 _ _ _ _ _ _ _) Try.underlying61 rfl (by kernel_rfl)) rfl ⟨rfl, ?_⟩
  repeat (with_reducible first | exact HV | refine Below.setCell ?_ (by rw [hn]; exact Nat.le_add_right n 1) _)
set_option maxHeartbeats 4000000 in
set_option maxRecDepth 100000 in
theorem impl_Ins_bare.at4 (a1 a2 : Int) (a3 : ByteArray) (v0 v1 : Int) (v2 : ByteArray) (w : World) (hl : impl_leads.f 64 4 = some false) :
    Calls Try.prog 91 #[.agg #[.int .i64 4, .int .i64 a1, .int .i64 a2, .string a3, .int .i64 v0, .int .i64 v1, .string v2]] w fun e w' => e = .returned (.agg #[.int .i64 4, .int .i64 0, .int .i64 0, .string a3, .int .i64 0, .int .i64 0, .string ⟨#[]⟩]) ∧ Below w.heap.size w w' := by
  have huI := Try.underlying61
  have huV := Try.underlying45
  have hm := impl_Ins_bare.mixed
  go_enter Try.func91, Try.ntmps91
  go_upto_region 2 with fail
  obtain ⟨W, hW⟩ : ∃ W, ((w.alloc (Obj.cells #[.int .i64 4, .int .i64 a1, .int .i64 a2, .string a3, .int .i64 v0, .int .i64 v1, .string v2] 61)).alloc (Obj.cells #[.int .i64 0, .int .i64 0, .int .i64 0, .string ⟨#[]⟩, .int .i64 0, .int .i64 0, .string ⟨#[]⟩] 61)).alloc (Obj.cells #[.int .i64 4, .int .i64 0, .int .i64 0, .string ⟨#[]⟩, .int .i64 0, .int .i64 0, .string ⟨#[]⟩] 61) = W := ⟨_, rfl⟩
  have B1 : W.heap[w.heap.size]? = some (.cells #[.int .i64 4, .int .i64 a1, .int .i64 a2, .string a3, .int .i64 v0, .int .i64 v1, .string v2] 61 (0, 0)) := by rw [← hW]; exact blk_alloc (blk_alloc (Hd.at_alloc _ _ _ rfl) _) _
  have B2 : W.heap[w.heap.size + 1]? = some (.cells #[.int .i64 0, .int .i64 0, .int .i64 0, .string ⟨#[]⟩, .int .i64 0, .int .i64 0, .string ⟨#[]⟩] 61 (0, 0)) := by rw [← hW]; exact blk_alloc (Hd.at_alloc _ _ _ (by simp only [Hd.size_alloc])) _
  have B3 : W.heap[w.heap.size + 1 + 1]? = some (.cells #[.int .i64 4, .int .i64 0, .int .i64 0, .string ⟨#[]⟩, .int .i64 0, .int .i64 0, .string ⟨#[]⟩] 61 (0, 0)) := by rw [← hW]; exact Hd.at_alloc _ _ _ (by simp only [Hd.size_alloc])
  have HB : Below w.heap.size w W := by rw [← hW]; repeat (first | exact Below.refl _ _ | apply below_alloc)
  rw [hW]
  clear hW
  obtain ⟨n, hn⟩ : ∃ n, w.heap.size = n := ⟨_, rfl⟩
  rw [hn] at B1 B2 B3 ⊢
  have x0 := blk_cell B1 0
  have x1 := blk_cell B1 1
  have x2 := blk_cell B1 2
  have x3 := blk_cell B1 3
  have x4 := blk_cell B1 4
  have x5 := blk_cell B1 5
  have x6 := blk_cell B1 6
  have y0 := blk_cell B3 0
  have y1 := blk_cell B3 1
  have y2 := blk_cell B3 2
  have y3 := blk_cell B3 3
  have y4 := blk_cell B3 4
  have y5 := blk_cell B3 5
  have y6 := blk_cell B3 6
  have fz := fun j => blk_frozen B3 j
  go_upto_region 12 with (go_at_call 43; (with_reducible refine (impl_leads.calls 64 _ false _ hl).mono ?_); rintro e w7 ⟨rfl, hb⟩; have C1 := blk_below B1 hb; have C2 := blk_below B2 hb; have C3 := blk_below B3 hb; have HC := HB.trans (hb.mono HB.size); clear x0 x1 x2 x3 x4 x5 x6 y0 y1 y2 y3 y4 y5 y6 fz; have x0 := blk_cell C1 0; have x1 := blk_cell C1 1; have x2 := blk_cell C1 2; have x3 := blk_cell C1 3; have x4 := blk_cell C1 4; have x5 := blk_cell C1 5; have x6 := blk_cell C1 6; have y0 := blk_cell C3 0; have y1 := blk_cell C3 1; have y2 := blk_cell C3 2; have y3 := blk_cell C3 3; have y4 := blk_cell C3 4; have y5 := blk_cell C3 5; have y6 := blk_cell C3 6; have fz := fun j => blk_frozen C3 j)
  obtain ⟨V, hV⟩ : ∃ V, (w7).setCell ⟨n + 1 + 1, 3, none⟩ (.string a3) = V := ⟨_, rfl⟩
  have D3 : V.heap[n + 1 + 1]? = some (.cells #[.int .i64 4, .int .i64 0, .int .i64 0, .string a3, .int .i64 0, .int .i64 0, .string ⟨#[]⟩] 61 (0, 0)) := by rw [← hV]; have e := blk_set C3 3 (.string a3); simpa using e
  have D2 : V.heap[n + 1]? = some (.cells #[.int .i64 0, .int .i64 0, .int .i64 0, .string ⟨#[]⟩, .int .i64 0, .int .i64 0, .string ⟨#[]⟩] 61 (0, 0)) := by rw [← hV]; exact (blk_far C2 (Nat.ne_of_lt (Nat.lt_succ_self _)) _)
  have HV : Below w.heap.size w V := by rw [← hV]; exact Below.setCell (HC) (by rw [hn]; exact Nat.le_add_right n 2) _
  rw [hV]
  clear hV
  clear x0 x1 x2 x3 x4 x5 x6 y0 y1 y2 y3 y4 y5 y6 fz
  have z0 := blk_cell D3 0
  have z1 := blk_cell D3 1
  have z2 := blk_cell D3 2
  have z3 := blk_cell D3 3
  have z4 := blk_cell D3 4
  have z5 := blk_cell D3 5
  have z6 := blk_cell D3 6
  have q0 := blk_cell D2 0
  have q1 := blk_cell D2 1
  have q2 := blk_cell D2 2
  have q3 := blk_cell D2 3
  have q4 := blk_cell D2 4
  have q5 := blk_cell D2 5
  have q6 := blk_cell D2 6
  have fz := fun j => blk_frozen D2 j
  go_wp2
  refine bodyPost_ret (results_cell_row rfl _ _ (n + 1) 61 #[.int .i64 4, .int .i64 0, .int .i64 0, .string a3, .int .i64 0, .int .i64 0, .string ⟨#[]⟩] (0, 0) _ rfl (by exact impl_Ins_bare.set7 D2 _ _ _ _ _ _ _) Try.underlying61 rfl (by kernel_rfl)) rfl ⟨rfl, ?_⟩
  repeat (with_reducible first | exact HV | refine Below.setCell ?_ (by rw [hn]; exact Nat.le_add_right n 1) _)
set_option maxHeartbeats 4000000 in
set_option maxRecDepth 100000 in
theorem impl_Ins_bare.at5 (a1 a2 : Int) (a3 : ByteArray) (v0 v1 : Int) (v2 : ByteArray) (w : World) (hl : impl_leads.f 64 5 = some false) :
    Calls Try.prog 91 #[.agg #[.int .i64 5, .int .i64 a1, .int .i64 a2, .string a3, .int .i64 v0, .int .i64 v1, .string v2]] w fun e w' => e = .returned (.agg #[.int .i64 5, .int .i64 0, .int .i64 0, .string a3, .int .i64 0, .int .i64 0, .string ⟨#[]⟩]) ∧ Below w.heap.size w w' := by
  have huI := Try.underlying61
  have huV := Try.underlying45
  have hm := impl_Ins_bare.mixed
  go_enter Try.func91, Try.ntmps91
  go_upto_region 2 with fail
  obtain ⟨W, hW⟩ : ∃ W, ((w.alloc (Obj.cells #[.int .i64 5, .int .i64 a1, .int .i64 a2, .string a3, .int .i64 v0, .int .i64 v1, .string v2] 61)).alloc (Obj.cells #[.int .i64 0, .int .i64 0, .int .i64 0, .string ⟨#[]⟩, .int .i64 0, .int .i64 0, .string ⟨#[]⟩] 61)).alloc (Obj.cells #[.int .i64 5, .int .i64 0, .int .i64 0, .string ⟨#[]⟩, .int .i64 0, .int .i64 0, .string ⟨#[]⟩] 61) = W := ⟨_, rfl⟩
  have B1 : W.heap[w.heap.size]? = some (.cells #[.int .i64 5, .int .i64 a1, .int .i64 a2, .string a3, .int .i64 v0, .int .i64 v1, .string v2] 61 (0, 0)) := by rw [← hW]; exact blk_alloc (blk_alloc (Hd.at_alloc _ _ _ rfl) _) _
  have B2 : W.heap[w.heap.size + 1]? = some (.cells #[.int .i64 0, .int .i64 0, .int .i64 0, .string ⟨#[]⟩, .int .i64 0, .int .i64 0, .string ⟨#[]⟩] 61 (0, 0)) := by rw [← hW]; exact blk_alloc (Hd.at_alloc _ _ _ (by simp only [Hd.size_alloc])) _
  have B3 : W.heap[w.heap.size + 1 + 1]? = some (.cells #[.int .i64 5, .int .i64 0, .int .i64 0, .string ⟨#[]⟩, .int .i64 0, .int .i64 0, .string ⟨#[]⟩] 61 (0, 0)) := by rw [← hW]; exact Hd.at_alloc _ _ _ (by simp only [Hd.size_alloc])
  have HB : Below w.heap.size w W := by rw [← hW]; repeat (first | exact Below.refl _ _ | apply below_alloc)
  rw [hW]
  clear hW
  obtain ⟨n, hn⟩ : ∃ n, w.heap.size = n := ⟨_, rfl⟩
  rw [hn] at B1 B2 B3 ⊢
  have x0 := blk_cell B1 0
  have x1 := blk_cell B1 1
  have x2 := blk_cell B1 2
  have x3 := blk_cell B1 3
  have x4 := blk_cell B1 4
  have x5 := blk_cell B1 5
  have x6 := blk_cell B1 6
  have y0 := blk_cell B3 0
  have y1 := blk_cell B3 1
  have y2 := blk_cell B3 2
  have y3 := blk_cell B3 3
  have y4 := blk_cell B3 4
  have y5 := blk_cell B3 5
  have y6 := blk_cell B3 6
  have fz := fun j => blk_frozen B3 j
  go_upto_region 12 with (go_at_call 43; (with_reducible refine (impl_leads.calls 64 _ false _ hl).mono ?_); rintro e w7 ⟨rfl, hb⟩; have C1 := blk_below B1 hb; have C2 := blk_below B2 hb; have C3 := blk_below B3 hb; have HC := HB.trans (hb.mono HB.size); clear x0 x1 x2 x3 x4 x5 x6 y0 y1 y2 y3 y4 y5 y6 fz; have x0 := blk_cell C1 0; have x1 := blk_cell C1 1; have x2 := blk_cell C1 2; have x3 := blk_cell C1 3; have x4 := blk_cell C1 4; have x5 := blk_cell C1 5; have x6 := blk_cell C1 6; have y0 := blk_cell C3 0; have y1 := blk_cell C3 1; have y2 := blk_cell C3 2; have y3 := blk_cell C3 3; have y4 := blk_cell C3 4; have y5 := blk_cell C3 5; have y6 := blk_cell C3 6; have fz := fun j => blk_frozen C3 j)
  obtain ⟨V, hV⟩ : ∃ V, (w7).setCell ⟨n + 1 + 1, 3, none⟩ (.string a3) = V := ⟨_, rfl⟩
  have D3 : V.heap[n + 1 + 1]? = some (.cells #[.int .i64 5, .int .i64 0, .int .i64 0, .string a3, .int .i64 0, .int .i64 0, .string ⟨#[]⟩] 61 (0, 0)) := by rw [← hV]; have e := blk_set C3 3 (.string a3); simpa using e
  have D2 : V.heap[n + 1]? = some (.cells #[.int .i64 0, .int .i64 0, .int .i64 0, .string ⟨#[]⟩, .int .i64 0, .int .i64 0, .string ⟨#[]⟩] 61 (0, 0)) := by rw [← hV]; exact (blk_far C2 (Nat.ne_of_lt (Nat.lt_succ_self _)) _)
  have HV : Below w.heap.size w V := by rw [← hV]; exact Below.setCell (HC) (by rw [hn]; exact Nat.le_add_right n 2) _
  rw [hV]
  clear hV
  clear x0 x1 x2 x3 x4 x5 x6 y0 y1 y2 y3 y4 y5 y6 fz
  have z0 := blk_cell D3 0
  have z1 := blk_cell D3 1
  have z2 := blk_cell D3 2
  have z3 := blk_cell D3 3
  have z4 := blk_cell D3 4
  have z5 := blk_cell D3 5
  have z6 := blk_cell D3 6
  have q0 := blk_cell D2 0
  have q1 := blk_cell D2 1
  have q2 := blk_cell D2 2
  have q3 := blk_cell D2 3
  have q4 := blk_cell D2 4
  have q5 := blk_cell D2 5
  have q6 := blk_cell D2 6
  have fz := fun j => blk_frozen D2 j
  go_wp2
  refine bodyPost_ret (results_cell_row rfl _ _ (n + 1) 61 #[.int .i64 5, .int .i64 0, .int .i64 0, .string a3, .int .i64 0, .int .i64 0, .string ⟨#[]⟩] (0, 0) _ rfl (by exact impl_Ins_bare.set7 D2 _ _ _ _ _ _ _) Try.underlying61 rfl (by kernel_rfl)) rfl ⟨rfl, ?_⟩
  repeat (with_reducible first | exact HV | refine Below.setCell ?_ (by rw [hn]; exact Nat.le_add_right n 1) _)
set_option maxHeartbeats 4000000 in
set_option maxRecDepth 100000 in
theorem impl_Ins_bare.other (a0 : Int) (a1 a2 : Int) (a3 : ByteArray) (v0 v1 : Int) (v2 : ByteArray) (w : World) (h1 : a0 ≠ 1) (h2 : a0 ≠ 2) (h3 : a0 ≠ 3) (h4 : a0 ≠ 4) (h5 : a0 ≠ 5) (h10 : a0 ≠ 10) (h11 : a0 ≠ 11) (hl : impl_leads.f 64 a0 = some false) :
    Calls Try.prog 91 #[.agg #[.int .i64 a0, .int .i64 a1, .int .i64 a2, .string a3, .int .i64 v0, .int .i64 v1, .string v2]] w fun e w' => e = .returned (.agg #[.int .i64 a0, .int .i64 0, .int .i64 0, .string ⟨#[]⟩, .int .i64 0, .int .i64 0, .string ⟨#[]⟩]) ∧ Below w.heap.size w w' := by
  have huI := Try.underlying61
  have huV := Try.underlying45
  have hm := impl_Ins_bare.mixed
  have e1 : (a0 == 1) = false := beq_eq_false_iff_ne.mpr h1
  have d1 : (a0 = 1) = False := eq_false h1
  have e2 : (a0 == 2) = false := beq_eq_false_iff_ne.mpr h2
  have d2 : (a0 = 2) = False := eq_false h2
  have e3 : (a0 == 3) = false := beq_eq_false_iff_ne.mpr h3
  have d3 : (a0 = 3) = False := eq_false h3
  have e4 : (a0 == 4) = false := beq_eq_false_iff_ne.mpr h4
  have d4 : (a0 = 4) = False := eq_false h4
  have e5 : (a0 == 5) = false := beq_eq_false_iff_ne.mpr h5
  have d5 : (a0 = 5) = False := eq_false h5
  have e10 : (a0 == 10) = false := beq_eq_false_iff_ne.mpr h10
  have d10 : (a0 = 10) = False := eq_false h10
  have e11 : (a0 == 11) = false := beq_eq_false_iff_ne.mpr h11
  have d11 : (a0 = 11) = False := eq_false h11
  go_enter Try.func91, Try.ntmps91
  go_upto_region 2 with fail
  obtain ⟨W, hW⟩ : ∃ W, ((w.alloc (Obj.cells #[.int .i64 a0, .int .i64 a1, .int .i64 a2, .string a3, .int .i64 v0, .int .i64 v1, .string v2] 61)).alloc (Obj.cells #[.int .i64 0, .int .i64 0, .int .i64 0, .string ⟨#[]⟩, .int .i64 0, .int .i64 0, .string ⟨#[]⟩] 61)).alloc (Obj.cells #[.int .i64 a0, .int .i64 0, .int .i64 0, .string ⟨#[]⟩, .int .i64 0, .int .i64 0, .string ⟨#[]⟩] 61) = W := ⟨_, rfl⟩
  have B1 : W.heap[w.heap.size]? = some (.cells #[.int .i64 a0, .int .i64 a1, .int .i64 a2, .string a3, .int .i64 v0, .int .i64 v1, .string v2] 61 (0, 0)) := by rw [← hW]; exact blk_alloc (blk_alloc (Hd.at_alloc _ _ _ rfl) _) _
  have B2 : W.heap[w.heap.size + 1]? = some (.cells #[.int .i64 0, .int .i64 0, .int .i64 0, .string ⟨#[]⟩, .int .i64 0, .int .i64 0, .string ⟨#[]⟩] 61 (0, 0)) := by rw [← hW]; exact blk_alloc (Hd.at_alloc _ _ _ (by simp only [Hd.size_alloc])) _
  have B3 : W.heap[w.heap.size + 1 + 1]? = some (.cells #[.int .i64 a0, .int .i64 0, .int .i64 0, .string ⟨#[]⟩, .int .i64 0, .int .i64 0, .string ⟨#[]⟩] 61 (0, 0)) := by rw [← hW]; exact Hd.at_alloc _ _ _ (by simp only [Hd.size_alloc])
  have HB : Below w.heap.size w W := by rw [← hW]; repeat (first | exact Below.refl _ _ | apply below_alloc)
  rw [hW]
  clear hW
  obtain ⟨n, hn⟩ : ∃ n, w.heap.size = n := ⟨_, rfl⟩
  rw [hn] at B1 B2 B3 ⊢
  have x0 := blk_cell B1 0
  have x1 := blk_cell B1 1
  have x2 := blk_cell B1 2
  have x3 := blk_cell B1 3
  have x4 := blk_cell B1 4
  have x5 := blk_cell B1 5
  have x6 := blk_cell B1 6
  have y0 := blk_cell B3 0
  have y1 := blk_cell B3 1
  have y2 := blk_cell B3 2
  have y3 := blk_cell B3 3
  have y4 := blk_cell B3 4
  have y5 := blk_cell B3 5
  have y6 := blk_cell B3 6
  have fz := fun j => blk_frozen B3 j
  go_upto_region 12 with (go_at_call 43; (with_reducible refine (impl_leads.calls 64 _ false _ hl).mono ?_); rintro e w7 ⟨rfl, hb⟩; have C1 := blk_below B1 hb; have C2 := blk_below B2 hb; have C3 := blk_below B3 hb; have HC := HB.trans (hb.mono HB.size); clear x0 x1 x2 x3 x4 x5 x6 y0 y1 y2 y3 y4 y5 y6 fz; have x0 := blk_cell C1 0; have x1 := blk_cell C1 1; have x2 := blk_cell C1 2; have x3 := blk_cell C1 3; have x4 := blk_cell C1 4; have x5 := blk_cell C1 5; have x6 := blk_cell C1 6; have y0 := blk_cell C3 0; have y1 := blk_cell C3 1; have y2 := blk_cell C3 2; have y3 := blk_cell C3 3; have y4 := blk_cell C3 4; have y5 := blk_cell C3 5; have y6 := blk_cell C3 6; have fz := fun j => blk_frozen C3 j)
  obtain ⟨V, hV⟩ : ∃ V, w7 = V := ⟨_, rfl⟩
  have D3 : V.heap[n + 1 + 1]? = some (.cells #[.int .i64 a0, .int .i64 0, .int .i64 0, .string ⟨#[]⟩, .int .i64 0, .int .i64 0, .string ⟨#[]⟩] 61 (0, 0)) := by rw [← hV]; exact C3
  have D2 : V.heap[n + 1]? = some (.cells #[.int .i64 0, .int .i64 0, .int .i64 0, .string ⟨#[]⟩, .int .i64 0, .int .i64 0, .string ⟨#[]⟩] 61 (0, 0)) := by rw [← hV]; exact C2
  have HV : Below w.heap.size w V := by rw [← hV]; exact HC
  rw [hV]
  clear hV
  clear x0 x1 x2 x3 x4 x5 x6 y0 y1 y2 y3 y4 y5 y6 fz
  have z0 := blk_cell D3 0
  have z1 := blk_cell D3 1
  have z2 := blk_cell D3 2
  have z3 := blk_cell D3 3
  have z4 := blk_cell D3 4
  have z5 := blk_cell D3 5
  have z6 := blk_cell D3 6
  have q0 := blk_cell D2 0
  have q1 := blk_cell D2 1
  have q2 := blk_cell D2 2
  have q3 := blk_cell D2 3
  have q4 := blk_cell D2 4
  have q5 := blk_cell D2 5
  have q6 := blk_cell D2 6
  have fz := fun j => blk_frozen D2 j
  go_wp2
  refine bodyPost_ret (results_cell_row rfl _ _ (n + 1) 61 #[.int .i64 a0, .int .i64 0, .int .i64 0, .string ⟨#[]⟩, .int .i64 0, .int .i64 0, .string ⟨#[]⟩] (0, 0) _ rfl (by exact impl_Ins_bare.set7 D2 _ _ _ _ _ _ _) Try.underlying61 rfl (by kernel_rfl)) rfl ⟨rfl, ?_⟩
  repeat (with_reducible first | exact HV | refine Below.setCell ?_ (by rw [hn]; exact Nat.le_add_right n 1) _)
set_option maxHeartbeats 4000000 in
set_option maxRecDepth 100000 in
theorem impl_Ins_bare.at10 (a1 a2 : Int) (a3 : ByteArray) (v0 v1 : Int) (v2 : ByteArray) (w : World) (hl : impl_leads.f 64 10 = some false) :
    Calls Try.prog 91 #[.agg #[.int .i64 10, .int .i64 a1, .int .i64 a2, .string a3, .int .i64 v0, .int .i64 v1, .string v2]] w fun e w' => e = .returned (.agg #[.int .i64 10, .int .i64 a1, .int .i64 a2, .string ⟨#[]⟩, .int .i64 0, .int .i64 0, .string ⟨#[]⟩]) ∧ Below w.heap.size w w' := by
  have huI := Try.underlying61
  have huV := Try.underlying45
  have hm := impl_Ins_bare.mixed
  go_enter Try.func91, Try.ntmps91
  go_upto_region 2 with fail
  obtain ⟨W, hW⟩ : ∃ W, ((w.alloc (Obj.cells #[.int .i64 10, .int .i64 a1, .int .i64 a2, .string a3, .int .i64 v0, .int .i64 v1, .string v2] 61)).alloc (Obj.cells #[.int .i64 0, .int .i64 0, .int .i64 0, .string ⟨#[]⟩, .int .i64 0, .int .i64 0, .string ⟨#[]⟩] 61)).alloc (Obj.cells #[.int .i64 10, .int .i64 0, .int .i64 0, .string ⟨#[]⟩, .int .i64 0, .int .i64 0, .string ⟨#[]⟩] 61) = W := ⟨_, rfl⟩
  have B1 : W.heap[w.heap.size]? = some (.cells #[.int .i64 10, .int .i64 a1, .int .i64 a2, .string a3, .int .i64 v0, .int .i64 v1, .string v2] 61 (0, 0)) := by rw [← hW]; exact blk_alloc (blk_alloc (Hd.at_alloc _ _ _ rfl) _) _
  have B2 : W.heap[w.heap.size + 1]? = some (.cells #[.int .i64 0, .int .i64 0, .int .i64 0, .string ⟨#[]⟩, .int .i64 0, .int .i64 0, .string ⟨#[]⟩] 61 (0, 0)) := by rw [← hW]; exact blk_alloc (Hd.at_alloc _ _ _ (by simp only [Hd.size_alloc])) _
  have B3 : W.heap[w.heap.size + 1 + 1]? = some (.cells #[.int .i64 10, .int .i64 0, .int .i64 0, .string ⟨#[]⟩, .int .i64 0, .int .i64 0, .string ⟨#[]⟩] 61 (0, 0)) := by rw [← hW]; exact Hd.at_alloc _ _ _ (by simp only [Hd.size_alloc])
  have HB : Below w.heap.size w W := by rw [← hW]; repeat (first | exact Below.refl _ _ | apply below_alloc)
  rw [hW]
  clear hW
  obtain ⟨n, hn⟩ : ∃ n, w.heap.size = n := ⟨_, rfl⟩
  rw [hn] at B1 B2 B3 ⊢
  have x0 := blk_cell B1 0
  have x1 := blk_cell B1 1
  have x2 := blk_cell B1 2
  have x3 := blk_cell B1 3
  have x4 := blk_cell B1 4
  have x5 := blk_cell B1 5
  have x6 := blk_cell B1 6
  have y0 := blk_cell B3 0
  have y1 := blk_cell B3 1
  have y2 := blk_cell B3 2
  have y3 := blk_cell B3 3
  have y4 := blk_cell B3 4
  have y5 := blk_cell B3 5
  have y6 := blk_cell B3 6
  have fz := fun j => blk_frozen B3 j
  go_upto_region 9 with (go_at_call 43; (with_reducible refine (impl_leads.calls 64 _ false _ hl).mono ?_); rintro e w7 ⟨rfl, hb⟩; have C1 := blk_below B1 hb; have C2 := blk_below B2 hb; have C3 := blk_below B3 hb; have HC := HB.trans (hb.mono HB.size); clear x0 x1 x2 x3 x4 x5 x6 y0 y1 y2 y3 y4 y5 y6 fz; have x0 := blk_cell C1 0; have x1 := blk_cell C1 1; have x2 := blk_cell C1 2; have x3 := blk_cell C1 3; have x4 := blk_cell C1 4; have x5 := blk_cell C1 5; have x6 := blk_cell C1 6; have y0 := blk_cell C3 0; have y1 := blk_cell C3 1; have y2 := blk_cell C3 2; have y3 := blk_cell C3 3; have y4 := blk_cell C3 4; have y5 := blk_cell C3 5; have y6 := blk_cell C3 6; have fz := fun j => blk_frozen C3 j)
  go_region_o
  go_upto_region 12 with fail
  obtain ⟨V, hV⟩ : ∃ V, (((w7).setCell ⟨n + 1 + 1, 1, none⟩ (.int .i64 a1)).setCell ⟨n + 1 + 1, 2, none⟩ (.int .i64 a2)).drew = V := ⟨_, rfl⟩
  have D3 : V.heap[n + 1 + 1]? = some (.cells #[.int .i64 10, .int .i64 a1, .int .i64 a2, .string ⟨#[]⟩, .int .i64 0, .int .i64 0, .string ⟨#[]⟩] 61 (0, 0)) := by rw [← hV]; have e := blk_set (blk_set C3 1 (.int .i64 a1)) 2 (.int .i64 a2); refine blk_drew ?_; simpa using e
  have D2 : V.heap[n + 1]? = some (.cells #[.int .i64 0, .int .i64 0, .int .i64 0, .string ⟨#[]⟩, .int .i64 0, .int .i64 0, .string ⟨#[]⟩] 61 (0, 0)) := by rw [← hV]; exact blk_drew (blk_far (blk_far C2 (Nat.ne_of_lt (Nat.lt_succ_self _)) _) (Nat.ne_of_lt (Nat.lt_succ_self _)) _)
  have HV : Below w.heap.size w V := by rw [← hV]; exact below_drew <| Below.setCell (Below.setCell (HC) (by rw [hn]; exact Nat.le_add_right n 2) _) (by rw [hn]; exact Nat.le_add_right n 2) _
  rw [hV]
  clear hV
  clear x0 x1 x2 x3 x4 x5 x6 y0 y1 y2 y3 y4 y5 y6 fz
  have z0 := blk_cell D3 0
  have z1 := blk_cell D3 1
  have z2 := blk_cell D3 2
  have z3 := blk_cell D3 3
  have z4 := blk_cell D3 4
  have z5 := blk_cell D3 5
  have z6 := blk_cell D3 6
  have q0 := blk_cell D2 0
  have q1 := blk_cell D2 1
  have q2 := blk_cell D2 2
  have q3 := blk_cell D2 3
  have q4 := blk_cell D2 4
  have q5 := blk_cell D2 5
  have q6 := blk_cell D2 6
  have fz := fun j => blk_frozen D2 j
  go_wp2
  refine bodyPost_ret (results_cell_row rfl _ _ (n + 1) 61 #[.int .i64 10, .int .i64 a1, .int .i64 a2, .string ⟨#[]⟩, .int .i64 0, .int .i64 0, .string ⟨#[]⟩] (0, 0) _ rfl (by exact impl_Ins_bare.set7 D2 _ _ _ _ _ _ _) Try.underlying61 rfl (by kernel_rfl)) rfl ⟨rfl, ?_⟩
  repeat (with_reducible first | exact HV | refine Below.setCell ?_ (by rw [hn]; exact Nat.le_add_right n 1) _)
set_option maxHeartbeats 4000000 in
set_option maxRecDepth 100000 in
theorem impl_Ins_bare.at11 (a1 a2 : Int) (a3 : ByteArray) (v0 v1 : Int) (v2 : ByteArray) (w : World) (hl : impl_leads.f 64 11 = some false) :
    Calls Try.prog 91 #[.agg #[.int .i64 11, .int .i64 a1, .int .i64 a2, .string a3, .int .i64 v0, .int .i64 v1, .string v2]] w fun e w' => e = .returned (.agg #[.int .i64 11, .int .i64 a1, .int .i64 0, .string a3, .int .i64 0, .int .i64 0, .string ⟨#[]⟩]) ∧ Below w.heap.size w w' := by
  have huI := Try.underlying61
  have huV := Try.underlying45
  have hm := impl_Ins_bare.mixed
  go_enter Try.func91, Try.ntmps91
  go_upto_region 2 with fail
  obtain ⟨W, hW⟩ : ∃ W, ((w.alloc (Obj.cells #[.int .i64 11, .int .i64 a1, .int .i64 a2, .string a3, .int .i64 v0, .int .i64 v1, .string v2] 61)).alloc (Obj.cells #[.int .i64 0, .int .i64 0, .int .i64 0, .string ⟨#[]⟩, .int .i64 0, .int .i64 0, .string ⟨#[]⟩] 61)).alloc (Obj.cells #[.int .i64 11, .int .i64 0, .int .i64 0, .string ⟨#[]⟩, .int .i64 0, .int .i64 0, .string ⟨#[]⟩] 61) = W := ⟨_, rfl⟩
  have B1 : W.heap[w.heap.size]? = some (.cells #[.int .i64 11, .int .i64 a1, .int .i64 a2, .string a3, .int .i64 v0, .int .i64 v1, .string v2] 61 (0, 0)) := by rw [← hW]; exact blk_alloc (blk_alloc (Hd.at_alloc _ _ _ rfl) _) _
  have B2 : W.heap[w.heap.size + 1]? = some (.cells #[.int .i64 0, .int .i64 0, .int .i64 0, .string ⟨#[]⟩, .int .i64 0, .int .i64 0, .string ⟨#[]⟩] 61 (0, 0)) := by rw [← hW]; exact blk_alloc (Hd.at_alloc _ _ _ (by simp only [Hd.size_alloc])) _
  have B3 : W.heap[w.heap.size + 1 + 1]? = some (.cells #[.int .i64 11, .int .i64 0, .int .i64 0, .string ⟨#[]⟩, .int .i64 0, .int .i64 0, .string ⟨#[]⟩] 61 (0, 0)) := by rw [← hW]; exact Hd.at_alloc _ _ _ (by simp only [Hd.size_alloc])
  have HB : Below w.heap.size w W := by rw [← hW]; repeat (first | exact Below.refl _ _ | apply below_alloc)
  rw [hW]
  clear hW
  obtain ⟨n, hn⟩ : ∃ n, w.heap.size = n := ⟨_, rfl⟩
  rw [hn] at B1 B2 B3 ⊢
  have x0 := blk_cell B1 0
  have x1 := blk_cell B1 1
  have x2 := blk_cell B1 2
  have x3 := blk_cell B1 3
  have x4 := blk_cell B1 4
  have x5 := blk_cell B1 5
  have x6 := blk_cell B1 6
  have y0 := blk_cell B3 0
  have y1 := blk_cell B3 1
  have y2 := blk_cell B3 2
  have y3 := blk_cell B3 3
  have y4 := blk_cell B3 4
  have y5 := blk_cell B3 5
  have y6 := blk_cell B3 6
  have fz := fun j => blk_frozen B3 j
  go_upto_region 11 with (go_at_call 43; (with_reducible refine (impl_leads.calls 64 _ false _ hl).mono ?_); rintro e w7 ⟨rfl, hb⟩; have C1 := blk_below B1 hb; have C2 := blk_below B2 hb; have C3 := blk_below B3 hb; have HC := HB.trans (hb.mono HB.size); clear x0 x1 x2 x3 x4 x5 x6 y0 y1 y2 y3 y4 y5 y6 fz; have x0 := blk_cell C1 0; have x1 := blk_cell C1 1; have x2 := blk_cell C1 2; have x3 := blk_cell C1 3; have x4 := blk_cell C1 4; have x5 := blk_cell C1 5; have x6 := blk_cell C1 6; have y0 := blk_cell C3 0; have y1 := blk_cell C3 1; have y2 := blk_cell C3 2; have y3 := blk_cell C3 3; have y4 := blk_cell C3 4; have y5 := blk_cell C3 5; have y6 := blk_cell C3 6; have fz := fun j => blk_frozen C3 j)
  go_region_o
  go_upto_region 12 with fail
  obtain ⟨V, hV⟩ : ∃ V, (((w7).setCell ⟨n + 1 + 1, 1, none⟩ (.int .i64 a1)).setCell ⟨n + 1 + 1, 3, none⟩ (.string a3)).drew = V := ⟨_, rfl⟩
  have D3 : V.heap[n + 1 + 1]? = some (.cells #[.int .i64 11, .int .i64 a1, .int .i64 0, .string a3, .int .i64 0, .int .i64 0, .string ⟨#[]⟩] 61 (0, 0)) := by rw [← hV]; have e := blk_set (blk_set C3 1 (.int .i64 a1)) 3 (.string a3); refine blk_drew ?_; simpa using e
  have D2 : V.heap[n + 1]? = some (.cells #[.int .i64 0, .int .i64 0, .int .i64 0, .string ⟨#[]⟩, .int .i64 0, .int .i64 0, .string ⟨#[]⟩] 61 (0, 0)) := by rw [← hV]; exact blk_drew (blk_far (blk_far C2 (Nat.ne_of_lt (Nat.lt_succ_self _)) _) (Nat.ne_of_lt (Nat.lt_succ_self _)) _)
  have HV : Below w.heap.size w V := by rw [← hV]; exact below_drew <| Below.setCell (Below.setCell (HC) (by rw [hn]; exact Nat.le_add_right n 2) _) (by rw [hn]; exact Nat.le_add_right n 2) _
  rw [hV]
  clear hV
  clear x0 x1 x2 x3 x4 x5 x6 y0 y1 y2 y3 y4 y5 y6 fz
  have z0 := blk_cell D3 0
  have z1 := blk_cell D3 1
  have z2 := blk_cell D3 2
  have z3 := blk_cell D3 3
  have z4 := blk_cell D3 4
  have z5 := blk_cell D3 5
  have z6 := blk_cell D3 6
  have q0 := blk_cell D2 0
  have q1 := blk_cell D2 1
  have q2 := blk_cell D2 2
  have q3 := blk_cell D2 3
  have q4 := blk_cell D2 4
  have q5 := blk_cell D2 5
  have q6 := blk_cell D2 6
  have fz := fun j => blk_frozen D2 j
  go_wp2
  refine bodyPost_ret (results_cell_row rfl _ _ (n + 1) 61 #[.int .i64 11, .int .i64 a1, .int .i64 0, .string a3, .int .i64 0, .int .i64 0, .string ⟨#[]⟩] (0, 0) _ rfl (by exact impl_Ins_bare.set7 D2 _ _ _ _ _ _ _) Try.underlying61 rfl (by kernel_rfl)) rfl ⟨rfl, ?_⟩
  repeat (with_reducible first | exact HV | refine Below.setCell ?_ (by rw [hn]; exact Nat.le_add_right n 1) _)
theorem impl_Ins_bare.calls (a0_0 a0_1 a0_2 : Int) (a0_3 : ByteArray) (a0_4 a0_5 : Int) (a0_6 : ByteArray) (r1 r2 r3 : Int) (r4 : ByteArray) (r5 r6 : Int) (r7 : ByteArray) (w : World) (h : impl_Ins_bare.f a0_0 a0_1 a0_2 a0_3 a0_4 a0_5 a0_6 = some (r1, r2, r3, r4, r5, r6, r7)) :
    Calls Try.prog 91 #[.agg #[.int .i64 a0_0, .int .i64 a0_1, .int .i64 a0_2, .string a0_3, .int .i64 a0_4, .int .i64 a0_5, .string a0_6]] w fun e w' => e = .returned (.agg #[.int .i64 r1, .int .i64 r2, .int .i64 r3, .string r4, .int .i64 r5, .int .i64 r6, .string r7]) ∧ Below w.heap.size w w' := by
  have h := Option.some.inj h
  unfold impl_Ins_bare.v at h
  have hl := impl_Ins_bare.leads_is a0_0 64 (by decide)
  by_cases e1 : a0_0 = 1
  · subst e1
    rw [if_pos rfl] at h
    cases h
    exact impl_Ins_bare.at1 a0_1 a0_2 a0_3 a0_4 a0_5 a0_6 w
  rw [if_neg e1] at h
  by_cases e2 : a0_0 = 2
  · subst e2
    rw [if_pos (.inl rfl)] at h
    cases h
    exact impl_Ins_bare.at2 a0_1 a0_2 a0_3 a0_4 a0_5 a0_6 w
  by_cases e3 : a0_0 = 3
  · subst e3
    rw [if_pos (.inr (.inl rfl))] at h
    cases h
    exact impl_Ins_bare.at3 a0_1 a0_2 a0_3 a0_4 a0_5 a0_6 w
  cases hq : impl_Ins_bare.lead a0_0 with
  | true =>
    rw [if_pos (.inr (.inr hq))] at h
    cases h
    exact impl_Ins_bare.lead_ a0_0 a0_1 a0_2 a0_3 a0_4 a0_5 a0_6 w e1 e2 e3 (by rw [hl, hq])
  | false =>
    rw [if_neg (by rintro (h | h | h); exact e2 h; exact e3 h; rw [hq] at h; cases h)] at h
    rw [hq] at hl
    by_cases e4 : a0_0 = 4
    · subst e4
      rw [if_pos (.inl rfl)] at h
      cases h
      exact impl_Ins_bare.at4 a0_1 a0_2 a0_3 a0_4 a0_5 a0_6 w hl
    by_cases e5 : a0_0 = 5
    · subst e5
      rw [if_pos (.inr rfl)] at h
      cases h
      exact impl_Ins_bare.at5 a0_1 a0_2 a0_3 a0_4 a0_5 a0_6 w hl
    rw [if_neg (by rintro (h | h); exact e4 h; exact e5 h)] at h
    by_cases e10 : a0_0 = 10
    · subst e10
      rw [if_pos rfl] at h
      cases h
      exact impl_Ins_bare.at10 a0_1 a0_2 a0_3 a0_4 a0_5 a0_6 w hl
    rw [if_neg e10] at h
    by_cases e11 : a0_0 = 11
    · subst e11
      rw [if_pos rfl] at h
      cases h
      exact impl_Ins_bare.at11 a0_1 a0_2 a0_3 a0_4 a0_5 a0_6 w hl
    rw [if_neg e11] at h
    cases h
    exact impl_Ins_bare.other a0_0 a0_1 a0_2 a0_3 a0_4 a0_5 a0_6 w e1 e2 e3 e4 e5 e10 e11 hl

/-! ### impl_ValueOK: function 92 -/
def impl_ValueOK.f (a0_0 : Int) (a0_1 : Int) (a0_2 : ByteArray) : Option (Bool) := if a0_0 = 0 then (some (a0_0 == 0 && (a0_1 == 0 && (a0_2.toList == ([] : List UInt8))))) else (if a0_0 = 1 then ((impl_within.f a0_1 (-2147483648) 2147483647).bind fun t195 => (if t195 = true then (some (a0_2.toList == ([] : List UInt8))) else (some false))) else (if a0_0 = 2 then ((impl_within.f a0_1 0 1).bind fun t196 => (if t196 = true then (some (a0_2.toList == ([] : List UInt8))) else (some false))) else (if a0_0 = 3 then (if a0_1 = 0 then (some (decide ((a0_2.size : Int) ≤ 60))) else (some false)) else (some false))))
set_option maxHeartbeats 8000000 in
set_option maxRecDepth 100000 in
theorem impl_ValueOK.calls (a0_0 : Int) (a0_1 : Int) (a0_2 : ByteArray) (r : Bool) (w : World) (h : impl_ValueOK.f a0_0 a0_1 a0_2 = some r) :
    Calls Try.prog 92 #[.agg #[.int .i64 a0_0, .int .i64 a0_1, .string a0_2]] w fun e w' => e = .returned (.bool r) ∧ Below w.heap.size w w' := by
  have hu45 := Try.underlying45
  have HB := Aside0.mk (Below.refl w.heap.size w)
  have H : (if a0_0 = 0 then (some (a0_0 == 0 && (a0_1 == 0 && (a0_2.toList == ([] : List UInt8))))) else (if a0_0 = 1 then ((impl_within.f a0_1 (-2147483648) 2147483647).bind fun t195 => (if t195 = true then (some (a0_2.toList == ([] : List UInt8))) else (some false))) else (if a0_0 = 2 then ((impl_within.f a0_1 0 1).bind fun t196 => (if t196 = true then (some (a0_2.toList == ([] : List UInt8))) else (some false))) else (if a0_0 = 3 then (if a0_1 = 0 then (some (decide ((a0_2.size : Int) ≤ 60))) else (some false)) else (some false))))) = some r := h
  clear h
  by_cases c2 : a0_0 = 0
  · rw [if_pos c2] at H
    have c2b0 : (a0_0 == 0) = true := beq_iff_eq.mpr c2
    have c2b1 : (a0_0 != 0) = false := bne_eq_false_iff_eq.mpr c2
    clear c2
    obtain rfl := Option.some.inj H
    go_enter Try.func92, Try.ntmps92
    go_wp2_with (first | ((with_reducible refine gate_dst (N := 1) rfl ?_); (try (refine gate_guard (by rfl) ?_; dsimp only)); refine box_event ?hg (N := 1) ?hd (cs := #[.int .i64 a0_0, .int .i64 a0_1, .string a0_2]) (t := 45) ?hr ?_; (case hd => rfl); (case hg => rfl); (case hr => first | (go_simp; done) | (go_simp; rfl)); intro gb194 hg w3 hbox hb; have n0_ := Aside0.mk (below_step (by repeat (first | (with_reducible first | exact HB.out | apply below_alloc | apply pw_below_drewN | apply below_drew1) | exact HB.out)) hb); have n1_ := Aside0.mk (hbox); have n2_ := Aside0.mk ((by rw [hg]; exact (below_size (by repeat (first | (with_reducible first | exact HB.out | apply below_alloc | apply pw_below_drewN | apply below_drew1) | exact HB.out))) : w.heap.size ≤ gb194)); have n3_ := Aside0.mk ((by rw [hg]; exact (below_size (by repeat (first | (with_reducible first | exact HB.out | apply below_alloc | apply pw_below_drewN | apply below_drew1) | exact HB.out))) : w.heap.size ≤ gb194)); clear HB; have HB := n0_; have BK194 := n1_; have GW194 := n2_; have GE194 := n3_; clear n0_ n1_ n2_ n3_; clear hb hbox hg; have hcz4_0 : w3.cell? ⟨gb194, 0, none⟩ = some (.int .i64 a0_0) := (blk_cell BK194.out 0).trans rfl; have hcz4_1 : w3.cell? ⟨gb194, 1, none⟩ = some (.int .i64 a0_1) := (blk_cell BK194.out 1).trans rfl; have hcz4_2 : w3.cell? ⟨gb194, 2, none⟩ = some (.string a0_2) := (blk_cell BK194.out 2).trans rfl; have hfz4_0 := blk_frozen BK194.out 0; have hfz4_1 := blk_frozen BK194.out 1; have hfz4_2 := blk_frozen BK194.out 2))
    go_ret
    exact ⟨by first | rfl | exact My.ret_isEmpty _ | (simp [errW_none, errW_some] <;> rfl) | (simp [*, errW_none, errW_some] <;> rfl), by repeat (first | (with_reducible first | exact HB.out | apply below_alloc | apply pw_below_drewN | apply below_drew1 | refine below_set ?_ GE194.out) | exact HB.out)⟩
  · rw [if_neg c2] at H
    have c2b0 : (a0_0 == 0) = false := beq_eq_false_iff_ne.mpr c2
    have c2b1 : (a0_0 != 0) = true := bne_iff_ne.mpr c2
    by_cases c5 : a0_0 = 1
    · rw [if_pos c5] at H
      have c5b0 : (a0_0 == 1) = true := beq_iff_eq.mpr c5
      have c5b1 : (a0_0 != 1) = false := bne_eq_false_iff_eq.mpr c5
      clear c5
      replace H := Option.bind_eq_some_iff.mp H
      obtain ⟨t195, A60, H⟩ := H
      replace H : (if t195 = true then (some (a0_2.toList == ([] : List UInt8))) else (some false)) = some r := H
      have A6 := Aside0.mk A60
      clear A60
      by_cases c7 : t195 = true
      · subst c7
        have H1 : (some (a0_2.toList == ([] : List UInt8))) = some r := by rw [if_pos rfl] at H; exact H
        clear H
        have H := H1
        clear H1
        obtain rfl := Option.some.inj H
        go_enter Try.func92, Try.ntmps92
        go_wp2_with (first | ((with_reducible refine gate_dst (N := 1) rfl ?_); (try (refine gate_guard (by rfl) ?_; dsimp only)); refine box_event ?hg (N := 1) ?hd (cs := #[.int .i64 a0_0, .int .i64 a0_1, .string a0_2]) (t := 45) ?hr ?_; (case hd => rfl); (case hg => rfl); (case hr => first | (go_simp; done) | (go_simp; rfl)); intro gb194 hg w8 hbox hb; have n0_ := Aside0.mk (below_step (by repeat (first | (with_reducible first | exact HB.out | apply below_alloc | apply pw_below_drewN | apply below_drew1) | exact HB.out)) hb); have n1_ := Aside0.mk (hbox); have n2_ := Aside0.mk ((by rw [hg]; exact (below_size (by repeat (first | (with_reducible first | exact HB.out | apply below_alloc | apply pw_below_drewN | apply below_drew1) | exact HB.out))) : w.heap.size ≤ gb194)); have n3_ := Aside0.mk ((by rw [hg]; exact (below_size (by repeat (first | (with_reducible first | exact HB.out | apply below_alloc | apply pw_below_drewN | apply below_drew1) | exact HB.out))) : w.heap.size ≤ gb194)); clear HB; have HB := n0_; have BK194 := n1_; have GW194 := n2_; have GE194 := n3_; clear n0_ n1_ n2_ n3_; clear hb hbox hg; have hcz9_0 : w8.cell? ⟨gb194, 0, none⟩ = some (.int .i64 a0_0) := (blk_cell BK194.out 0).trans rfl; have hcz9_1 : w8.cell? ⟨gb194, 1, none⟩ = some (.int .i64 a0_1) := (blk_cell BK194.out 1).trans rfl; have hcz9_2 : w8.cell? ⟨gb194, 2, none⟩ = some (.string a0_2) := (blk_cell BK194.out 2).trans rfl; have hfz9_0 := blk_frozen BK194.out 0; have hfz9_1 := blk_frozen BK194.out 1; have hfz9_2 := blk_frozen BK194.out 2) | ((with_reducible refine gate_callee (f := 62) rfl ?_); refine goesL_ (some 14) rfl rfl Try.func62 (by kernel_rfl) rfl #[.int .i64 a0_1, .int .i64 (-2147483648), .int .i64 2147483647] rfl (by (try simp only [List.map_toArray, List.map_cons, List.map_nil]); first | done | rfl | (simp only [List.length_drop, List.length_take]; rfl)) ?_; (with_reducible refine (impl_within.calls a0_1 (-2147483648) 2147483647 true _ A6.out).mono ?_); rintro e w' ⟨rfl, ⟨nd, rfl⟩⟩; refine ⟨_, rfl, ?_⟩))
        go_ret
        exact ⟨by first | rfl | exact My.ret_isEmpty _ | (simp [errW_none, errW_some] <;> rfl) | (simp [*, errW_none, errW_some] <;> rfl), by repeat (first | (with_reducible first | exact HB.out | apply below_alloc | apply pw_below_drewN | apply below_drew1 | refine below_set ?_ GE194.out) | exact HB.out)⟩
      · replace c7 := Bool.eq_false_iff.mpr c7
        subst c7
        have H1 : (some false) = some r := by rw [if_neg (show ¬ (false = true) by decide)] at H; exact H
        clear H
        have H := H1
        clear H1
        obtain rfl := Option.some.inj H
        go_enter Try.func92, Try.ntmps92
        go_wp2_with (first | ((with_reducible refine gate_dst (N := 1) rfl ?_); (try (refine gate_guard (by rfl) ?_; dsimp only)); refine box_event ?hg (N := 1) ?hd (cs := #[.int .i64 a0_0, .int .i64 a0_1, .string a0_2]) (t := 45) ?hr ?_; (case hd => rfl); (case hg => rfl); (case hr => first | (go_simp; done) | (go_simp; rfl)); intro gb194 hg w10 hbox hb; have n0_ := Aside0.mk (below_step (by repeat (first | (with_reducible first | exact HB.out | apply below_alloc | apply pw_below_drewN | apply below_drew1) | exact HB.out)) hb); have n1_ := Aside0.mk (hbox); have n2_ := Aside0.mk ((by rw [hg]; exact (below_size (by repeat (first | (with_reducible first | exact HB.out | apply below_alloc | apply pw_below_drewN | apply below_drew1) | exact HB.out))) : w.heap.size ≤ gb194)); have n3_ := Aside0.mk ((by rw [hg]; exact (below_size (by repeat (first | (with_reducible first | exact HB.out | apply below_alloc | apply pw_below_drewN | apply below_drew1) | exact HB.out))) : w.heap.size ≤ gb194)); clear HB; have HB := n0_; have BK194 := n1_; have GW194 := n2_; have GE194 := n3_; clear n0_ n1_ n2_ n3_; clear hb hbox hg; have hcz11_0 : w10.cell? ⟨gb194, 0, none⟩ = some (.int .i64 a0_0) := (blk_cell BK194.out 0).trans rfl; have hcz11_1 : w10.cell? ⟨gb194, 1, none⟩ = some (.int .i64 a0_1) := (blk_cell BK194.out 1).trans rfl; have hcz11_2 : w10.cell? ⟨gb194, 2, none⟩ = some (.string a0_2) := (blk_cell BK194.out 2).trans rfl; have hfz11_0 := blk_frozen BK194.out 0; have hfz11_1 := blk_frozen BK194.out 1; have hfz11_2 := blk_frozen BK194.out 2) | ((with_reducible refine gate_callee (f := 62) rfl ?_); refine goesL_ (some 14) rfl rfl Try.func62 (by kernel_rfl) rfl #[.int .i64 a0_1, .int .i64 (-2147483648), .int .i64 2147483647] rfl (by (try simp only [List.map_toArray, List.map_cons, List.map_nil]); first | done | rfl | (simp only [List.length_drop, List.length_take]; rfl)) ?_; (with_reducible refine (impl_within.calls a0_1 (-2147483648) 2147483647 false _ A6.out).mono ?_); rintro e w' ⟨rfl, ⟨nd, rfl⟩⟩; refine ⟨_, rfl, ?_⟩))
        go_ret
        exact ⟨by first | rfl | exact My.ret_isEmpty _ | (simp [errW_none, errW_some] <;> rfl) | (simp [*, errW_none, errW_some] <;> rfl), by repeat (first | (with_reducible first | exact HB.out | apply below_alloc | apply pw_below_drewN | apply below_drew1 | refine below_set ?_ GE194.out) | exact HB.out)⟩
    · rw [if_neg c5] at H
      have c5b0 : (a0_0 == 1) = false := beq_eq_false_iff_ne.mpr c5
      have c5b1 : (a0_0 != 1) = true := bne_iff_ne.mpr c5
      by_cases c12 : a0_0 = 2
      · rw [if_pos c12] at H
        have c12b0 : (a0_0 == 2) = true := beq_iff_eq.mpr c12
        have c12b1 : (a0_0 != 2) = false := bne_eq_false_iff_eq.mpr c12
        clear c12
        replace H := Option.bind_eq_some_iff.mp H
        obtain ⟨t196, A130, H⟩ := H
        replace H : (if t196 = true then (some (a0_2.toList == ([] : List UInt8))) else (some false)) = some r := H
        have A13 := Aside0.mk A130
        clear A130
        by_cases c14 : t196 = true
        · subst c14
          have H1 : (some (a0_2.toList == ([] : List UInt8))) = some r := by rw [if_pos rfl] at H; exact H
          clear H
          have H := H1
          clear H1
          obtain rfl := Option.some.inj H
          go_enter Try.func92, Try.ntmps92
          go_wp2_with (first | ((with_reducible refine gate_dst (N := 1) rfl ?_); (try (refine gate_guard (by rfl) ?_; dsimp only)); refine box_event ?hg (N := 1) ?hd (cs := #[.int .i64 a0_0, .int .i64 a0_1, .string a0_2]) (t := 45) ?hr ?_; (case hd => rfl); (case hg => rfl); (case hr => first | (go_simp; done) | (go_simp; rfl)); intro gb194 hg w15 hbox hb; have n0_ := Aside0.mk (below_step (by repeat (first | (with_reducible first | exact HB.out | apply below_alloc | apply pw_below_drewN | apply below_drew1) | exact HB.out)) hb); have n1_ := Aside0.mk (hbox); have n2_ := Aside0.mk ((by rw [hg]; exact (below_size (by repeat (first | (with_reducible first | exact HB.out | apply below_alloc | apply pw_below_drewN | apply below_drew1) | exact HB.out))) : w.heap.size ≤ gb194)); have n3_ := Aside0.mk ((by rw [hg]; exact (below_size (by repeat (first | (with_reducible first | exact HB.out | apply below_alloc | apply pw_below_drewN | apply below_drew1) | exact HB.out))) : w.heap.size ≤ gb194)); clear HB; have HB := n0_; have BK194 := n1_; have GW194 := n2_; have GE194 := n3_; clear n0_ n1_ n2_ n3_; clear hb hbox hg; have hcz16_0 : w15.cell? ⟨gb194, 0, none⟩ = some (.int .i64 a0_0) := (blk_cell BK194.out 0).trans rfl; have hcz16_1 : w15.cell? ⟨gb194, 1, none⟩ = some (.int .i64 a0_1) := (blk_cell BK194.out 1).trans rfl; have hcz16_2 : w15.cell? ⟨gb194, 2, none⟩ = some (.string a0_2) := (blk_cell BK194.out 2).trans rfl; have hfz16_0 := blk_frozen BK194.out 0; have hfz16_1 := blk_frozen BK194.out 1; have hfz16_2 := blk_frozen BK194.out 2) | ((with_reducible refine gate_callee (f := 62) rfl ?_); refine goesL_ (some 24) rfl rfl Try.func62 (by kernel_rfl) rfl #[.int .i64 a0_1, .int .i64 0, .int .i64 1] rfl (by (try simp only [List.map_toArray, List.map_cons, List.map_nil]); first | done | rfl | (simp only [List.length_drop, List.length_take]; rfl)) ?_; (with_reducible refine (impl_within.calls a0_1 0 1 true _ A13.out).mono ?_); rintro e w' ⟨rfl, ⟨nd, rfl⟩⟩; refine ⟨_, rfl, ?_⟩))
          go_ret
          exact ⟨by first | rfl | exact My.ret_isEmpty _ | (simp [errW_none, errW_some] <;> rfl) | (simp [*, errW_none, errW_some] <;> rfl), by repeat (first | (with_reducible first | exact HB.out | apply below_alloc | apply pw_below_drewN | apply below_drew1 | refine below_set ?_ GE194.out) | exact HB.out)⟩
        · replace c14 := Bool.eq_false_iff.mpr c14
          subst c14
          have H1 : (some false) = some r := by rw [if_neg (show ¬ (false = true) by decide)] at H; exact H
          clear H
          have H := H1
          clear H1
          obtain rfl := Option.some.inj H
          go_enter Try.func92, Try.ntmps92
          go_wp2_with (first | ((with_reducible refine gate_dst (N := 1) rfl ?_); (try (refine gate_guard (by rfl) ?_; dsimp only)); refine box_event ?hg (N := 1) ?hd (cs := #[.int .i64 a0_0, .int .i64 a0_1, .string a0_2]) (t := 45) ?hr ?_; (case hd => rfl); (case hg => rfl); (case hr => first | (go_simp; done) | (go_simp; rfl)); intro gb194 hg w17 hbox hb; have n0_ := Aside0.mk (below_step (by repeat (first | (with_reducible first | exact HB.out | apply below_alloc | apply pw_below_drewN | apply below_drew1) | exact HB.out)) hb); have n1_ := Aside0.mk (hbox); have n2_ := Aside0.mk ((by rw [hg]; exact (below_size (by repeat (first | (with_reducible first | exact HB.out | apply below_alloc | apply pw_below_drewN | apply below_drew1) | exact HB.out))) : w.heap.size ≤ gb194)); have n3_ := Aside0.mk ((by rw [hg]; exact (below_size (by repeat (first | (with_reducible first | exact HB.out | apply below_alloc | apply pw_below_drewN | apply below_drew1) | exact HB.out))) : w.heap.size ≤ gb194)); clear HB; have HB := n0_; have BK194 := n1_; have GW194 := n2_; have GE194 := n3_; clear n0_ n1_ n2_ n3_; clear hb hbox hg; have hcz18_0 : w17.cell? ⟨gb194, 0, none⟩ = some (.int .i64 a0_0) := (blk_cell BK194.out 0).trans rfl; have hcz18_1 : w17.cell? ⟨gb194, 1, none⟩ = some (.int .i64 a0_1) := (blk_cell BK194.out 1).trans rfl; have hcz18_2 : w17.cell? ⟨gb194, 2, none⟩ = some (.string a0_2) := (blk_cell BK194.out 2).trans rfl; have hfz18_0 := blk_frozen BK194.out 0; have hfz18_1 := blk_frozen BK194.out 1; have hfz18_2 := blk_frozen BK194.out 2) | ((with_reducible refine gate_callee (f := 62) rfl ?_); refine goesL_ (some 24) rfl rfl Try.func62 (by kernel_rfl) rfl #[.int .i64 a0_1, .int .i64 0, .int .i64 1] rfl (by (try simp only [List.map_toArray, List.map_cons, List.map_nil]); first | done | rfl | (simp only [List.length_drop, List.length_take]; rfl)) ?_; (with_reducible refine (impl_within.calls a0_1 0 1 false _ A13.out).mono ?_); rintro e w' ⟨rfl, ⟨nd, rfl⟩⟩; refine ⟨_, rfl, ?_⟩))
          go_ret
          exact ⟨by first | rfl | exact My.ret_isEmpty _ | (simp [errW_none, errW_some] <;> rfl) | (simp [*, errW_none, errW_some] <;> rfl), by repeat (first | (with_reducible first | exact HB.out | apply below_alloc | apply pw_below_drewN | apply below_drew1 | refine below_set ?_ GE194.out) | exact HB.out)⟩
      · rw [if_neg c12] at H
        have c12b0 : (a0_0 == 2) = false := beq_eq_false_iff_ne.mpr c12
        have c12b1 : (a0_0 != 2) = true := bne_iff_ne.mpr c12
        by_cases c19 : a0_0 = 3
        · rw [if_pos c19] at H
          have c19b0 : (a0_0 == 3) = true := beq_iff_eq.mpr c19
          have c19b1 : (a0_0 != 3) = false := bne_eq_false_iff_eq.mpr c19
          clear c19
          by_cases c20 : a0_1 = 0
          · rw [if_pos c20] at H
            have c20b0 : (a0_1 == 0) = true := beq_iff_eq.mpr c20
            have c20b1 : (a0_1 != 0) = false := bne_eq_false_iff_eq.mpr c20
            clear c20
            obtain rfl := Option.some.inj H
            go_enter Try.func92, Try.ntmps92
            go_wp2_with (first | ((with_reducible refine gate_dst (N := 1) rfl ?_); (try (refine gate_guard (by rfl) ?_; dsimp only)); refine box_event ?hg (N := 1) ?hd (cs := #[.int .i64 a0_0, .int .i64 a0_1, .string a0_2]) (t := 45) ?hr ?_; (case hd => rfl); (case hg => rfl); (case hr => first | (go_simp; done) | (go_simp; rfl)); intro gb194 hg w21 hbox hb; have n0_ := Aside0.mk (below_step (by repeat (first | (with_reducible first | exact HB.out | apply below_alloc | apply pw_below_drewN | apply below_drew1) | exact HB.out)) hb); have n1_ := Aside0.mk (hbox); have n2_ := Aside0.mk ((by rw [hg]; exact (below_size (by repeat (first | (with_reducible first | exact HB.out | apply below_alloc | apply pw_below_drewN | apply below_drew1) | exact HB.out))) : w.heap.size ≤ gb194)); have n3_ := Aside0.mk ((by rw [hg]; exact (below_size (by repeat (first | (with_reducible first | exact HB.out | apply below_alloc | apply pw_below_drewN | apply below_drew1) | exact HB.out))) : w.heap.size ≤ gb194)); clear HB; have HB := n0_; have BK194 := n1_; have GW194 := n2_; have GE194 := n3_; clear n0_ n1_ n2_ n3_; clear hb hbox hg; have hcz22_0 : w21.cell? ⟨gb194, 0, none⟩ = some (.int .i64 a0_0) := (blk_cell BK194.out 0).trans rfl; have hcz22_1 : w21.cell? ⟨gb194, 1, none⟩ = some (.int .i64 a0_1) := (blk_cell BK194.out 1).trans rfl; have hcz22_2 : w21.cell? ⟨gb194, 2, none⟩ = some (.string a0_2) := (blk_cell BK194.out 2).trans rfl; have hfz22_0 := blk_frozen BK194.out 0; have hfz22_1 := blk_frozen BK194.out 1; have hfz22_2 := blk_frozen BK194.out 2))
            go_ret
            exact ⟨by first | rfl | exact My.ret_isEmpty _ | (simp [errW_none, errW_some] <;> rfl) | (simp [*, errW_none, errW_some] <;> rfl), by repeat (first | (with_reducible first | exact HB.out | apply below_alloc | apply pw_below_drewN | apply below_drew1 | refine below_set ?_ GE194.out) | exact HB.out)⟩
          · rw [if_neg c20] at H
            have c20b0 : (a0_1 == 0) = false := beq_eq_false_iff_ne.mpr c20
            have c20b1 : (a0_1 != 0) = true := bne_iff_ne.mpr c20
            obtain rfl := Option.some.inj H
            go_enter Try.func92, Try.ntmps92
            go_wp2_with (first | ((with_reducible refine gate_dst (N := 1) rfl ?_); (try (refine gate_guard (by rfl) ?_; dsimp only)); refine box_event ?hg (N := 1) ?hd (cs := #[.int .i64 a0_0, .int .i64 a0_1, .string a0_2]) (t := 45) ?hr ?_; (case hd => rfl); (case hg => rfl); (case hr => first | (go_simp; done) | (go_simp; rfl)); intro gb194 hg w23 hbox hb; have n0_ := Aside0.mk (below_step (by repeat (first | (with_reducible first | exact HB.out | apply below_alloc | apply pw_below_drewN | apply below_drew1) | exact HB.out)) hb); have n1_ := Aside0.mk (hbox); have n2_ := Aside0.mk ((by rw [hg]; exact (below_size (by repeat (first | (with_reducible first | exact HB.out | apply below_alloc | apply pw_below_drewN | apply below_drew1) | exact HB.out))) : w.heap.size ≤ gb194)); have n3_ := Aside0.mk ((by rw [hg]; exact (below_size (by repeat (first | (with_reducible first | exact HB.out | apply below_alloc | apply pw_below_drewN | apply below_drew1) | exact HB.out))) : w.heap.size ≤ gb194)); clear HB; have HB := n0_; have BK194 := n1_; have GW194 := n2_; have GE194 := n3_; clear n0_ n1_ n2_ n3_; clear hb hbox hg; have hcz24_0 : w23.cell? ⟨gb194, 0, none⟩ = some (.int .i64 a0_0) := (blk_cell BK194.out 0).trans rfl; have hcz24_1 : w23.cell? ⟨gb194, 1, none⟩ = some (.int .i64 a0_1) := (blk_cell BK194.out 1).trans rfl; have hcz24_2 : w23.cell? ⟨gb194, 2, none⟩ = some (.string a0_2) := (blk_cell BK194.out 2).trans rfl; have hfz24_0 := blk_frozen BK194.out 0; have hfz24_1 := blk_frozen BK194.out 1; have hfz24_2 := blk_frozen BK194.out 2))
            go_ret
            exact ⟨by first | rfl | exact My.ret_isEmpty _ | (simp [errW_none, errW_some] <;> rfl) | (simp [*, errW_none, errW_some] <;> rfl), by repeat (first | (with_reducible first | exact HB.out | apply below_alloc | apply pw_below_drewN | apply below_drew1 | refine below_set ?_ GE194.out) | exact HB.out)⟩
        · rw [if_neg c19] at H
          have c19b0 : (a0_0 == 3) = false := beq_eq_false_iff_ne.mpr c19
          have c19b1 : (a0_0 != 3) = true := bne_iff_ne.mpr c19
          obtain rfl := Option.some.inj H
          go_enter Try.func92, Try.ntmps92
          go_wp2_with (first | ((with_reducible refine gate_dst (N := 1) rfl ?_); (try (refine gate_guard (by rfl) ?_; dsimp only)); refine box_event ?hg (N := 1) ?hd (cs := #[.int .i64 a0_0, .int .i64 a0_1, .string a0_2]) (t := 45) ?hr ?_; (case hd => rfl); (case hg => rfl); (case hr => first | (go_simp; done) | (go_simp; rfl)); intro gb194 hg w25 hbox hb; have n0_ := Aside0.mk (below_step (by repeat (first | (with_reducible first | exact HB.out | apply below_alloc | apply pw_below_drewN | apply below_drew1) | exact HB.out)) hb); have n1_ := Aside0.mk (hbox); have n2_ := Aside0.mk ((by rw [hg]; exact (below_size (by repeat (first | (with_reducible first | exact HB.out | apply below_alloc | apply pw_below_drewN | apply below_drew1) | exact HB.out))) : w.heap.size ≤ gb194)); have n3_ := Aside0.mk ((by rw [hg]; exact (below_size (by repeat (first | (with_reducible first | exact HB.out | apply below_alloc | apply pw_below_drewN | apply below_drew1) | exact HB.out))) : w.heap.size ≤ gb194)); clear HB; have HB := n0_; have BK194 := n1_; have GW194 := n2_; have GE194 := n3_; clear n0_ n1_ n2_ n3_; clear hb hbox hg; have hcz26_0 : w25.cell? ⟨gb194, 0, none⟩ = some (.int .i64 a0_0) := (blk_cell BK194.out 0).trans rfl; have hcz26_1 : w25.cell? ⟨gb194, 1, none⟩ = some (.int .i64 a0_1) := (blk_cell BK194.out 1).trans rfl; have hcz26_2 : w25.cell? ⟨gb194, 2, none⟩ = some (.string a0_2) := (blk_cell BK194.out 2).trans rfl; have hfz26_0 := blk_frozen BK194.out 0; have hfz26_1 := blk_frozen BK194.out 1; have hfz26_2 := blk_frozen BK194.out 2))
          go_ret
          exact ⟨by first | rfl | exact My.ret_isEmpty _ | (simp [errW_none, errW_some] <;> rfl) | (simp [*, errW_none, errW_some] <;> rfl), by repeat (first | (with_reducible first | exact HB.out | apply below_alloc | apply pw_below_drewN | apply below_drew1 | refine below_set ?_ GE194.out) | exact HB.out)⟩

/-! ### impl_isUnary: function 93 -/
def impl_isUnary.f (a0 : ByteArray) : Option (Bool) := if a0.toList = ([33] : List UInt8) then (some true) else (some (a0.toList == ([45] : List UInt8)))
set_option maxHeartbeats 8000000 in
set_option maxRecDepth 100000 in
theorem impl_isUnary.calls (a0 : ByteArray) (r : Bool) (w : World) (h : impl_isUnary.f a0 = some r) :
    Calls Try.prog 93 #[.string a0] w fun e w' => e = .returned (.bool r) ∧ Drawn0 w w' := by
  have H : (if a0.toList = ([33] : List UInt8) then (some true) else (some (a0.toList == ([45] : List UInt8)))) = some r := h
  clear h
  by_cases c2 : a0.toList = ([33] : List UInt8)
  · rw [if_pos c2] at H
    have c2b0 : (a0.toList == ([33] : List UInt8)) = true := beq_iff_eq.mpr c2
    have c2b1 : (a0.toList != ([33] : List UInt8)) = false := bne_eq_false_iff_eq.mpr c2
    clear c2
    obtain rfl := Option.some.inj H
    go_enter Try.func93, Try.ntmps93
    go_wp2
    go_ret
    exact ⟨by first | rfl | (simp; done) | (simp [*]; done), by repeat (first | exact Drawn0.refl _ | apply Drawn0.step)⟩
  · rw [if_neg c2] at H
    have c2b0 : (a0.toList == ([33] : List UInt8)) = false := beq_eq_false_iff_ne.mpr c2
    have c2b1 : (a0.toList != ([33] : List UInt8)) = true := bne_iff_ne.mpr c2
    obtain rfl := Option.some.inj H
    go_enter Try.func93, Try.ntmps93
    go_wp2
    go_ret
    exact ⟨by first | rfl | (simp; done) | (simp [*]; done), by repeat (first | exact Drawn0.refl _ | apply Drawn0.step)⟩

/-! ### impl_isBinary: function 94 -/
def impl_isBinary.f (k : Nat) (a0 : ByteArray) : Option (Bool) := (slices_Contains_string_string.f k (([(⟨#[61, 61]⟩ : ByteArray), (⟨#[60]⟩ : ByteArray), (⟨#[43]⟩ : ByteArray), (⟨#[45]⟩ : ByteArray), (⟨#[42]⟩ : ByteArray), (⟨#[47]⟩ : ByteArray), (⟨#[37]⟩ : ByteArray)] : List ByteArray)) a0).bind fun t200 => (some t200)
theorem impl_isBinary.mono : ∀ a0 k, LeO (impl_isBinary.f k a0) (impl_isBinary.f (k + 1) a0) := by
  intro a0 k
  unfold impl_isBinary.f
  repeat' first
      | (with_reducible exact slices_Contains_string_string.mono _ _ _)
      | (with_reducible exact LeO.refl _)
      | (with_reducible exact LeO.none _)
      | (with_reducible refine LeO.ite ?_ ?_)
      | (with_reducible refine LeO.bind ?_ (fun _ => ?_))
      | exact slices_Contains_string_string.mono _ _ _
      | exact LeO.none _
      | refine LeO.ite ?_ ?_
      | refine LeO.bind ?_ (fun _ => ?_)
set_option maxHeartbeats 8000000 in
set_option maxRecDepth 100000 in
theorem impl_isBinary.calls (k : Nat) (a0 : ByteArray) (r : Bool) (w : World) (h : impl_isBinary.f k a0 = some r) :
    Calls Try.prog 94 #[.string a0] w fun e w' => e = .returned (.bool r) ∧ Below w.heap.size w w' := by
  have HB := Aside0.mk (Below.refl w.heap.size w)
  have H : ((slices_Contains_string_string.f k (([(⟨#[61, 61]⟩ : ByteArray), (⟨#[60]⟩ : ByteArray), (⟨#[43]⟩ : ByteArray), (⟨#[45]⟩ : ByteArray), (⟨#[42]⟩ : ByteArray), (⟨#[47]⟩ : ByteArray), (⟨#[37]⟩ : ByteArray)] : List ByteArray)) a0).bind fun t200 => (some t200)) = some r := h
  clear h
  obtain ⟨y197, hy197⟩ : ∃ y_ : List ByteArray, y_ = (([(⟨#[61, 61]⟩ : ByteArray), (⟨#[60]⟩ : ByteArray), (⟨#[43]⟩ : ByteArray), (⟨#[45]⟩ : ByteArray), (⟨#[42]⟩ : ByteArray), (⟨#[47]⟩ : ByteArray), (⟨#[37]⟩ : ByteArray)] : List ByteArray)) := ⟨_, rfl⟩
  replace H : ((slices_Contains_string_string.f k y197 a0).bind fun t200 => (some t200)) = some r := by first | (rw [hy197]; with_reducible exact H) | (have H2_ := (Option.bind_some _ _).symm.trans H; rw [hy197]; with_reducible exact H2_) | (have H2_ := (Option.bind_some _ _).symm.trans H; with_reducible exact H2_) | with_reducible exact H | (rw [hy197]; exact H) | exact H
  have Ny197 := Aside0.mk hy197
  clear hy197
  replace H := Option.bind_eq_some_iff.mp H
  obtain ⟨t200, A20, H⟩ := H
  replace H : (some t200) = some r := H
  have A2 := Aside0.mk A20
  clear A20
  obtain rfl := Option.some.inj H
  go_enter Try.func94, Try.ntmps94
  go_wp2_with (first | ((with_reducible refine gate_dst (N := 3) rfl ?_); refine Kd.R_lit Kd.string _ 9 ?hg (N := 3) ?hd (xs := ([(⟨#[61, 61]⟩ : ByteArray), (⟨#[60]⟩ : ByteArray), (⟨#[43]⟩ : ByteArray), (⟨#[45]⟩ : ByteArray), (⟨#[42]⟩ : ByteArray), (⟨#[47]⟩ : ByteArray), (⟨#[37]⟩ : ByteArray)] : List ByteArray)) (inner := [.string (⟨#[61, 61]⟩ : ByteArray), .string (⟨#[60]⟩ : ByteArray), .string (⟨#[43]⟩ : ByteArray), .string (⟨#[45]⟩ : ByteArray), .string (⟨#[42]⟩ : ByteArray), .string (⟨#[47]⟩ : ByteArray), .string (⟨#[37]⟩ : ByteArray)]) (ok := fun _ => True) (okp := fun _ => True) ?hr ?hp (fun _ hk => hk) trivial (Below.refl _ _) (Nat.le_refl _) (by simp) ?_; (case hd => rfl); (case hg => rfl); (case hr => first | (go_simp; done) | (go_simp; rfl)); (case hp => exact (Reps.one (show Kd.M Kd.string _ _ _ (⟨#[61, 61]⟩ : ByteArray) [.string (⟨#[61, 61]⟩ : ByteArray)] from rfl) (Reps.one (show Kd.M Kd.string _ _ _ (⟨#[60]⟩ : ByteArray) [.string (⟨#[60]⟩ : ByteArray)] from rfl) (Reps.one (show Kd.M Kd.string _ _ _ (⟨#[43]⟩ : ByteArray) [.string (⟨#[43]⟩ : ByteArray)] from rfl) (Reps.one (show Kd.M Kd.string _ _ _ (⟨#[45]⟩ : ByteArray) [.string (⟨#[45]⟩ : ByteArray)] from rfl) (Reps.one (show Kd.M Kd.string _ _ _ (⟨#[42]⟩ : ByteArray) [.string (⟨#[42]⟩ : ByteArray)] from rfl) (Reps.one (show Kd.M Kd.string _ _ _ (⟨#[47]⟩ : ByteArray) [.string (⟨#[47]⟩ : ByteArray)] from rfl) (Reps.one (show Kd.M Kd.string _ _ _ (⟨#[37]⟩ : ByteArray) [.string (⟨#[37]⟩ : ByteArray)] from rfl) (Reps.none _ _))))))))); intro v198 w3 ho4 hb hg_ hnew_; clear hg_ hnew_; (first | rw [← Ny197.out] at ho4 | (simp only [Int.reduceToNat] at ho4; rw [← Ny197.out] at ho4)); have n0_ := Aside0.mk (Kd.R_lower ho4 (below_size (by repeat (first | (with_reducible first | exact HB.out | apply below_alloc | apply pw_below_drewN | apply below_drew1) | exact HB.out)))); have n1_ := Aside0.mk (below_step (by repeat (first | (with_reducible first | exact HB.out | apply below_alloc | apply pw_below_drewN | apply below_drew1) | exact HB.out)) hb); clear HB; have HO199 := n0_; have HB := n1_; clear n0_ n1_; clear hb ho4; obtain ⟨Ao5, co5, eo5⟩ := Kd.R_slice HO199.out; subst eo5) | ((with_reducible refine gate_callee (f := 118) rfl ?_); refine goesL_ (some 5) rfl rfl Try.func118 (by kernel_rfl) rfl #[.slice Ao5 y197.length co5, .string a0] rfl (by (try simp only [List.map_toArray, List.map_cons, List.map_nil]); first | done | rfl | (simp only [List.length_drop, List.length_take]; rfl)) ?_; (with_reducible refine (slices_Contains_string_string.calls k _ _ y197 a0 t200 _ ?side1 ?side2 A2.out).mono ?_); (case side1 => repeat (first | exact (Kd.R_reads' HO199.out).2.2 | (with_reducible refine Kd.C_alloc ?_ _) | (with_reducible refine Kd.C_drewN ?_ _) | (with_reducible refine Kd.C_drew ?_))); (case side2 => exact (Kd.R_reads' HO199.out).2.1); rintro e w' ⟨rfl, ⟨nd, rfl⟩⟩; refine ⟨_, rfl, ?_⟩))
  go_ret
  exact ⟨by first | rfl | exact My.ret_isEmpty _ | (simp [errW_none, errW_some] <;> rfl) | (simp [*, errW_none, errW_some] <;> rfl), by repeat (first | (with_reducible first | exact HB.out | apply below_alloc | apply pw_below_drewN | apply below_drew1) | exact HB.out)⟩

end Go.Proofs.Ytlhbcgmmgofcgaa.QFnExactProgramOK
