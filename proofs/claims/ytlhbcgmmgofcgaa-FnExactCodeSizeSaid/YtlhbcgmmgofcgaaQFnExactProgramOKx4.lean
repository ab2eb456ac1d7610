/- Functions that the law uses, as Lean functions with the same answers, and the walks that show it: by this session's program, after the form of the kit's print. No condition. -/
import Derived.Test.YtlhbcgmmgofcgaaQFnExactProgramOKx0
import Derived.Test.YtlhbcgmmgofcgaaQFnExactProgramOKx1
import Derived.Test.YtlhbcgmmgofcgaaQFnExactProgramOKx2
import Derived.Test.YtlhbcgmmgofcgaaQFnExactProgramOKx3
namespace Go.Proofs.Ytlhbcgmmgofcgaa.QFnExactProgramOK
open Go.RowKit Go.Proofs.YtlhbcgmmgofcgaaW.PrintWords Go.Proofs.YtlhbcgmmgofcgaaW.PrintLast Go.Proofs.YtlhbcgmmgofcgaaW.PrintMore
attribute [local go_sem] max2_int min2_int max_two min_two max_three min_three max_four min_four   -- for this text's walks alone
open Go.Proofs.Ytlhbcgmmgofcgaa
attribute [local go_sem high] My.binOp_gtr_flip
set_option linter.unusedVariables false
set_option linter.unusedSimpArgs false

/-! ### spec_l05Ins: function 34 -/
open Hd
theorem spec_l05Ins.mixed : Try.prog.follows Departure.mixedOrders = true := by kernel_rfl
set_option maxRecDepth 100000 in
theorem spec_l05Ins.within (a b c : Int) (w : World) : Calls Try.prog 32 #[.int .i64 a, .int .i64 b, .int .i64 c] w fun e w' => e = .returned (.bool (decide (b ≤ a) && decide (a ≤ c))) ∧ w' = w := by
  cases h : decide (b ≤ a) with
  | true =>
    go_enter Try.func32, Try.ntmps32
    go_wp2_with fail
    go_ret
    exact ⟨rfl, rfl⟩
  | false =>
    go_enter Try.func32, Try.ntmps32
    go_wp2_with fail
    go_ret
    exact ⟨rfl, rfl⟩
/-- How many arguments a function of the language takes, or -1. -/
def spec_l05Ins.cnt (t : ByteArray) : Int := if t.toList = [108, 101, 110] ∨ t.toList = [115, 116, 114] ∨ t.toList = [97, 98, 115] then 1 else if t.toList = [97, 116] ∨ t.toList = [109, 97, 120] ∨ t.toList = [109, 105, 110] then 2 else if t.toList = [99, 117, 116] then 3 else -1
set_option maxHeartbeats 4000000 in
set_option maxRecDepth 100000 in
theorem spec_l05Ins.count (t : ByteArray) (w : World) : Calls Try.prog 58 #[.string t] w fun e w' => e = .returned (.int .i64 (spec_l05Ins.cnt t)) ∧ w' = w := by
  unfold spec_l05Ins.cnt
  generalize hq : t.toList = q
  by_cases c1 : q = ([108, 101, 110] : List UInt8)
  · have d1 : (t.toList == ([108, 101, 110] : List UInt8)) = true := by rw [hq]; exact beq_iff_eq.mpr c1
    rw [if_pos (.inl c1)]
    clear hq c1
    go_enter Try.func58, Try.ntmps58
    go_wp2_with fail
    go_ret
    exact ⟨rfl, rfl⟩
  have d1 : (t.toList == ([108, 101, 110] : List UInt8)) = false := by rw [hq]; exact beq_eq_false_iff_ne.mpr c1
  by_cases c2 : q = ([115, 116, 114] : List UInt8)
  · have d2 : (t.toList == ([115, 116, 114] : List UInt8)) = true := by rw [hq]; exact beq_iff_eq.mpr c2
    rw [if_pos (.inr (.inl c2))]
    clear hq c1 c2
    go_enter Try.func58, Try.ntmps58
    go_wp2_with fail
    go_ret
    exact ⟨rfl, rfl⟩
  have d2 : (t.toList == ([115, 116, 114] : List UInt8)) = false := by rw [hq]; exact beq_eq_false_iff_ne.mpr c2
  by_cases c3 : q = ([97, 98, 115] : List UInt8)
  · have d3 : (t.toList == ([97, 98, 115] : List UInt8)) = true := by rw [hq]; exact beq_iff_eq.mpr c3
    rw [if_pos (.inr (.inr c3))]
    clear hq c1 c2 c3
    go_enter Try.func58, Try.ntmps58
    go_wp2_with fail
    go_ret
    exact ⟨rfl, rfl⟩
  have d3 : (t.toList == ([97, 98, 115] : List UInt8)) = false := by rw [hq]; exact beq_eq_false_iff_ne.mpr c3
  rw [if_neg (by rintro (h | h | h); exact c1 h; exact c2 h; exact c3 h)]
  by_cases c4 : q = ([97, 116] : List UInt8)
  · have d4 : (t.toList == ([97, 116] : List UInt8)) = true := by rw [hq]; exact beq_iff_eq.mpr c4
    rw [if_pos (.inl c4)]
    clear hq c1 c2 c3 c4
    go_enter Try.func58, Try.ntmps58
    go_wp2_with fail
    go_ret
    exact ⟨rfl, rfl⟩
  have d4 : (t.toList == ([97, 116] : List UInt8)) = false := by rw [hq]; exact beq_eq_false_iff_ne.mpr c4
  by_cases c5 : q = ([109, 97, 120] : List UInt8)
  · have d5 : (t.toList == ([109, 97, 120] : List UInt8)) = true := by rw [hq]; exact beq_iff_eq.mpr c5
    rw [if_pos (.inr (.inl c5))]
    clear hq c1 c2 c3 c4 c5
    go_enter Try.func58, Try.ntmps58
    go_wp2_with fail
    go_ret
    exact ⟨rfl, rfl⟩
  have d5 : (t.toList == ([109, 97, 120] : List UInt8)) = false := by rw [hq]; exact beq_eq_false_iff_ne.mpr c5
  by_cases c6 : q = ([109, 105, 110] : List UInt8)
  · have d6 : (t.toList == ([109, 105, 110] : List UInt8)) = true := by rw [hq]; exact beq_iff_eq.mpr c6
    rw [if_pos (.inr (.inr c6))]
    clear hq c1 c2 c3 c4 c5 c6
    go_enter Try.func58, Try.ntmps58
    go_wp2_with fail
    go_ret
    exact ⟨rfl, rfl⟩
  have d6 : (t.toList == ([109, 105, 110] : List UInt8)) = false := by rw [hq]; exact beq_eq_false_iff_ne.mpr c6
  rw [if_neg (by rintro (h | h | h); exact c4 h; exact c5 h; exact c6 h)]
  by_cases c7 : q = ([99, 117, 116] : List UInt8)
  · have d7 : (t.toList == ([99, 117, 116] : List UInt8)) = true := by rw [hq]; exact beq_iff_eq.mpr c7
    rw [if_pos c7]
    clear hq c1 c2 c3 c4 c5 c6 c7
    go_enter Try.func58, Try.ntmps58
    go_wp2_with fail
    go_ret
    exact ⟨rfl, rfl⟩
  have d7 : (t.toList == ([99, 117, 116] : List UInt8)) = false := by rw [hq]; exact beq_eq_false_iff_ne.mpr c7
  rw [if_neg c7]
  clear hq c1 c2 c3 c4 c5 c6 c7
  go_enter Try.func58, Try.ntmps58
  go_wp2_with fail
  go_ret
  exact ⟨rfl, rfl⟩
/-- Has an instruction what its op has no use for. -/
def spec_l05Ins.bad (q : Bool) (i : S61) : Bool := !q || (!(i.f0 == 1) && !(i.f4.f0 == 0 && (i.f4.f1 == 0 && (i.f4.f2.toList == ([] : List UInt8)))) || (!(i.f0 == 4) && (!(i.f0 == 5) && (!(i.f0 == 11) && !(i.f3.toList == ([] : List UInt8)))) || !(i.f0 == 10) && !(i.f2 == 0)))
def spec_l05Ins.f (ps : List S57) (slots : Int) (n : Nat) (i : S61) : Option Bool :=
  (spec_ValueOK.f i.f4.f0 i.f4.f1 i.f4.f2).bind fun q =>
    if spec_l05Ins.bad q i = true then some false
    else if i.f0 = 2 ∨ i.f0 = 3 then some (decide (0 ≤ i.f1) && decide (i.f1 ≤ slots - 1))
    else if i.f0 = 4 then some (i.f1 == 0 && (i.f3.toList == ([33] : List UInt8) || i.f3.toList == ([45] : List UInt8)))
    else if i.f0 = 5 then (spec_l01Op.f i.f3).bind fun b => some (i.f1 == 0 && b)
    else if i.f0 = 6 ∨ i.f0 = 7 ∨ i.f0 = 8 ∨ i.f0 = 9 ∨ i.f0 = 14 then some (decide (0 ≤ i.f1) && decide (i.f1 ≤ (n : Int) - 1))
    else if i.f0 = 10 then some ((decide (1 ≤ i.f1) && decide (i.f1 ≤ (ps.length : Int) - 1)) && (i.f2 == (rd_T57 ps i.f1).f1))
    else if i.f0 = 11 then some (decide (0 ≤ spec_l05Ins.cnt i.f3) && (i.f1 == spec_l05Ins.cnt i.f3))
    else some (i.f1 == 0 && (decide (1 ≤ i.f0) && decide (i.f0 ≤ 16)))
set_option maxHeartbeats 16000000 in
set_option maxRecDepth 100000 in
theorem spec_l05Ins.go (ps : List S57) (A : Option Addr) (c : Nat) (nm : ByteArray) (pa slots : Int) (A3 : Option Addr) (n c3 : Nat) (i : S61) (r : Bool) (w : World)
    (hps : Kd.C k57 w A ps.length ps) (hpc : ps.length ≤ c) (hl1 : ps.length ≤ 9) (hn : n ≤ 400) (hs0 : 0 ≤ slots) (hs1 : slots ≤ 20) (h : spec_l05Ins.f ps slots n i = some r) :
    Calls Try.prog 34 #[.agg #[.slice A ps.length c], .agg #[.string nm, .int .i64 pa, .int .i64 slots, .slice A3 n c3], .agg #[.int .i64 i.f0, .int .i64 i.f1, .int .i64 i.f2, .string i.f3, .int .i64 i.f4.f0, .int .i64 i.f4.f1, .string i.f4.f2]] w fun e w' => e = .returned (.bool r) ∧ Below w.heap.size w w' := by
  have huI := Try.underlying61
  have huV := Try.underlying45
  have huF := Try.underlying57
  have huP := Try.underlying29
  have hm := spec_l05Ins.mixed
  obtain ⟨i0, i1, i2, i3, v0, v1, v2⟩ := i
  unfold spec_l05Ins.f at h
  obtain ⟨q, hq, h⟩ := Option.bind_eq_some_iff.1 h
  have HF := Aside0.mk h
  have HQ := Aside0.mk hq
  have HPS := Aside0.mk hps
  clear h hq hps
  go_enter Try.func34, Try.ntmps34
  go_upto_region 1 with fail
  obtain ⟨s, hs⟩ : ∃ s, w.heap.size = s := ⟨_, rfl⟩
  obtain ⟨W, hW⟩ : ∃ W, ((w.alloc (Obj.cells #[.slice A ps.length c] 29)).alloc (Obj.cells #[.string nm, .int .i64 pa, .int .i64 slots, .slice A3 n c3] 57)).alloc (Obj.cells #[.int .i64 i0, .int .i64 i1, .int .i64 i2, .string i3, .int .i64 v0, .int .i64 v1, .string v2] 61) = W := ⟨_, rfl⟩
  have B1 : W.heap[w.heap.size]? = some (.cells #[.slice A ps.length c] 29 (0, 0)) := by rw [← hW]; exact blk_alloc (blk_alloc (Hd.at_alloc _ _ _ rfl) _) _
  have B2 : W.heap[w.heap.size + 1]? = some (.cells #[.string nm, .int .i64 pa, .int .i64 slots, .slice A3 n c3] 57 (0, 0)) := by rw [← hW]; exact blk_alloc (Hd.at_alloc _ _ _ (by simp only [Hd.size_alloc])) _
  have B3 : W.heap[w.heap.size + 1 + 1]? = some (.cells #[.int .i64 i0, .int .i64 i1, .int .i64 i2, .string i3, .int .i64 v0, .int .i64 v1, .string v2] 61 (0, 0)) := by rw [← hW]; exact Hd.at_alloc _ _ _ (by simp only [Hd.size_alloc])
  have hB : Below w.heap.size w W := by rw [← hW]; repeat (first | exact Below.refl _ _ | apply below_alloc)
  rw [hW]
  clear hW
  rw [hs] at B1 B2 B3 ⊢
  have HB1 := Aside0.mk B1
  have HB2 := Aside0.mk B2
  have HB3 := Aside0.mk B3
  have HB := Aside0.mk hB
  clear B1 B2 B3 hB hs
  obtain ⟨bv, hbv⟩ : ∃ bv, bv = spec_l05Ins.bad q ⟨i0, i1, i2, i3, ⟨v0, v1, v2⟩⟩ := ⟨_, rfl⟩
  have HV := Aside0.mk hbv
  clear hbv
  go_cut [51] from 7 to 50 (fun t wx => t = .bool bv ∧ Aside0 (Below W.heap.size W wx))
  case first =>
    have x0 := blk_cell HB3.out 0
    have x4 := blk_cell HB3.out 4
    have x5 := blk_cell HB3.out 5
    have x6 := blk_cell HB3.out 6
    have hbx : ∀ w', Below W.heap.size W w' → w'.heap[s + 1 + 1]? = some (.cells #[.int .i64 i0, .int .i64 i1, .int .i64 i2, .string i3, .int .i64 v0, .int .i64 v1, .string v2] 61 (0, 0)) := fun w' hb => blk_below HB3.out hb
    have hc := spec_ValueOK.calls v0 v1 v2 q W HQ.out
    have e := HV.out
    unfold spec_l05Ins.bad at e
    clear HF HQ HV HPS
    obtain ⟨z, hz⟩ : ∃ z, z = (v0 == 0 && (v1 == 0 && (v2.toList == ([] : List UInt8)))) := ⟨_, rfl⟩
    have heq : ∀ (d : Nat) (w : World), (Op.equalIn (d + 2) 45 (.agg #[.int .i64 v0, .int .i64 v1, .string v2]) (.agg #[.int .i64 0, .int .i64 0, .string ⟨#[]⟩])).run Try.prog w = .ok z w := fun d w => by
      rw [hz]
      have h3 := eqA45 d w v0 0 v1 0 v2 ⟨#[]⟩
      rw [show (⟨#[]⟩ : ByteArray).toList = [] by rw [ByteArray.toList_eq]] at h3
      exact h3
    simp only at e
    rw [← hz] at e
    clear hz
    cases q with
    | false =>
      obtain rfl : bv = true := by rw [e]; first | rfl | (simp [*]; done)
      clear e
      go_wp2_with (go_at_call 56; (with_reducible refine hc.mono ?_); rintro e_ w' ⟨rfl, hb⟩; have y0 := blk_cell (hbx _ hb) 0; have y2 := blk_cell (hbx _ hb) 2; have y3 := blk_cell (hbx _ hb) 3; have y4 := blk_cell (hbx _ hb) 4; have y5 := blk_cell (hbx _ hb) 5; have y6 := blk_cell (hbx _ hb) 6; have HB7 := Aside0.mk hb; clear hb)
      go_meet
      exact ⟨rfl, HB7⟩
    | true =>
      by_cases c1 : i0 = 1
      · subst c1
        cases te : (i3.toList == ([] : List UInt8)) with
        | true =>
          have te2 : (i3.toList != ([] : List UInt8)) = false := by unfold bne; rw [te]; rfl
          by_cases m0 : i2 = 0
          · have m1 : (i2 == 0) = true := beq_iff_eq.mpr m0
            have m2 : (i2 != 0) = false := bne_eq_false_iff_eq.mpr m0
            clear m0
            obtain rfl : bv = false := by rw [e]; first | rfl | (simp [*]; done)
            clear e
            go_wp2_with (go_at_call 56; (with_reducible refine hc.mono ?_); rintro e_ w' ⟨rfl, hb⟩; have y0 := blk_cell (hbx _ hb) 0; have y2 := blk_cell (hbx _ hb) 2; have y3 := blk_cell (hbx _ hb) 3; have y4 := blk_cell (hbx _ hb) 4; have y5 := blk_cell (hbx _ hb) 5; have y6 := blk_cell (hbx _ hb) 6; have HB7 := Aside0.mk hb; clear hb)
            go_meet
            exact ⟨rfl, HB7⟩
          · have m1 : (i2 == 0) = false := beq_eq_false_iff_ne.mpr m0
            have m2 : (i2 != 0) = true := bne_iff_ne.mpr m0
            clear m0
            obtain rfl : bv = true := by rw [e]; first | rfl | (simp [*]; done)
            clear e
            go_wp2_with (go_at_call 56; (with_reducible refine hc.mono ?_); rintro e_ w' ⟨rfl, hb⟩; have y0 := blk_cell (hbx _ hb) 0; have y2 := blk_cell (hbx _ hb) 2; have y3 := blk_cell (hbx _ hb) 3; have y4 := blk_cell (hbx _ hb) 4; have y5 := blk_cell (hbx _ hb) 5; have y6 := blk_cell (hbx _ hb) 6; have HB7 := Aside0.mk hb; clear hb)
            go_meet
            exact ⟨rfl, HB7⟩
        | false =>
          have te2 : (i3.toList != ([] : List UInt8)) = true := by unfold bne; rw [te]; rfl
          obtain rfl : bv = true := by rw [e]; first | rfl | (simp [*]; done)
          clear e
          go_wp2_with (go_at_call 56; (with_reducible refine hc.mono ?_); rintro e_ w' ⟨rfl, hb⟩; have y0 := blk_cell (hbx _ hb) 0; have y2 := blk_cell (hbx _ hb) 2; have y3 := blk_cell (hbx _ hb) 3; have y4 := blk_cell (hbx _ hb) 4; have y5 := blk_cell (hbx _ hb) 5; have y6 := blk_cell (hbx _ hb) 6; have HB7 := Aside0.mk hb; clear hb)
          go_meet
          exact ⟨rfl, HB7⟩
      by_cases c4 : i0 = 4
      · subst c4
        cases z with
        | true =>
          by_cases m0 : i2 = 0
          · have m1 : (i2 == 0) = true := beq_iff_eq.mpr m0
            have m2 : (i2 != 0) = false := bne_eq_false_iff_eq.mpr m0
            clear m0
            obtain rfl : bv = false := by rw [e]; first | rfl | (simp [*]; done)
            clear e
            go_wp2_with (go_at_call 56; (with_reducible refine hc.mono ?_); rintro e_ w' ⟨rfl, hb⟩; have y0 := blk_cell (hbx _ hb) 0; have y2 := blk_cell (hbx _ hb) 2; have y3 := blk_cell (hbx _ hb) 3; have y4 := blk_cell (hbx _ hb) 4; have y5 := blk_cell (hbx _ hb) 5; have y6 := blk_cell (hbx _ hb) 6; have HB7 := Aside0.mk hb; clear hb)
            go_meet
            exact ⟨rfl, HB7⟩
          · have m1 : (i2 == 0) = false := beq_eq_false_iff_ne.mpr m0
            have m2 : (i2 != 0) = true := bne_iff_ne.mpr m0
            clear m0
            obtain rfl : bv = true := by rw [e]; first | rfl | (simp [*]; done)
            clear e
            go_wp2_with (go_at_call 56; (with_reducible refine hc.mono ?_); rintro e_ w' ⟨rfl, hb⟩; have y0 := blk_cell (hbx _ hb) 0; have y2 := blk_cell (hbx _ hb) 2; have y3 := blk_cell (hbx _ hb) 3; have y4 := blk_cell (hbx _ hb) 4; have y5 := blk_cell (hbx _ hb) 5; have y6 := blk_cell (hbx _ hb) 6; have HB7 := Aside0.mk hb; clear hb)
            go_meet
            exact ⟨rfl, HB7⟩
        | false =>
          obtain rfl : bv = true := by rw [e]; first | rfl | (simp [*]; done)
          clear e
          go_wp2_with (go_at_call 56; (with_reducible refine hc.mono ?_); rintro e_ w' ⟨rfl, hb⟩; have y0 := blk_cell (hbx _ hb) 0; have y2 := blk_cell (hbx _ hb) 2; have y3 := blk_cell (hbx _ hb) 3; have y4 := blk_cell (hbx _ hb) 4; have y5 := blk_cell (hbx _ hb) 5; have y6 := blk_cell (hbx _ hb) 6; have HB7 := Aside0.mk hb; clear hb)
          go_meet
          exact ⟨rfl, HB7⟩
      by_cases c5 : i0 = 5
      · subst c5
        cases z with
        | true =>
          by_cases m0 : i2 = 0
          · have m1 : (i2 == 0) = true := beq_iff_eq.mpr m0
            have m2 : (i2 != 0) = false := bne_eq_false_iff_eq.mpr m0
            clear m0
            obtain rfl : bv = false := by rw [e]; first | rfl | (simp [*]; done)
            clear e
            go_wp2_with (go_at_call 56; (with_reducible refine hc.mono ?_); rintro e_ w' ⟨rfl, hb⟩; have y0 := blk_cell (hbx _ hb) 0; have y2 := blk_cell (hbx _ hb) 2; have y3 := blk_cell (hbx _ hb) 3; have y4 := blk_cell (hbx _ hb) 4; have y5 := blk_cell (hbx _ hb) 5; have y6 := blk_cell (hbx _ hb) 6; have HB7 := Aside0.mk hb; clear hb)
            go_meet
            exact ⟨rfl, HB7⟩
          · have m1 : (i2 == 0) = false := beq_eq_false_iff_ne.mpr m0
            have m2 : (i2 != 0) = true := bne_iff_ne.mpr m0
            clear m0
            obtain rfl : bv = true := by rw [e]; first | rfl | (simp [*]; done)
            clear e
            go_wp2_with (go_at_call 56; (with_reducible refine hc.mono ?_); rintro e_ w' ⟨rfl, hb⟩; have y0 := blk_cell (hbx _ hb) 0; have y2 := blk_cell (hbx _ hb) 2; have y3 := blk_cell (hbx _ hb) 3; have y4 := blk_cell (hbx _ hb) 4; have y5 := blk_cell (hbx _ hb) 5; have y6 := blk_cell (hbx _ hb) 6; have HB7 := Aside0.mk hb; clear hb)
            go_meet
            exact ⟨rfl, HB7⟩
        | false =>
          obtain rfl : bv = true := by rw [e]; first | rfl | (simp [*]; done)
          clear e
          go_wp2_with (go_at_call 56; (with_reducible refine hc.mono ?_); rintro e_ w' ⟨rfl, hb⟩; have y0 := blk_cell (hbx _ hb) 0; have y2 := blk_cell (hbx _ hb) 2; have y3 := blk_cell (hbx _ hb) 3; have y4 := blk_cell (hbx _ hb) 4; have y5 := blk_cell (hbx _ hb) 5; have y6 := blk_cell (hbx _ hb) 6; have HB7 := Aside0.mk hb; clear hb)
          go_meet
          exact ⟨rfl, HB7⟩
      by_cases c11 : i0 = 11
      · subst c11
        cases z with
        | true =>
          by_cases m0 : i2 = 0
          · have m1 : (i2 == 0) = true := beq_iff_eq.mpr m0
            have m2 : (i2 != 0) = false := bne_eq_false_iff_eq.mpr m0
            clear m0
            obtain rfl : bv = false := by rw [e]; first | rfl | (simp [*]; done)
            clear e
            go_wp2_with (go_at_call 56; (with_reducible refine hc.mono ?_); rintro e_ w' ⟨rfl, hb⟩; have y0 := blk_cell (hbx _ hb) 0; have y2 := blk_cell (hbx _ hb) 2; have y3 := blk_cell (hbx _ hb) 3; have y4 := blk_cell (hbx _ hb) 4; have y5 := blk_cell (hbx _ hb) 5; have y6 := blk_cell (hbx _ hb) 6; have HB7 := Aside0.mk hb; clear hb)
            go_meet
            exact ⟨rfl, HB7⟩
          · have m1 : (i2 == 0) = false := beq_eq_false_iff_ne.mpr m0
            have m2 : (i2 != 0) = true := bne_iff_ne.mpr m0
            clear m0
            obtain rfl : bv = true := by rw [e]; first | rfl | (simp [*]; done)
            clear e
            go_wp2_with (go_at_call 56; (with_reducible refine hc.mono ?_); rintro e_ w' ⟨rfl, hb⟩; have y0 := blk_cell (hbx _ hb) 0; have y2 := blk_cell (hbx _ hb) 2; have y3 := blk_cell (hbx _ hb) 3; have y4 := blk_cell (hbx _ hb) 4; have y5 := blk_cell (hbx _ hb) 5; have y6 := blk_cell (hbx _ hb) 6; have HB7 := Aside0.mk hb; clear hb)
            go_meet
            exact ⟨rfl, HB7⟩
        | false =>
          obtain rfl : bv = true := by rw [e]; first | rfl | (simp [*]; done)
          clear e
          go_wp2_with (go_at_call 56; (with_reducible refine hc.mono ?_); rintro e_ w' ⟨rfl, hb⟩; have y0 := blk_cell (hbx _ hb) 0; have y2 := blk_cell (hbx _ hb) 2; have y3 := blk_cell (hbx _ hb) 3; have y4 := blk_cell (hbx _ hb) 4; have y5 := blk_cell (hbx _ hb) 5; have y6 := blk_cell (hbx _ hb) 6; have HB7 := Aside0.mk hb; clear hb)
          go_meet
          exact ⟨rfl, HB7⟩
      by_cases c10 : i0 = 10
      · subst c10
        cases z with
        | true =>
          cases te : (i3.toList == ([] : List UInt8)) with
          | true =>
            have te2 : (i3.toList != ([] : List UInt8)) = false := by unfold bne; rw [te]; rfl
            obtain rfl : bv = false := by rw [e]; first | rfl | (simp [*]; done)
            clear e
            go_wp2_with (go_at_call 56; (with_reducible refine hc.mono ?_); rintro e_ w' ⟨rfl, hb⟩; have y0 := blk_cell (hbx _ hb) 0; have y2 := blk_cell (hbx _ hb) 2; have y3 := blk_cell (hbx _ hb) 3; have y4 := blk_cell (hbx _ hb) 4; have y5 := blk_cell (hbx _ hb) 5; have y6 := blk_cell (hbx _ hb) 6; have HB7 := Aside0.mk hb; clear hb)
            go_meet
            exact ⟨rfl, HB7⟩
          | false =>
            have te2 : (i3.toList != ([] : List UInt8)) = true := by unfold bne; rw [te]; rfl
            obtain rfl : bv = true := by rw [e]; first | rfl | (simp [*]; done)
            clear e
            go_wp2_with (go_at_call 56; (with_reducible refine hc.mono ?_); rintro e_ w' ⟨rfl, hb⟩; have y0 := blk_cell (hbx _ hb) 0; have y2 := blk_cell (hbx _ hb) 2; have y3 := blk_cell (hbx _ hb) 3; have y4 := blk_cell (hbx _ hb) 4; have y5 := blk_cell (hbx _ hb) 5; have y6 := blk_cell (hbx _ hb) 6; have HB7 := Aside0.mk hb; clear hb)
            go_meet
            exact ⟨rfl, HB7⟩
        | false =>
          obtain rfl : bv = true := by rw [e]; first | rfl | (simp [*]; done)
          clear e
          go_wp2_with (go_at_call 56; (with_reducible refine hc.mono ?_); rintro e_ w' ⟨rfl, hb⟩; have y0 := blk_cell (hbx _ hb) 0; have y2 := blk_cell (hbx _ hb) 2; have y3 := blk_cell (hbx _ hb) 3; have y4 := blk_cell (hbx _ hb) 4; have y5 := blk_cell (hbx _ hb) 5; have y6 := blk_cell (hbx _ hb) 6; have HB7 := Aside0.mk hb; clear hb)
          go_meet
          exact ⟨rfl, HB7⟩
      have b1 : (i0 == 1) = false := beq_eq_false_iff_ne.mpr c1
      have n1 : (i0 != 1) = true := bne_iff_ne.mpr c1
      have b4 : (i0 == 4) = false := beq_eq_false_iff_ne.mpr c4
      have n4 : (i0 != 4) = true := bne_iff_ne.mpr c4
      have b5 : (i0 == 5) = false := beq_eq_false_iff_ne.mpr c5
      have n5 : (i0 != 5) = true := bne_iff_ne.mpr c5
      have b10 : (i0 == 10) = false := beq_eq_false_iff_ne.mpr c10
      have n10 : (i0 != 10) = true := bne_iff_ne.mpr c10
      have b11 : (i0 == 11) = false := beq_eq_false_iff_ne.mpr c11
      have n11 : (i0 != 11) = true := bne_iff_ne.mpr c11
      cases z with
      | true =>
        cases te : (i3.toList == ([] : List UInt8)) with
        | true =>
          have te2 : (i3.toList != ([] : List UInt8)) = false := by unfold bne; rw [te]; rfl
          by_cases m0 : i2 = 0
          · have m1 : (i2 == 0) = true := beq_iff_eq.mpr m0
            have m2 : (i2 != 0) = false := bne_eq_false_iff_eq.mpr m0
            clear m0
            obtain rfl : bv = false := by rw [e]; first | rfl | (simp [*]; done)
            clear e
            go_wp2_with (go_at_call 56; (with_reducible refine hc.mono ?_); rintro e_ w' ⟨rfl, hb⟩; have y0 := blk_cell (hbx _ hb) 0; have y2 := blk_cell (hbx _ hb) 2; have y3 := blk_cell (hbx _ hb) 3; have y4 := blk_cell (hbx _ hb) 4; have y5 := blk_cell (hbx _ hb) 5; have y6 := blk_cell (hbx _ hb) 6; have HB7 := Aside0.mk hb; clear hb)
            go_meet
            exact ⟨rfl, HB7⟩
          · have m1 : (i2 == 0) = false := beq_eq_false_iff_ne.mpr m0
            have m2 : (i2 != 0) = true := bne_iff_ne.mpr m0
            clear m0
            obtain rfl : bv = true := by rw [e]; first | rfl | (simp [*]; done)
            clear e
            go_wp2_with (go_at_call 56; (with_reducible refine hc.mono ?_); rintro e_ w' ⟨rfl, hb⟩; have y0 := blk_cell (hbx _ hb) 0; have y2 := blk_cell (hbx _ hb) 2; have y3 := blk_cell (hbx _ hb) 3; have y4 := blk_cell (hbx _ hb) 4; have y5 := blk_cell (hbx _ hb) 5; have y6 := blk_cell (hbx _ hb) 6; have HB7 := Aside0.mk hb; clear hb)
            go_meet
            exact ⟨rfl, HB7⟩
        | false =>
          have te2 : (i3.toList != ([] : List UInt8)) = true := by unfold bne; rw [te]; rfl
          obtain rfl : bv = true := by rw [e]; first | rfl | (simp [*]; done)
          clear e
          go_wp2_with (go_at_call 56; (with_reducible refine hc.mono ?_); rintro e_ w' ⟨rfl, hb⟩; have y0 := blk_cell (hbx _ hb) 0; have y2 := blk_cell (hbx _ hb) 2; have y3 := blk_cell (hbx _ hb) 3; have y4 := blk_cell (hbx _ hb) 4; have y5 := blk_cell (hbx _ hb) 5; have y6 := blk_cell (hbx _ hb) 6; have HB7 := Aside0.mk hb; clear hb)
          go_meet
          exact ⟨rfl, HB7⟩
      | false =>
        obtain rfl : bv = true := by rw [e]; first | rfl | (simp [*]; done)
        clear e
        go_wp2_with (go_at_call 56; (with_reducible refine hc.mono ?_); rintro e_ w' ⟨rfl, hb⟩; have y0 := blk_cell (hbx _ hb) 0; have y2 := blk_cell (hbx _ hb) 2; have y3 := blk_cell (hbx _ hb) 3; have y4 := blk_cell (hbx _ hb) 4; have y5 := blk_cell (hbx _ hb) 5; have y6 := blk_cell (hbx _ hb) 6; have HB7 := Aside0.mk hb; clear hb)
        go_meet
        exact ⟨rfl, HB7⟩
  case rest =>
    obtain ⟨rfl, HC⟩ := hcut
    have hf := HF.out
    rw [← HV.out] at hf
    simp only at hf
    have hbw : Below w.heap.size w wc := HB.out.trans (HC.out.mono HB.out.size)
    have AB := Aside0.mk hbw
    have A1 := Aside0.mk (blk_below HB1.out HC.out)
    have A2 := Aside0.mk (blk_below HB2.out HC.out)
    have A3 := Aside0.mk (blk_below HB3.out HC.out)
    have hps' := Aside0.mk (Kd.C_below HPS.out hbw)
    clear HF HV HQ HB HB1 HB2 HB3 HC HPS hbw
    have p0 := blk_cell A1.out 0
    have f2 := blk_cell A2.out 2
    have f3 := blk_cell A2.out 3
    have x0 := blk_cell A3.out 0
    have x1 := blk_cell A3.out 1
    have x2 := blk_cell A3.out 2
    have x3 := blk_cell A3.out 3
    cases bv with
    | true =>
      rw [if_pos rfl] at hf
      obtain rfl := Option.some.inj hf
      clear hf
      go_wp2
      go_ret
      exact ⟨rfl, AB.out⟩
    | false =>
      rw [if_neg (by decide)] at hf
      by_cases e23 : i0 = 2 ∨ i0 = 3
      · rw [if_pos e23] at hf
        obtain rfl := Option.some.inj hf
        clear hf
        have hsl : IntKind.i64.wrap (slots - 1) = slots - 1 := by rw [IntKind.wrap_i64]; omega
        have hc := fun w => spec_l05Ins.within i1 0 (slots - 1) w
        rcases e23 with rfl | rfl
        · go_wp2_with (go_at_call 32; (with_reducible refine (hc _).mono ?_); rintro e_ w' ⟨rfl, rfl⟩)
          go_ret
          exact ⟨rfl, AB.out⟩
        · go_wp2_with (go_at_call 32; (with_reducible refine (hc _).mono ?_); rintro e_ w' ⟨rfl, rfl⟩)
          go_ret
          exact ⟨rfl, AB.out⟩
      rw [if_neg e23] at hf
      have e2 : ¬ i0 = 2 := fun h => e23 (.inl h)
      have e3 : ¬ i0 = 3 := fun h => e23 (.inr h)
      have d2 : (i0 == 2) = false := beq_eq_false_iff_ne.mpr e2
      have d3 : (i0 == 3) = false := beq_eq_false_iff_ne.mpr e3
      clear e23
      by_cases e4 : i0 = 4
      · subst e4
        rw [if_pos rfl] at hf
        obtain rfl := Option.some.inj hf
        clear hf
        by_cases k0 : i1 = 0
        · subst k0
          cases k1 : (i3.toList == ([33] : List UInt8)) with
          | true =>
            go_wp2
            go_ret
            exact ⟨rfl, AB.out⟩
          | false =>
            go_wp2
            go_ret
            exact ⟨by first | rfl | (simp; done), AB.out⟩
        · have k1 : (i1 == 0) = false := beq_eq_false_iff_ne.mpr k0
          go_wp2
          go_ret
          refine ⟨?_, AB.out⟩
          first
            | rfl
            | (rw [k1]; rfl)
            | (simp [k1]; done)
            | (simp only [k1, Bool.false_and]; rfl)
      rw [if_neg e4] at hf
      have d4 : (i0 == 4) = false := beq_eq_false_iff_ne.mpr e4
      by_cases e5 : i0 = 5
      · subst e5
        rw [if_pos rfl] at hf
        obtain ⟨b, hb, hf⟩ := Option.bind_eq_some_iff.1 hf
        obtain rfl := Option.some.inj hf
        have hc := fun w => spec_l01Op.calls i3 b w hb
        clear hf hb
        by_cases k0 : i1 = 0
        · subst k0
          go_wp2_with (go_at_call 57; (with_reducible refine (hc _).mono ?_); rintro e_ w' ⟨rfl, hd⟩; have HD := Aside0.mk hd; clear hd)
          go_ret
          exact ⟨by first | rfl | (simp; done), AB.out.trans (HD.out.below.mono AB.out.size)⟩
        · have k1 : (i1 == 0) = false := beq_eq_false_iff_ne.mpr k0
          go_wp2
          go_ret
          refine ⟨?_, AB.out⟩
          first
            | rfl
            | (rw [k1]; rfl)
            | (simp [k1]; done)
            | (simp only [k1, Bool.false_and]; rfl)
      rw [if_neg e5] at hf
      have d5 : (i0 == 5) = false := beq_eq_false_iff_ne.mpr e5
      by_cases el : i0 = 6 ∨ i0 = 7 ∨ i0 = 8 ∨ i0 = 9 ∨ i0 = 14
      · rw [if_pos el] at hf
        obtain rfl := Option.some.inj hf
        clear hf
        have hsl : IntKind.i64.wrap ((n : Int) - 1) = (n : Int) - 1 := by rw [IntKind.wrap_i64]; omega
        have hc := fun w => spec_l05Ins.within i1 0 ((n : Int) - 1) w
        rcases el with rfl | rfl | rfl | rfl | rfl
        all_goals go_wp2_with (go_at_call 32; (with_reducible refine (hc _).mono ?_); rintro e_ w' ⟨rfl, rfl⟩)
        all_goals go_ret
        all_goals exact ⟨rfl, AB.out⟩
      rw [if_neg el] at hf
      have d6 : (i0 == 6) = false := beq_eq_false_iff_ne.mpr (fun h => el (.inl h))
      have d7 : (i0 == 7) = false := beq_eq_false_iff_ne.mpr (fun h => el (.inr (.inl h)))
      have d8 : (i0 == 8) = false := beq_eq_false_iff_ne.mpr (fun h => el (.inr (.inr (.inl h))))
      have d9 : (i0 == 9) = false := beq_eq_false_iff_ne.mpr (fun h => el (.inr (.inr (.inr (.inl h)))))
      have d14 : (i0 == 14) = false := beq_eq_false_iff_ne.mpr (fun h => el (.inr (.inr (.inr (.inr h)))))
      clear el
      by_cases e10 : i0 = 10
      · subst e10
        rw [if_pos rfl] at hf
        obtain rfl := Option.some.inj hf
        clear hf
        have hsl : IntKind.i64.wrap ((ps.length : Int) - 1) = (ps.length : Int) - 1 := by rw [IntKind.wrap_i64]; omega
        have hc := spec_l05Ins.within i1 1 ((ps.length : Int) - 1) wc.drew
        go_upto_region 18 with fail
        by_cases hr : 1 ≤ i1 ∧ i1 ≤ (ps.length : Int) - 1
        · have HR := Aside0.mk hr
          rw [decide_eq_true hr.1, decide_eq_true hr.2] at hc
          have hc' : Calls Try.prog 32 #[.int .i64 i1, .int .i64 1, .int .i64 (IntKind.i64.wrap ((ps.length : Int) - 1))] wc.drew fun e w' => e = .returned (.bool true) ∧ w' = wc.drew := by rw [hsl]; exact hc
          have j0 : 0 ≤ i1 := by omega
          have j1 : i1 < (ps.length : Int) := by omega
          obtain ⟨ad, A3', c3', rfl, z0, z1, z2, z3, _, _⟩ := at_T57 hps'.out i1 j0 j1
          have j2 : i1.toNat < c := by omega
          clear hr hc hsl z0 z2 z3
          have j0' := eq_true j0
          have j1' := eq_true j1
          refine wp_region_still_lit spec_l05Ins.mixed (by kernel_rfl) ?_
          repeat with_reducible still_step
          still_call hc'
          repeat with_reducible still_step
          (with_reducible refine wpStill_nil ?_)
          go_wp2_with fail
          go_ret
          refine ⟨?_, below_drew AB.out⟩
          rw [decide_eq_true HR.out.1, decide_eq_true HR.out.2]
          rfl
        · have hr' : (decide (1 ≤ i1) && decide (i1 ≤ (ps.length : Int) - 1)) = false := by rw [← Bool.decide_and]; exact decide_eq_false hr
          have HR := Aside0.mk hr'
          rw [hr'] at hc
          have hc' : Calls Try.prog 32 #[.int .i64 i1, .int .i64 1, .int .i64 (IntKind.i64.wrap ((ps.length : Int) - 1))] wc.drew fun e w' => e = .returned (.bool false) ∧ w' = wc.drew := by rw [hsl]; exact hc
          clear hr hr' hc hsl
          refine wp_region_still_lit spec_l05Ins.mixed (by kernel_rfl) ?_
          repeat with_reducible still_step
          still_call hc'
          repeat with_reducible still_step
          (with_reducible refine wpStill_nil ?_)
          go_wp2_with fail
          go_ret
          refine ⟨?_, below_drew AB.out⟩
          rw [HR.out]
          rfl
      rw [if_neg e10] at hf
      have d10 : (i0 == 10) = false := beq_eq_false_iff_ne.mpr e10
      by_cases e11 : i0 = 11
      · subst e11
        rw [if_pos rfl] at hf
        obtain rfl := Option.some.inj hf
        clear hf
        have hc := spec_l05Ins.count i3 wc.drew
        go_upto_region 20 with fail
        obtain ⟨ct, hct⟩ : ∃ ct, ct = spec_l05Ins.cnt i3 := ⟨_, rfl⟩
        have HC := Aside0.mk hct
        rw [← hct] at hc
        clear hct
        by_cases k0 : 0 ≤ ct
        · have k1 := decide_eq_true k0
          refine wp_region_still_lit spec_l05Ins.mixed (by kernel_rfl) ?_
          repeat with_reducible still_step
          still_call hc
          repeat with_reducible still_step
          still_call hc
          repeat with_reducible still_step
          (with_reducible refine wpStill_nil ?_)
          go_wp2_with fail
          go_ret
          refine ⟨?_, below_drew AB.out⟩
          rw [← HC.out, k1]
          rfl
        · have k1 := decide_eq_false k0
          have k2 : ct < 0 := by omega
          refine wp_region_still_lit spec_l05Ins.mixed (by kernel_rfl) ?_
          repeat with_reducible still_step
          still_call hc
          repeat with_reducible still_step
          (with_reducible refine wpStill_nil ?_)
          go_wp2_with fail
          go_ret
          refine ⟨?_, below_drew AB.out⟩
          rw [← HC.out, k1]
          rfl
      rw [if_neg e11] at hf
      have d11 : (i0 == 11) = false := beq_eq_false_iff_ne.mpr e11
      obtain rfl := Option.some.inj hf
      clear hf
      have hc := fun w => spec_l05Ins.within i0 1 16 w
      by_cases k0 : i1 = 0
      · subst k0
        go_wp2_with (go_at_call 32; (with_reducible refine (hc _).mono ?_); rintro e_ w' ⟨rfl, rfl⟩)
        go_ret
        exact ⟨by first | rfl | (simp; done), AB.out⟩
      · have k1 : (i1 == 0) = false := beq_eq_false_iff_ne.mpr k0
        go_wp2
        go_ret
        refine ⟨?_, AB.out⟩
        first
          | rfl
          | (rw [k1]; rfl)
          | (simp [k1]; done)
          | (simp only [k1, Bool.false_and]; rfl)

/-! ### spec_l05Flow_come: function 59 -/
open Hd
theorem spec_l05Flow_come.mixed : Try.prog.follows Departure.mixedOrders = true := by kernel_rfl
def spec_l05Flow_come.iv (l : List Int) : List Value := l.map fun x => .int .i64 x
/-- Some blocks apart, what was there is as it was. -/
structure spec_l05Flow_come.Mv (S : Nat → Prop) (w w' : World) : Prop where
  os : w'.os = w.os
  tape : w'.tape = w.tape
  output : w'.output = w.output
  size : w.heap.size ≤ w'.heap.size
  block : ∀ i, i < w.heap.size → ¬ S i → w'.heap[i]? = w.heap[i]?
theorem spec_l05Flow_come.Mv.refl (S : Nat → Prop) (w : World) : spec_l05Flow_come.Mv S w w := ⟨rfl, rfl, rfl, Nat.le_refl _, fun _ _ _ => rfl⟩
theorem spec_l05Flow_come.Mv.trans {S : Nat → Prop} {w w1 w2 : World} (h : spec_l05Flow_come.Mv S w w1) (k : spec_l05Flow_come.Mv S w1 w2) : spec_l05Flow_come.Mv S w w2 :=
  ⟨k.os.trans h.os, k.tape.trans h.tape, k.output.trans h.output, Nat.le_trans h.size k.size, fun i hi h1 => (k.block i (Nat.lt_of_lt_of_le hi h.size) h1).trans (h.block i hi h1)⟩
theorem spec_l05Flow_come.Mv.of_below {S : Nat → Prop} {w w' : World} (h : Below w.heap.size w w') : spec_l05Flow_come.Mv S w w' := ⟨h.os, h.tape, h.output, h.size, fun i hi _ => h.block i hi⟩
theorem spec_l05Flow_come.Mv.step {S : Nat → Prop} {w w1 w2 : World} (h : spec_l05Flow_come.Mv S w w1) (k : Below w1.heap.size w1 w2) : spec_l05Flow_come.Mv S w w2 := h.trans (spec_l05Flow_come.Mv.of_below k)
theorem spec_l05Flow_come.Mv.set {S : Nat → Prop} {w w1 : World} (h : spec_l05Flow_come.Mv S w w1) (p : Addr) (u : Value) (hp : S p.block ∨ w.heap.size ≤ p.block) : spec_l05Flow_come.Mv S w (w1.setCell p u) :=
  ⟨h.os, h.tape, h.output, by have := h.size; simpa using this, fun i hi h1 => (Below.heap_setCell w1 p u i (fun e => by subst e; rcases hp with hp | hp; exact h1 hp; omega)).trans (h.block i hi h1)⟩
theorem spec_l05Flow_come.Mv.below {S : Nat → Prop} {B : Nat} {w0 w w' : World} (hb : Below B w0 w) (h : spec_l05Flow_come.Mv S w w') (hB : B ≤ w.heap.size) (hS : ∀ k, S k → B ≤ k) : Below B w0 w' :=
  hb.trans ⟨h.os, h.tape, h.output, h.size, fun k hk => h.block k (by omega) (fun hs => by have := hS k hs; omega)⟩
/-- The state and its two rows. -/
structure spec_l05Flow_come.At (g bh bt : Nat) (nm : ByteArray) (pa sl : Int) (A : Option Addr) (n c ch ct : Nat) (hi tr : List Int) (ok : Bool) (most : Int) (w : World) : Prop where
  st : w.heap[g]? = some (.cells #[.string nm, .int .i64 pa, .int .i64 sl, .slice A n c, .slice (some ⟨bh, 0, none⟩) n ch, .slice (some ⟨bt, 0, none⟩) n ct, .bool ok, .int .i64 most] 63 (0, 0))
  rh : w.heap[bh]? = some (.cells (spec_l05Flow_come.iv hi).toArray 3 (0, 0))
  rt : w.heap[bt]? = some (.cells (spec_l05Flow_come.iv tr).toArray 3 (0, 0))
  lh : hi.length = n
  lt : tr.length = n
  ne : bh ≠ bt
section
variable {g bh bt : Nat} {nm : ByteArray} {pa sl : Int} {A : Option Addr} {n c ch ct : Nat} {hi tr : List Int} {ok : Bool} {most : Int} {w w' : World}
theorem spec_l05Flow_come.At.below (h : spec_l05Flow_come.At g bh bt nm pa sl A n c ch ct hi tr ok most w) (hb : Below w.heap.size w w') : spec_l05Flow_come.At g bh bt nm pa sl A n c ch ct hi tr ok most w' :=
  ⟨blk_below h.st hb, blk_below h.rh hb, blk_below h.rt hb, h.lh, h.lt, h.ne⟩
theorem spec_l05Flow_come.At.gh (h : spec_l05Flow_come.At g bh bt nm pa sl A n c ch ct hi tr ok most w) : g ≠ bh := blk_ne h.st h.rh (by decide)
theorem spec_l05Flow_come.At.gt (h : spec_l05Flow_come.At g bh bt nm pa sl A n c ch ct hi tr ok most w) : g ≠ bt := blk_ne h.st h.rt (by decide)
theorem spec_l05Flow_come.At.fail (h : spec_l05Flow_come.At g bh bt nm pa sl A n c ch ct hi tr ok most w) : spec_l05Flow_come.At g bh bt nm pa sl A n c ch ct hi tr false most (w.setCell ⟨g, 6, none⟩ (.bool false)) :=
  ⟨blk_set h.st 6 _, blk_far h.rh h.gh.symm _, blk_far h.rt h.gt.symm _, h.lh, h.lt, h.ne⟩
theorem spec_l05Flow_come.At.max (h : spec_l05Flow_come.At g bh bt nm pa sl A n c ch ct hi tr ok most w) (m : Int) : spec_l05Flow_come.At g bh bt nm pa sl A n c ch ct hi tr ok m (w.setCell ⟨g, 7, none⟩ (.int .i64 m)) :=
  ⟨blk_set h.st 7 _, blk_far h.rh h.gh.symm _, blk_far h.rt h.gt.symm _, h.lh, h.lt, h.ne⟩
theorem spec_l05Flow_come.row_set {b : Nat} {l : List Int} {t : TypeId} (h : w.heap[b]? = some (.cells (spec_l05Flow_come.iv l).toArray t (0, 0))) (k : Nat) (v : Int) : (w.setCell ⟨b, k, none⟩ (.int .i64 v)).heap[b]? = some (.cells (spec_l05Flow_come.iv (l.set k v)).toArray t (0, 0)) := by
  rw [blk_set h]
  unfold spec_l05Flow_come.iv
  rw [List.map_set]
  simp
theorem spec_l05Flow_come.row_cell {b : Nat} {l : List Int} {t : TypeId} (h : w.heap[b]? = some (.cells (spec_l05Flow_come.iv l).toArray t (0, 0))) (k : Int) (hk : k.toNat < l.length) : w.cell? ⟨b, k.toNat, none⟩ = some (.int .i64 (rd l k)) := by
  rw [blk_cell h]
  unfold spec_l05Flow_come.iv rd
  rw [List.getElem?_toArray, List.getElem?_map, List.getD_eq_getElem?_getD, List.getElem?_eq_getElem hk]
  rfl
theorem spec_l05Flow_come.At.high (h : spec_l05Flow_come.At g bh bt nm pa sl A n c ch ct hi tr ok most w) (k : Nat) (v : Int) : spec_l05Flow_come.At g bh bt nm pa sl A n c ch ct (hi.set k v) tr ok most (w.setCell ⟨bh, k, none⟩ (.int .i64 v)) :=
  ⟨blk_far h.st h.gh _, spec_l05Flow_come.row_set h.rh k v, blk_far h.rt h.ne.symm _, by rw [List.length_set]; exact h.lh, h.lt, h.ne⟩
theorem spec_l05Flow_come.At.tries (h : spec_l05Flow_come.At g bh bt nm pa sl A n c ch ct hi tr ok most w) (k : Nat) (v : Int) : spec_l05Flow_come.At g bh bt nm pa sl A n c ch ct hi (tr.set k v) ok most (w.setCell ⟨bt, k, none⟩ (.int .i64 v)) :=
  ⟨blk_far h.st h.gt _, blk_far h.rh h.ne _, spec_l05Flow_come.row_set h.rt k v, h.lh, by rw [List.length_set]; exact h.lt, h.ne⟩
end
/-- May a way come so. -/
def spec_l05Flow_come.inr (n : Nat) (k h t : Int) : Bool := (decide (0 ≤ k) && decide (k ≤ (n : Int) - 1)) && (decide (0 ≤ h) && (decide (h ≤ 200) && (decide (0 ≤ t) && decide (t ≤ 20))))
abbrev spec_l05Flow_come.T := List Int × List Int × Bool × Int
/-- A way comes to a place: the state, and whether it is new there. -/
def spec_l05Flow_come.come (n : Nat) (st : spec_l05Flow_come.T) (k h t : Int) : spec_l05Flow_come.T × Bool :=
  if spec_l05Flow_come.inr n k h t = true then
    if rd st.1 k < 0 then ((st.1.set k.toNat h, st.2.1.set k.toNat t, st.2.2.1, max st.2.2.2 h), true)
    else if rd st.1 k = h ∧ rd st.2.1 k = t then ((st.1, st.2.1, st.2.2.1, max st.2.2.2 h), false)
    else ((st.1, st.2.1, false, max st.2.2.2 h), false)
  else ((st.1, st.2.1, false, st.2.2.2), false)
theorem spec_l05Flow_come.in_calls (a b c : Int) (w : World) : Calls Try.prog 32 #[.int .i64 a, .int .i64 b, .int .i64 c] w fun e w' => e = .returned (.bool (decide (b ≤ a) && decide (a ≤ c))) ∧ Below w.heap.size w w' :=
  (spec_l01In.calls a b c (decide (b ≤ a) && decide (a ≤ c)) w (by
    unfold spec_l01In.f
    by_cases h1 : b ≤ a <;> simp [h1])).mono fun e w' h => ⟨h.1, h.2.below⟩
set_option maxHeartbeats 8000000 in
set_option maxRecDepth 100000 in
theorem spec_l05Flow_come.calls (g bh bt : Nat) (nm : ByteArray) (pa sl : Int) (A : Option Addr) (n c ch ct : Nat) (st : spec_l05Flow_come.T) (k h t : Int) (w : World) (hA : spec_l05Flow_come.At g bh bt nm pa sl A n c ch ct st.1 st.2.1 st.2.2.1 st.2.2.2 w) (hn : n ≤ 400) (hch : n ≤ ch) (hct : n ≤ ct) :
    Calls Try.prog 59 #[.pointer (some ⟨g, 0, none⟩), .int .i64 k, .int .i64 h, .int .i64 t] w fun e w' => e = .returned (.bool (spec_l05Flow_come.come n st k h t).2) ∧ spec_l05Flow_come.At g bh bt nm pa sl A n c ch ct (spec_l05Flow_come.come n st k h t).1.1 (spec_l05Flow_come.come n st k h t).1.2.1 (spec_l05Flow_come.come n st k h t).1.2.2.1 (spec_l05Flow_come.come n st k h t).1.2.2.2 w' ∧ spec_l05Flow_come.Mv (fun i => i = g ∨ i = bh ∨ i = bt) w w' := by
  obtain ⟨hi, tr, ok, most⟩ := st
  have hA : spec_l05Flow_come.At g bh bt nm pa sl A n c ch ct hi tr ok most w := hA
  obtain ⟨r, hr⟩ : ∃ r, r = spec_l05Flow_come.come n (hi, tr, ok, most) k h t := ⟨_, rfl⟩
  rw [← hr]
  have HR := Aside0.mk hr
  have HA := Aside0.mk hA
  have hsl : IntKind.i64.wrap ((n : Int) - 1) = (n : Int) - 1 := by rw [IntKind.wrap_i64]; omega
  have hin := spec_l05Flow_come.in_calls k 0 ((n : Int) - 1) w
  have z3 := blk_cell hA.st 3
  clear hr hA
  go_enter Try.func59, Try.ntmps59
  go_upto_region 1 with fail
  obtain ⟨q, hq⟩ : ∃ q, q = spec_l05Flow_come.inr n k h t := ⟨_, rfl⟩
  have HQ := Aside0.mk hq
  clear hq
  go_cut [34] from 9 to 33 (fun s wx => s = .bool (!q) ∧ Aside0 (Below w.heap.size w wx))
  case first =>
    have e := HQ.out
    unfold spec_l05Flow_come.inr at e
    clear HQ HR
    cases hb : (decide (0 ≤ k) && decide (k ≤ (n : Int) - 1)) with
    | false =>
      rw [hb] at hin e
      obtain rfl : q = false := e
      go_wp2_with (go_at_call 32; (with_reducible refine hin.mono ?_); rintro e w' ⟨rfl, hb⟩)
      go_meet
      exact ⟨rfl, ⟨hb⟩⟩
    | true =>
      rw [hb] at hin e
      by_cases c1 : 0 ≤ h
      · by_cases c2 : h ≤ 200
        · by_cases c3 : 0 ≤ t
          · by_cases c4 : t ≤ 20
            · obtain rfl : q = true := by rw [e, decide_eq_true c1, decide_eq_true c2, decide_eq_true c3, decide_eq_true c4]; rfl
              clear e
              have d1 : decide (h < 0) = false := decide_eq_false (by omega)
              have d2 : decide (200 < h) = false := decide_eq_false (by omega)
              have d3 : decide (t < 0) = false := decide_eq_false (by omega)
              have d4 : decide (20 < t) = false := decide_eq_false (by omega)
              go_wp2_with (go_at_call 32; (with_reducible refine hin.mono ?_); rintro e w' ⟨rfl, hb⟩)
              go_meet
              exact ⟨rfl, ⟨hb⟩⟩
            · obtain rfl : q = false := by rw [e, decide_eq_true c1, decide_eq_true c2, decide_eq_true c3, decide_eq_false c4]; rfl
              clear e
              have d1 : decide (h < 0) = false := decide_eq_false (by omega)
              have d2 : decide (200 < h) = false := decide_eq_false (by omega)
              have d3 : decide (t < 0) = false := decide_eq_false (by omega)
              have d4 : decide (20 < t) = true := decide_eq_true (by omega)
              go_wp2_with (go_at_call 32; (with_reducible refine hin.mono ?_); rintro e w' ⟨rfl, hb⟩)
              go_meet
              exact ⟨rfl, ⟨hb⟩⟩
          · obtain rfl : q = false := by rw [e, decide_eq_true c1, decide_eq_true c2, decide_eq_false c3]; rfl
            clear e
            have d1 : decide (h < 0) = false := decide_eq_false (by omega)
            have d2 : decide (200 < h) = false := decide_eq_false (by omega)
            have d3 : decide (t < 0) = true := decide_eq_true (by omega)
            go_wp2_with (go_at_call 32; (with_reducible refine hin.mono ?_); rintro e w' ⟨rfl, hb⟩)
            go_meet
            exact ⟨rfl, ⟨hb⟩⟩
        · obtain rfl : q = false := by rw [e, decide_eq_true c1, decide_eq_false c2]; rfl
          clear e
          have d1 : decide (h < 0) = false := decide_eq_false (by omega)
          have d2 : decide (200 < h) = true := decide_eq_true (by omega)
          go_wp2_with (go_at_call 32; (with_reducible refine hin.mono ?_); rintro e w' ⟨rfl, hb⟩)
          go_meet
          exact ⟨rfl, ⟨hb⟩⟩
      · obtain rfl : q = false := by rw [e, decide_eq_false c1]; rfl
        clear e
        have d1 : decide (h < 0) = true := decide_eq_true (by omega)
        go_wp2_with (go_at_call 32; (with_reducible refine hin.mono ?_); rintro e w' ⟨rfl, hb⟩)
        go_meet
        exact ⟨rfl, ⟨hb⟩⟩
  case rest =>
    obtain ⟨rfl, HB⟩ := hcut
    have hr := HR.out
    unfold spec_l05Flow_come.come at hr
    rw [← HQ.out] at hr
    have HA2 := Aside0.mk (HA.out.below HB.out)
    clear HA z3 hin HR
    have f6 := blk_frozen HA2.out.st 6
    have f7 := blk_frozen HA2.out.st 7
    have z4 := blk_cell HA2.out.st 4
    have z5 := blk_cell HA2.out.st 5
    have z6 := blk_cell HA2.out.st 6
    have z7 := blk_cell HA2.out.st 7
    cases q with
    | false =>
      rw [if_neg (by decide)] at hr
      subst hr
      go_wp2
      go_ret
      exact ⟨rfl, HA2.out.fail, (spec_l05Flow_come.Mv.of_below HB.out).set _ _ (.inl (.inl rfl))⟩
    | true =>
      rw [if_pos rfl] at hr
      have hq := HQ.out
      unfold spec_l05Flow_come.inr at hq
      have hk := hq.symm
      simp only [Bool.and_eq_true, decide_eq_true_eq] at hk
      obtain ⟨⟨k0, k1⟩, h0, _, t0, _⟩ := hk
      have hkl : k.toNat < n := by omega
      have kk1 : k < (n : Int) := by omega
      have HA3 := Aside0.mk (HA2.out.max (max most h))
      clear hq HQ
      go_upto_region 5 with fail
      rw [show (if most < h then h else most) = max most h by rw [Int.max_def]; split <;> split <;> omega]
      obtain ⟨W2, hW2⟩ : ∃ W2, wc.setCell ⟨g, 7, none⟩ (.int .i64 (max most h)) = W2 := ⟨_, rfl⟩
      rw [hW2]
      have HM := Aside0.mk (show spec_l05Flow_come.Mv (fun i => i = g ∨ i = bh ∨ i = bt) w W2 by rw [← hW2]; exact (spec_l05Flow_come.Mv.of_below HB.out).set _ _ (.inl (.inl rfl)))
      rw [hW2] at HA3
      clear hW2 HA2 HB f6 f7 z4 z5 z6 z7
      have z4 := blk_cell HA3.out.st 4
      have z5 := blk_cell HA3.out.st 5
      have z6 := blk_cell HA3.out.st 6
      have f6 := blk_frozen HA3.out.st 6
      have fh := blk_frozen HA3.out.rh k.toNat
      have ft := blk_frozen HA3.out.rt k.toNat
      have yh := spec_l05Flow_come.row_cell HA3.out.rh k (by rw [HA3.out.lh]; exact hkl)
      have yt := spec_l05Flow_come.row_cell HA3.out.rt k (by rw [HA3.out.lt]; exact hkl)
      have k0' := eq_true k0
      have kk1' := eq_true kk1
      have hkc : k.toNat < ch := Nat.lt_of_lt_of_le hkl hch
      have hkd : k.toNat < ct := Nat.lt_of_lt_of_le hkl hct
      by_cases hneg : rd hi k < 0
      · rw [if_pos hneg] at hr
        subst hr
        have z5' : ∀ v, (W2.setCell ⟨bh, k.toNat, none⟩ (.int .i64 v)).cell? ⟨g, 5, none⟩ = some (.slice (some ⟨bt, 0, none⟩) n ct) := fun v => blk_cell (HA3.out.high k.toNat v).st 5
        have yt' : ∀ v, (W2.setCell ⟨bh, k.toNat, none⟩ (.int .i64 v)).cell? ⟨bt, k.toNat, none⟩ = some (.int .i64 (rd tr k)) := fun v => spec_l05Flow_come.row_cell (HA3.out.high k.toNat v).rt k (by rw [HA3.out.lt]; exact hkl)
        have ft' : ∀ v, (W2.setCell ⟨bh, k.toNat, none⟩ (.int .i64 v)).frozen? ⟨bt, k.toNat, none⟩ = false := fun v => blk_frozen (HA3.out.high k.toNat v).rt k.toNat
        go_wp2
        go_ret
        exact ⟨rfl, (HA3.out.high k.toNat h).tries k.toNat t, (HM.out.set _ _ (.inl (.inr (.inl rfl)))).set _ _ (.inl (.inr (.inr rfl)))⟩
      · rw [if_neg hneg] at hr
        by_cases hs : rd hi k = h ∧ rd tr k = t
        · rw [if_pos hs] at hr
          subst hr
          rw [hs.1] at yh hneg
          rw [hs.2] at yt
          clear hs
          go_wp2
          go_ret
          exact ⟨rfl, HA3.out, HM.out⟩
        · rw [if_neg hs] at hr
          subst hr
          by_cases hs1 : rd hi k = h
          · have hs2 : ¬ rd tr k = t := fun e => hs ⟨hs1, e⟩
            rw [hs1] at yh hneg
            clear hs hs1
            go_wp2
            go_ret
            exact ⟨rfl, HA3.out.fail, HM.out.set _ _ (.inl (.inl rfl))⟩
          · clear hs
            go_wp2
            go_ret
            exact ⟨rfl, HA3.out.fail, HM.out.set _ _ (.inl (.inl rfl))⟩

end Go.Proofs.Ytlhbcgmmgofcgaa.QFnExactProgramOK
