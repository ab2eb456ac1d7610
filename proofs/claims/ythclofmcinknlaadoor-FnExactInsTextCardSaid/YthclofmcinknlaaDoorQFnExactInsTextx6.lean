/- Functions that the law uses, as Lean functions with the same answers, and the walks that show it: by this session's program, after the form of the kit's print. No condition. -/
import Derived.Test.YthclofmcinknlaaDoorQFnExactInsTextx0
import Derived.Test.YthclofmcinknlaaDoorQFnExactInsTextx5
namespace Go.Proofs.YthclofmcinknlaaDoor.QFnExactInsText
open Go.RowKit Go.Proofs.YthclofmcinknlaaDoorW.PrintWords Go.Proofs.YthclofmcinknlaaDoorW.PrintLast Go.Proofs.YthclofmcinknlaaDoorW.PrintMore
attribute [local go_sem] max2_int min2_int max_two min_two max_three min_three max_four min_four   -- for this text's walks alone
open Go.Proofs.YthclofmcinknlaaDoor
attribute [local go_sem high] My.binOp_gtr_flip
set_option linter.unusedVariables false
set_option linter.unusedSimpArgs false

/-! ### impl_insText: function 57 -/
mutual
def impl_insText.j0 : Nat → Bool → Int → Int → Int → ByteArray → Int → Int → ByteArray → Option (ByteArray × Bool)
  | 0, _, _, _, _, _, _, _, _ => none
  | k + 1, x4, x182000, x182001, x182002, x182003, x182004, x182005, x182006 => (impl_within.f x182000 1 16).bind fun t184 => (if t184 = true then ((impl_ValueOK.f x182004 x182005 x182006).bind fun t185 => (if t185 = true then (impl_insText.j1 k (!x4) x182000 x182001 x182002 x182003 x182004 x182005 x182006) else (impl_insText.j1 k true x182000 x182001 x182002 x182003 x182004 x182005 x182006))) else (impl_insText.j1 k true x182000 x182001 x182002 x182003 x182004 x182005 x182006))
def impl_insText.j1 : Nat → Bool → Int → Int → Int → ByteArray → Int → Int → ByteArray → Option (ByteArray × Bool)
  | 0, _, _, _, _, _, _, _, _ => none
  | k + 1, x34, x182000, x182001, x182002, x182003, x182004, x182005, x182006 => if x34 = true then (some ((⟨#[]⟩ : ByteArray), false)) else ((impl_opWords.f).bind fun t186 => (if 0 ≤ (wrap64 (x182000 - 1)) then (if (wrap64 (x182000 - 1)) < (t186.length : Int) then ((strconv_Itoa_70.f x182001).bind fun t190 => (if x182000 = 1 then (impl_insText.j2 k (rdOf ByteArray.empty t186 (wrap64 (x182000 - 1))) t190 (x182004 == 3) x182000 x182001 x182002 x182003 x182004 x182005 x182006) else (impl_insText.j2 k (rdOf ByteArray.empty t186 (wrap64 (x182000 - 1))) t190 false x182000 x182001 x182002 x182003 x182004 x182005 x182006))) else (none)) else (none)))
def impl_insText.j2 : Nat → ByteArray → ByteArray → Bool → Int → Int → Int → ByteArray → Int → Int → ByteArray → Option (ByteArray × Bool)
  | 0, _, _, _, _, _, _, _, _, _, _ => none
  | k + 1, x5, x6, x44, x182000, x182001, x182002, x182003, x182004, x182005, x182006 => if x44 = true then ((impl_quoteText.f x182006).bind fun t191 => (if 1 + t191.size ≤ 9223372036854775807 then (if x5.size + ((⟨#[32]⟩ : ByteArray) ++ t191).size ≤ 9223372036854775807 then (some (x5 ++ ((⟨#[32]⟩ : ByteArray) ++ t191), true)) else (none)) else (none))) else (if x182000 = 1 then ((impl_valueText.f x182004 x182005 x182006).bind fun t192 => (if 1 + t192.size ≤ 9223372036854775807 then (if x5.size + ((⟨#[32]⟩ : ByteArray) ++ t192).size ≤ 9223372036854775807 then (some (x5 ++ ((⟨#[32]⟩ : ByteArray) ++ t192), true)) else (none)) else (none))) else (if x182000 = 4 then (impl_insText.j3 k x5 x6 true x182000 x182001 x182002 x182003 x182004 x182005 x182006) else (impl_insText.j3 k x5 x6 (x182000 == 5) x182000 x182001 x182002 x182003 x182004 x182005 x182006)))
def impl_insText.j3 : Nat → ByteArray → ByteArray → Bool → Int → Int → Int → ByteArray → Int → Int → ByteArray → Option (ByteArray × Bool)
  | 0, _, _, _, _, _, _, _, _, _, _ => none
  | k + 1, x5, x6, x71, x182000, x182001, x182002, x182003, x182004, x182005, x182006 => if x71 = true then (if 1 + x182003.size ≤ 9223372036854775807 then (if x5.size + ((⟨#[32]⟩ : ByteArray) ++ x182003).size ≤ 9223372036854775807 then (some (x5 ++ ((⟨#[32]⟩ : ByteArray) ++ x182003), true)) else (none)) else (none)) else (if x182000 = 10 then (if 1 + x6.size ≤ 9223372036854775807 then (if ((⟨#[32]⟩ : ByteArray) ++ x6).size + 1 ≤ 9223372036854775807 then ((strconv_Itoa_70.f x182002).bind fun t193 => (if (((⟨#[32]⟩ : ByteArray) ++ x6) ++ (⟨#[32]⟩ : ByteArray)).size + t193.size ≤ 9223372036854775807 then (if x5.size + ((((⟨#[32]⟩ : ByteArray) ++ x6) ++ (⟨#[32]⟩ : ByteArray)) ++ t193).size ≤ 9223372036854775807 then (some (x5 ++ ((((⟨#[32]⟩ : ByteArray) ++ x6) ++ (⟨#[32]⟩ : ByteArray)) ++ t193), true)) else (none)) else (none))) else (none)) else (none)) else (if x182000 = 11 then (if 1 + x182003.size ≤ 9223372036854775807 then (if ((⟨#[32]⟩ : ByteArray) ++ x182003).size + 1 ≤ 9223372036854775807 then (if (((⟨#[32]⟩ : ByteArray) ++ x182003) ++ (⟨#[32]⟩ : ByteArray)).size + x6.size ≤ 9223372036854775807 then (if x5.size + ((((⟨#[32]⟩ : ByteArray) ++ x182003) ++ (⟨#[32]⟩ : ByteArray)) ++ x6).size ≤ 9223372036854775807 then (some (x5 ++ ((((⟨#[32]⟩ : ByteArray) ++ x182003) ++ (⟨#[32]⟩ : ByteArray)) ++ x6), true)) else (none)) else (none)) else (none)) else (none)) else (if x182000 = 2 then (if 1 + x6.size ≤ 9223372036854775807 then (if x5.size + ((⟨#[32]⟩ : ByteArray) ++ x6).size ≤ 9223372036854775807 then (some (x5 ++ ((⟨#[32]⟩ : ByteArray) ++ x6), true)) else (none)) else (none)) else (if x182000 = 3 then (if 1 + x6.size ≤ 9223372036854775807 then (if x5.size + ((⟨#[32]⟩ : ByteArray) ++ x6).size ≤ 9223372036854775807 then (some (x5 ++ ((⟨#[32]⟩ : ByteArray) ++ x6), true)) else (none)) else (none)) else ((impl_leads.f k x182000).bind fun t194 => (if t194 = true then (if 1 + x6.size ≤ 9223372036854775807 then (if x5.size + ((⟨#[32]⟩ : ByteArray) ++ x6).size ≤ 9223372036854775807 then (some (x5 ++ ((⟨#[32]⟩ : ByteArray) ++ x6), true)) else (none)) else (none)) else (some (x5, true))))))))
end
def impl_insText.f (k : Nat) (a0_0 : Int) (a0_1 : Int) (a0_2 : Int) (a0_3 : ByteArray) (a0_4 : Int) (a0_5 : Int) (a0_6 : ByteArray) : Option (ByteArray × Bool) := (impl_within.f a0_1 0 10000).bind fun t182 => (if t182 = true then ((impl_within.f a0_2 0 10000).bind fun t183 => (if t183 = true then (impl_insText.j0 k (decide ((a0_3.size : Int) ≤ 20)) a0_0 a0_1 a0_2 a0_3 a0_4 a0_5 a0_6) else (impl_insText.j0 k false a0_0 a0_1 a0_2 a0_3 a0_4 a0_5 a0_6))) else (impl_insText.j0 k false a0_0 a0_1 a0_2 a0_3 a0_4 a0_5 a0_6))
theorem impl_insText.mono_l : ∀ k, (∀ y0 y1 y2 y3 y4 y5 y6 y7, LeO (impl_insText.j0 k y0 y1 y2 y3 y4 y5 y6 y7) (impl_insText.j0 (k + 1) y0 y1 y2 y3 y4 y5 y6 y7)) ∧ (∀ y0 y1 y2 y3 y4 y5 y6 y7, LeO (impl_insText.j1 k y0 y1 y2 y3 y4 y5 y6 y7) (impl_insText.j1 (k + 1) y0 y1 y2 y3 y4 y5 y6 y7)) ∧ (∀ y0 y1 y2 y3 y4 y5 y6 y7 y8 y9, LeO (impl_insText.j2 k y0 y1 y2 y3 y4 y5 y6 y7 y8 y9) (impl_insText.j2 (k + 1) y0 y1 y2 y3 y4 y5 y6 y7 y8 y9)) ∧ (∀ y0 y1 y2 y3 y4 y5 y6 y7 y8 y9, LeO (impl_insText.j3 k y0 y1 y2 y3 y4 y5 y6 y7 y8 y9) (impl_insText.j3 (k + 1) y0 y1 y2 y3 y4 y5 y6 y7 y8 y9))
  | 0 => ⟨fun _ _ _ _ _ _ _ _ r h => by simp [impl_insText.j0] at h, fun _ _ _ _ _ _ _ _ r h => by simp [impl_insText.j1] at h, fun _ _ _ _ _ _ _ _ _ _ r h => by simp [impl_insText.j2] at h, fun _ _ _ _ _ _ _ _ _ _ r h => by simp [impl_insText.j3] at h⟩
  | k + 1 => by
    obtain ⟨ih0, ih1, ih2, ih3⟩ := impl_insText.mono_l k
    refine ⟨?_, ?_, ?_, ?_⟩
    · intro y0 y1 y2 y3 y4 y5 y6 y7
      unfold impl_insText.j0
      repeat' first
      | (with_reducible exact ih0 _ _ _ _ _ _ _ _)
      | (with_reducible exact ih1 _ _ _ _ _ _ _ _)
      | (with_reducible exact ih2 _ _ _ _ _ _ _ _ _ _)
      | (with_reducible exact ih3 _ _ _ _ _ _ _ _ _ _)
      | (with_reducible exact impl_leads.mono _ _)
      | (with_reducible exact LeO.refl _)
      | (with_reducible exact LeO.none _)
      | (with_reducible refine LeO.ite ?_ ?_)
      | (with_reducible refine LeO.bind ?_ (fun _ => ?_))
      | exact ih0 _ _ _ _ _ _ _ _
      | exact ih1 _ _ _ _ _ _ _ _
      | exact ih2 _ _ _ _ _ _ _ _ _ _
      | exact ih3 _ _ _ _ _ _ _ _ _ _
      | exact impl_leads.mono _ _
      | exact LeO.none _
      | refine LeO.ite ?_ ?_
      | refine LeO.bind ?_ (fun _ => ?_)
    · intro y0 y1 y2 y3 y4 y5 y6 y7
      unfold impl_insText.j1
      repeat' first
      | (with_reducible exact ih0 _ _ _ _ _ _ _ _)
      | (with_reducible exact ih1 _ _ _ _ _ _ _ _)
      | (with_reducible exact ih2 _ _ _ _ _ _ _ _ _ _)
      | (with_reducible exact ih3 _ _ _ _ _ _ _ _ _ _)
      | (with_reducible exact impl_leads.mono _ _)
      | (with_reducible exact LeO.refl _)
      | (with_reducible exact LeO.none _)
      | (with_reducible refine LeO.ite ?_ ?_)
      | (with_reducible refine LeO.bind ?_ (fun _ => ?_))
      | exact ih0 _ _ _ _ _ _ _ _
      | exact ih1 _ _ _ _ _ _ _ _
      | exact ih2 _ _ _ _ _ _ _ _ _ _
      | exact ih3 _ _ _ _ _ _ _ _ _ _
      | exact impl_leads.mono _ _
      | exact LeO.none _
      | refine LeO.ite ?_ ?_
      | refine LeO.bind ?_ (fun _ => ?_)
    · intro y0 y1 y2 y3 y4 y5 y6 y7 y8 y9
      unfold impl_insText.j2
      repeat' first
      | (with_reducible exact ih0 _ _ _ _ _ _ _ _)
      | (with_reducible exact ih1 _ _ _ _ _ _ _ _)
      | (with_reducible exact ih2 _ _ _ _ _ _ _ _ _ _)
      | (with_reducible exact ih3 _ _ _ _ _ _ _ _ _ _)
      | (with_reducible exact impl_leads.mono _ _)
      | (with_reducible exact LeO.refl _)
      | (with_reducible exact LeO.none _)
      | (with_reducible refine LeO.ite ?_ ?_)
      | (with_reducible refine LeO.bind ?_ (fun _ => ?_))
      | exact ih0 _ _ _ _ _ _ _ _
      | exact ih1 _ _ _ _ _ _ _ _
      | exact ih2 _ _ _ _ _ _ _ _ _ _
      | exact ih3 _ _ _ _ _ _ _ _ _ _
      | exact impl_leads.mono _ _
      | exact LeO.none _
      | refine LeO.ite ?_ ?_
      | refine LeO.bind ?_ (fun _ => ?_)
    · intro y0 y1 y2 y3 y4 y5 y6 y7 y8 y9
      unfold impl_insText.j3
      repeat' first
      | (with_reducible exact ih0 _ _ _ _ _ _ _ _)
      | (with_reducible exact ih1 _ _ _ _ _ _ _ _)
      | (with_reducible exact ih2 _ _ _ _ _ _ _ _ _ _)
      | (with_reducible exact ih3 _ _ _ _ _ _ _ _ _ _)
      | (with_reducible exact impl_leads.mono _ _)
      | (with_reducible exact LeO.refl _)
      | (with_reducible exact LeO.none _)
      | (with_reducible refine LeO.ite ?_ ?_)
      | (with_reducible refine LeO.bind ?_ (fun _ => ?_))
      | exact ih0 _ _ _ _ _ _ _ _
      | exact ih1 _ _ _ _ _ _ _ _
      | exact ih2 _ _ _ _ _ _ _ _ _ _
      | exact ih3 _ _ _ _ _ _ _ _ _ _
      | exact impl_leads.mono _ _
      | exact LeO.none _
      | refine LeO.ite ?_ ?_
      | refine LeO.bind ?_ (fun _ => ?_)
theorem impl_insText.mono : ∀ a0 a1 a2 a3 a4 a5 a6 k, LeO (impl_insText.f k a0 a1 a2 a3 a4 a5 a6) (impl_insText.f (k + 1) a0 a1 a2 a3 a4 a5 a6) := by
  intro a0 a1 a2 a3 a4 a5 a6 k
  obtain ⟨ih0, ih1, ih2, ih3⟩ := impl_insText.mono_l k
  unfold impl_insText.f
  repeat' first
      | (with_reducible exact ih0 _ _ _ _ _ _ _ _)
      | (with_reducible exact ih1 _ _ _ _ _ _ _ _)
      | (with_reducible exact ih2 _ _ _ _ _ _ _ _ _ _)
      | (with_reducible exact ih3 _ _ _ _ _ _ _ _ _ _)
      | (with_reducible exact impl_leads.mono _ _)
      | (with_reducible exact LeO.refl _)
      | (with_reducible exact LeO.none _)
      | (with_reducible refine LeO.ite ?_ ?_)
      | (with_reducible refine LeO.bind ?_ (fun _ => ?_))
      | exact ih0 _ _ _ _ _ _ _ _
      | exact ih1 _ _ _ _ _ _ _ _
      | exact ih2 _ _ _ _ _ _ _ _ _ _
      | exact ih3 _ _ _ _ _ _ _ _ _ _
      | exact impl_leads.mono _ _
      | exact LeO.none _
      | refine LeO.ite ?_ ?_
      | refine LeO.bind ?_ (fun _ => ?_)
set_option maxHeartbeats 8000000 in
set_option maxRecDepth 100000 in
theorem impl_insText.calls (k : Nat) (a0_0 : Int) (a0_1 : Int) (a0_2 : Int) (a0_3 : ByteArray) (a0_4 : Int) (a0_5 : Int) (a0_6 : ByteArray) (r1 : ByteArray) (r2 : Bool) (w : World) (hG : Aside0 (My.Tab w)) (h : impl_insText.f k a0_0 a0_1 a0_2 a0_3 a0_4 a0_5 a0_6 = some (r1, r2)) :
    Calls Tryd.prog 57 #[.agg #[.int .i64 a0_0, .int .i64 a0_1, .int .i64 a0_2, .string a0_3, .int .i64 a0_4, .int .i64 a0_5, .string a0_6]] w fun e w' => e = .returned (.tuple #[.string r1, .bool r2]) ∧ Below w.heap.size w w' := by
  have hu44 := Tryd.underlying44
  have hu29 := Tryd.underlying29
  have HB := Aside0.mk (Below.refl w.heap.size w)
  have H : ((impl_within.f a0_1 0 10000).bind fun t182 => (if t182 = true then ((impl_within.f a0_2 0 10000).bind fun t183 => (if t183 = true then (impl_insText.j0 k (decide ((a0_3.size : Int) ≤ 20)) a0_0 a0_1 a0_2 a0_3 a0_4 a0_5 a0_6) else (impl_insText.j0 k false a0_0 a0_1 a0_2 a0_3 a0_4 a0_5 a0_6))) else (impl_insText.j0 k false a0_0 a0_1 a0_2 a0_3 a0_4 a0_5 a0_6))) = some (r1, r2) := h
  clear h
  have HC2 := Aside0.mk H
  clear H
  go_enter Tryd.func57, Tryd.ntmps57
  go_upto_region 1 with (first | ((with_reducible refine gate_dst (N := 1) rfl ?_); (try (refine gate_guard (by rfl) ?_; dsimp only)); refine box_event ?hg (N := 1) ?hd (cs := #[.int .i64 a0_0, .int .i64 a0_1, .int .i64 a0_2, .string a0_3, .int .i64 a0_4, .int .i64 a0_5, .string a0_6]) (t := 44) ?hr ?_; (case hd => rfl); (case hg => rfl); (case hr => first | (go_simp; done) | (go_simp; rfl)); intro gb181 hg w3 hbox hb; have n0_ := Aside0.mk (below_step (by repeat (first | (with_reducible first | exact HB.out | apply below_alloc | apply pw_below_drewN | apply below_drew1) | exact HB.out)) hb); have n1_ := Aside0.mk (hbox); have n2_ := Aside0.mk ((by rw [hg]; exact (below_size (by repeat (first | (with_reducible first | exact HB.out | apply below_alloc | apply pw_below_drewN | apply below_drew1) | exact HB.out))) : w.heap.size ≤ gb181)); have n3_ := Aside0.mk ((by rw [hg]; exact (below_size (by repeat (first | (with_reducible first | exact HB.out | apply below_alloc | apply pw_below_drewN | apply below_drew1) | exact HB.out))) : w.heap.size ≤ gb181)); clear HB; have HB := n0_; have BK181 := n1_; have GW181 := n2_; have GE181 := n3_; clear n0_ n1_ n2_ n3_; clear hb hbox hg))
  (try simp only [Act.put, List.setIfInBounds_toArray, List.set_cons_zero, List.set_cons_succ])
  go_cut [4] (fun v4 wc => ∃ (kq : Nat) (x4_1 : Bool), v4 = .bool x4_1 ∧ Aside0 (impl_insText.j0 kq x4_1 a0_0 a0_1 a0_2 a0_3 a0_4 a0_5 a0_6 = some (r1, r2)) ∧ Aside0 (kq ≤ k) ∧ Aside0 (wc.heap[gb181]? = some (.cells #[.int .i64 a0_0, .int .i64 a0_1, .int .i64 a0_2, .string a0_3, .int .i64 a0_4, .int .i64 a0_5, .string a0_6] 44 (0, 0))) ∧ Aside0 (Below w.heap.size w wc))
  case first =>
    have H := HC2.out
    clear HC2
    replace H := Option.bind_eq_some_iff.mp H
    obtain ⟨t182, A40, H⟩ := H
    replace H : (if t182 = true then ((impl_within.f a0_2 0 10000).bind fun t183 => (if t183 = true then (impl_insText.j0 k (decide ((a0_3.size : Int) ≤ 20)) a0_0 a0_1 a0_2 a0_3 a0_4 a0_5 a0_6) else (impl_insText.j0 k false a0_0 a0_1 a0_2 a0_3 a0_4 a0_5 a0_6))) else (impl_insText.j0 k false a0_0 a0_1 a0_2 a0_3 a0_4 a0_5 a0_6)) = some (r1, r2) := H
    have A4 := Aside0.mk A40
    clear A40
    by_cases c5 : t182 = true
    · subst c5
      have H1 : ((impl_within.f a0_2 0 10000).bind fun t183 => (if t183 = true then (impl_insText.j0 k (decide ((a0_3.size : Int) ≤ 20)) a0_0 a0_1 a0_2 a0_3 a0_4 a0_5 a0_6) else (impl_insText.j0 k false a0_0 a0_1 a0_2 a0_3 a0_4 a0_5 a0_6))) = some (r1, r2) := by rw [if_pos rfl] at H; exact H
      clear H
      have H := H1
      clear H1
      replace H := Option.bind_eq_some_iff.mp H
      obtain ⟨t183, A60, H⟩ := H
      replace H : (if t183 = true then (impl_insText.j0 k (decide ((a0_3.size : Int) ≤ 20)) a0_0 a0_1 a0_2 a0_3 a0_4 a0_5 a0_6) else (impl_insText.j0 k false a0_0 a0_1 a0_2 a0_3 a0_4 a0_5 a0_6)) = some (r1, r2) := H
      have A6 := Aside0.mk A60
      clear A60
      by_cases c7 : t183 = true
      · subst c7
        have H1 : (impl_insText.j0 k (decide ((a0_3.size : Int) ≤ 20)) a0_0 a0_1 a0_2 a0_3 a0_4 a0_5 a0_6) = some (r1, r2) := by rw [if_pos rfl] at H; exact H
        clear H
        have H := H1
        clear H1
        have H' := Aside0.mk H
        clear H
        have hcz8_0 : w3.cell? ⟨gb181, 0, none⟩ = some (.int .i64 a0_0) := (blk_cell BK181.out 0).trans rfl
        have hcz8_1 : w3.cell? ⟨gb181, 1, none⟩ = some (.int .i64 a0_1) := (blk_cell BK181.out 1).trans rfl
        have hcz8_2 : w3.cell? ⟨gb181, 2, none⟩ = some (.int .i64 a0_2) := (blk_cell BK181.out 2).trans rfl
        have hcz8_3 : w3.cell? ⟨gb181, 3, none⟩ = some (.string a0_3) := (blk_cell BK181.out 3).trans rfl
        have hcz8_4 : w3.cell? ⟨gb181, 4, none⟩ = some (.int .i64 a0_4) := (blk_cell BK181.out 4).trans rfl
        have hcz8_5 : w3.cell? ⟨gb181, 5, none⟩ = some (.int .i64 a0_5) := (blk_cell BK181.out 5).trans rfl
        have hcz8_6 : w3.cell? ⟨gb181, 6, none⟩ = some (.string a0_6) := (blk_cell BK181.out 6).trans rfl
        have hfz8_0 := blk_frozen BK181.out 0
        have hfz8_1 := blk_frozen BK181.out 1
        have hfz8_2 := blk_frozen BK181.out 2
        have hfz8_3 := blk_frozen BK181.out 3
        have hfz8_4 := blk_frozen BK181.out 4
        have hfz8_5 := blk_frozen BK181.out 5
        have hfz8_6 := blk_frozen BK181.out 6
        go_wp2_with (first | ((with_reducible refine gate_callee (f := 67) rfl ?_); refine goesL_ (some 9) rfl rfl Tryd.func67 (by kernel_rfl) rfl #[.int .i64 a0_1, .int .i64 0, .int .i64 10000] rfl (by (try simp only [List.map_toArray, List.map_cons, List.map_nil]); first | done | rfl | (simp only [List.length_drop, List.length_take]; rfl)) ?_; (with_reducible refine (impl_within.calls a0_1 0 10000 true _ A4.out).mono ?_); rintro e w' ⟨rfl, ⟨nd, rfl⟩⟩; refine ⟨_, rfl, ?_⟩) | (go_at_call 67; (with_reducible refine (impl_within.calls a0_2 0 10000 true _ A6.out).mono ?_); rintro e w' ⟨rfl, ⟨nd, rfl⟩⟩))
        go_meet
        case rel => exact ⟨_, (decide ((a0_3.size : Int) ≤ 20)), (by first | rfl | (simp; done) | (simp [*]; done)), H', ⟨by first | omega | exact Nat.le_refl _⟩, ⟨by (with_reducible repeat (first | refine blk_drewN ?_ _ | refine blk_drew ?_ | refine blk_alloc ?_ _)); exact BK181.out⟩, ⟨by repeat (first | (with_reducible first | exact HB.out | apply below_alloc | apply pw_below_drewN | apply below_drew1 | refine below_set ?_ GE181.out) | exact HB.out)⟩⟩
      · replace c7 := Bool.eq_false_iff.mpr c7
        subst c7
        have H1 : (impl_insText.j0 k false a0_0 a0_1 a0_2 a0_3 a0_4 a0_5 a0_6) = some (r1, r2) := by rw [if_neg (show ¬ (false = true) by decide)] at H; exact H
        clear H
        have H := H1
        clear H1
        have H' := Aside0.mk H
        clear H
        have hcz9_0 : w3.cell? ⟨gb181, 0, none⟩ = some (.int .i64 a0_0) := (blk_cell BK181.out 0).trans rfl
        have hcz9_1 : w3.cell? ⟨gb181, 1, none⟩ = some (.int .i64 a0_1) := (blk_cell BK181.out 1).trans rfl
        have hcz9_2 : w3.cell? ⟨gb181, 2, none⟩ = some (.int .i64 a0_2) := (blk_cell BK181.out 2).trans rfl
        have hcz9_3 : w3.cell? ⟨gb181, 3, none⟩ = some (.string a0_3) := (blk_cell BK181.out 3).trans rfl
        have hcz9_4 : w3.cell? ⟨gb181, 4, none⟩ = some (.int .i64 a0_4) := (blk_cell BK181.out 4).trans rfl
        have hcz9_5 : w3.cell? ⟨gb181, 5, none⟩ = some (.int .i64 a0_5) := (blk_cell BK181.out 5).trans rfl
        have hcz9_6 : w3.cell? ⟨gb181, 6, none⟩ = some (.string a0_6) := (blk_cell BK181.out 6).trans rfl
        have hfz9_0 := blk_frozen BK181.out 0
        have hfz9_1 := blk_frozen BK181.out 1
        have hfz9_2 := blk_frozen BK181.out 2
        have hfz9_3 := blk_frozen BK181.out 3
        have hfz9_4 := blk_frozen BK181.out 4
        have hfz9_5 := blk_frozen BK181.out 5
        have hfz9_6 := blk_frozen BK181.out 6
        go_wp2_with (first | ((with_reducible refine gate_callee (f := 67) rfl ?_); refine goesL_ (some 9) rfl rfl Tryd.func67 (by kernel_rfl) rfl #[.int .i64 a0_1, .int .i64 0, .int .i64 10000] rfl (by (try simp only [List.map_toArray, List.map_cons, List.map_nil]); first | done | rfl | (simp only [List.length_drop, List.length_take]; rfl)) ?_; (with_reducible refine (impl_within.calls a0_1 0 10000 true _ A4.out).mono ?_); rintro e w' ⟨rfl, ⟨nd, rfl⟩⟩; refine ⟨_, rfl, ?_⟩) | (go_at_call 67; (with_reducible refine (impl_within.calls a0_2 0 10000 false _ A6.out).mono ?_); rintro e w' ⟨rfl, ⟨nd, rfl⟩⟩))
        go_meet
        case rel => exact ⟨_, (false), (by first | rfl | (simp; done) | (simp [*]; done)), H', ⟨by first | omega | exact Nat.le_refl _⟩, ⟨by (with_reducible repeat (first | refine blk_drewN ?_ _ | refine blk_drew ?_ | refine blk_alloc ?_ _)); exact BK181.out⟩, ⟨by repeat (first | (with_reducible first | exact HB.out | apply below_alloc | apply pw_below_drewN | apply below_drew1 | refine below_set ?_ GE181.out) | exact HB.out)⟩⟩
    · replace c5 := Bool.eq_false_iff.mpr c5
      subst c5
      have H1 : (impl_insText.j0 k false a0_0 a0_1 a0_2 a0_3 a0_4 a0_5 a0_6) = some (r1, r2) := by rw [if_neg (show ¬ (false = true) by decide)] at H; exact H
      clear H
      have H := H1
      clear H1
      have H' := Aside0.mk H
      clear H
      have hcz10_0 : w3.cell? ⟨gb181, 0, none⟩ = some (.int .i64 a0_0) := (blk_cell BK181.out 0).trans rfl
      have hcz10_1 : w3.cell? ⟨gb181, 1, none⟩ = some (.int .i64 a0_1) := (blk_cell BK181.out 1).trans rfl
      have hcz10_2 : w3.cell? ⟨gb181, 2, none⟩ = some (.int .i64 a0_2) := (blk_cell BK181.out 2).trans rfl
      have hcz10_3 : w3.cell? ⟨gb181, 3, none⟩ = some (.string a0_3) := (blk_cell BK181.out 3).trans rfl
      have hcz10_4 : w3.cell? ⟨gb181, 4, none⟩ = some (.int .i64 a0_4) := (blk_cell BK181.out 4).trans rfl
      have hcz10_5 : w3.cell? ⟨gb181, 5, none⟩ = some (.int .i64 a0_5) := (blk_cell BK181.out 5).trans rfl
      have hcz10_6 : w3.cell? ⟨gb181, 6, none⟩ = some (.string a0_6) := (blk_cell BK181.out 6).trans rfl
      have hfz10_0 := blk_frozen BK181.out 0
      have hfz10_1 := blk_frozen BK181.out 1
      have hfz10_2 := blk_frozen BK181.out 2
      have hfz10_3 := blk_frozen BK181.out 3
      have hfz10_4 := blk_frozen BK181.out 4
      have hfz10_5 := blk_frozen BK181.out 5
      have hfz10_6 := blk_frozen BK181.out 6
      go_wp2_with (first | ((with_reducible refine gate_callee (f := 67) rfl ?_); refine goesL_ (some 9) rfl rfl Tryd.func67 (by kernel_rfl) rfl #[.int .i64 a0_1, .int .i64 0, .int .i64 10000] rfl (by (try simp only [List.map_toArray, List.map_cons, List.map_nil]); first | done | rfl | (simp only [List.length_drop, List.length_take]; rfl)) ?_; (with_reducible refine (impl_within.calls a0_1 0 10000 false _ A4.out).mono ?_); rintro e w' ⟨rfl, ⟨nd, rfl⟩⟩; refine ⟨_, rfl, ?_⟩))
      go_meet
      case rel => exact ⟨_, (false), (by first | rfl | (simp; done) | (simp [*]; done)), H', ⟨by first | omega | exact Nat.le_refl _⟩, ⟨by (with_reducible repeat (first | refine blk_drewN ?_ _ | refine blk_drew ?_ | refine blk_alloc ?_ _)); exact BK181.out⟩, ⟨by repeat (first | (with_reducible first | exact HB.out | apply below_alloc | apply pw_below_drewN | apply below_drew1 | refine below_set ?_ GE181.out) | exact HB.out)⟩⟩
  case rest =>
    clear HC2
    try clear p2
    try clear c5
    try clear c6
    try clear c7
    try clear hcz10_0
    try clear hcz10_1
    try clear hcz10_2
    try clear hcz10_3
    try clear hcz10_4
    try clear hcz10_5
    try clear hcz10_6
    try clear hcz8_0
    try clear hcz8_1
    try clear hcz8_2
    try clear hcz8_3
    try clear hcz8_4
    try clear hcz8_5
    try clear hcz8_6
    try clear hcz9_0
    try clear hcz9_1
    try clear hcz9_2
    try clear hcz9_3
    try clear hcz9_4
    try clear hcz9_5
    try clear hcz9_6
    try clear hfz10_0
    try clear hfz10_1
    try clear hfz10_2
    try clear hfz10_3
    try clear hfz10_4
    try clear hfz10_5
    try clear hfz10_6
    try clear hfz8_0
    try clear hfz8_1
    try clear hfz8_2
    try clear hfz8_3
    try clear hfz8_4
    try clear hfz8_5
    try clear hfz8_6
    try clear hfz9_0
    try clear hfz9_1
    try clear hfz9_2
    try clear hfz9_3
    try clear hfz9_4
    try clear hfz9_5
    try clear hfz9_6
    obtain ⟨kq, x4_1, rfl, HA, HJ1, BK181, HB⟩ := hcut
    cases kq with
    | zero => exact absurd HA.out (by simp [impl_insText.j0])
    | succ kj1 =>
      have H := HA.out
      clear HA
      simp only [impl_insText.j0] at H
      have HC11 := Aside0.mk H
      clear H
      go_upto_region 2 with (fail)
      go_cut [34] (fun v34 wc => ∃ (kq : Nat) (x34_10 : Bool), v34 = .bool x34_10 ∧ Aside0 (impl_insText.j1 kq x34_10 a0_0 a0_1 a0_2 a0_3 a0_4 a0_5 a0_6 = some (r1, r2)) ∧ Aside0 (kq ≤ kj1) ∧ Aside0 (wc.heap[gb181]? = some (.cells #[.int .i64 a0_0, .int .i64 a0_1, .int .i64 a0_2, .string a0_3, .int .i64 a0_4, .int .i64 a0_5, .string a0_6] 44 (0, 0))) ∧ Aside0 (Below w.heap.size w wc))
      case first =>
        have H := HC11.out
        clear HC11
        replace H := Option.bind_eq_some_iff.mp H
        obtain ⟨t184, A120, H⟩ := H
        replace H : (if t184 = true then ((impl_ValueOK.f a0_4 a0_5 a0_6).bind fun t185 => (if t185 = true then (impl_insText.j1 kj1 (!x4_1) a0_0 a0_1 a0_2 a0_3 a0_4 a0_5 a0_6) else (impl_insText.j1 kj1 true a0_0 a0_1 a0_2 a0_3 a0_4 a0_5 a0_6))) else (impl_insText.j1 kj1 true a0_0 a0_1 a0_2 a0_3 a0_4 a0_5 a0_6)) = some (r1, r2) := H
        have A12 := Aside0.mk A120
        clear A120
        by_cases c13 : t184 = true
        · subst c13
          have H1 : ((impl_ValueOK.f a0_4 a0_5 a0_6).bind fun t185 => (if t185 = true then (impl_insText.j1 kj1 (!x4_1) a0_0 a0_1 a0_2 a0_3 a0_4 a0_5 a0_6) else (impl_insText.j1 kj1 true a0_0 a0_1 a0_2 a0_3 a0_4 a0_5 a0_6))) = some (r1, r2) := by rw [if_pos rfl] at H; exact H
          clear H
          have H := H1
          clear H1
          replace H := Option.bind_eq_some_iff.mp H
          obtain ⟨t185, A140, H⟩ := H
          replace H : (if t185 = true then (impl_insText.j1 kj1 (!x4_1) a0_0 a0_1 a0_2 a0_3 a0_4 a0_5 a0_6) else (impl_insText.j1 kj1 true a0_0 a0_1 a0_2 a0_3 a0_4 a0_5 a0_6)) = some (r1, r2) := H
          have A14 := Aside0.mk A140
          clear A140
          by_cases c15 : t185 = true
          · subst c15
            have H1 : (impl_insText.j1 kj1 (!x4_1) a0_0 a0_1 a0_2 a0_3 a0_4 a0_5 a0_6) = some (r1, r2) := by rw [if_pos rfl] at H; exact H
            clear H
            have H := H1
            clear H1
            have H' := Aside0.mk H
            clear H
            have hcz16_0 : wc.cell? ⟨gb181, 0, none⟩ = some (.int .i64 a0_0) := (blk_cell BK181.out 0).trans rfl
            have hcz16_1 : wc.cell? ⟨gb181, 1, none⟩ = some (.int .i64 a0_1) := (blk_cell BK181.out 1).trans rfl
            have hcz16_2 : wc.cell? ⟨gb181, 2, none⟩ = some (.int .i64 a0_2) := (blk_cell BK181.out 2).trans rfl
            have hcz16_3 : wc.cell? ⟨gb181, 3, none⟩ = some (.string a0_3) := (blk_cell BK181.out 3).trans rfl
            have hcz16_4 : wc.cell? ⟨gb181, 4, none⟩ = some (.int .i64 a0_4) := (blk_cell BK181.out 4).trans rfl
            have hcz16_5 : wc.cell? ⟨gb181, 5, none⟩ = some (.int .i64 a0_5) := (blk_cell BK181.out 5).trans rfl
            have hcz16_6 : wc.cell? ⟨gb181, 6, none⟩ = some (.string a0_6) := (blk_cell BK181.out 6).trans rfl
            have hfz16_0 := blk_frozen BK181.out 0
            have hfz16_1 := blk_frozen BK181.out 1
            have hfz16_2 := blk_frozen BK181.out 2
            have hfz16_3 := blk_frozen BK181.out 3
            have hfz16_4 := blk_frozen BK181.out 4
            have hfz16_5 := blk_frozen BK181.out 5
            have hfz16_6 := blk_frozen BK181.out 6
            go_wp2_with (first | ((with_reducible refine gate_callee (f := 67) rfl ?_); refine goesL_ (some 23) rfl rfl Tryd.func67 (by kernel_rfl) rfl #[.int .i64 a0_0, .int .i64 1, .int .i64 16] rfl (by (try simp only [List.map_toArray, List.map_cons, List.map_nil]); first | done | rfl | (simp only [List.length_drop, List.length_take]; rfl)) ?_; (with_reducible refine (impl_within.calls a0_0 1 16 true _ A12.out).mono ?_); rintro e w' ⟨rfl, ⟨nd, rfl⟩⟩; refine ⟨_, rfl, ?_⟩) | (go_at_call 46; (with_reducible refine (impl_ValueOK.calls a0_4 a0_5 a0_6 true _ A14.out).mono ?_); rintro e w17 ⟨rfl, hb⟩; have n0_ := Aside0.mk (blk_below (g := gb181) (o := .cells #[.int .i64 a0_0, .int .i64 a0_1, .int .i64 a0_2, .string a0_3, .int .i64 a0_4, .int .i64 a0_5, .string a0_6] 44 (0, 0)) (by (with_reducible repeat (first | refine blk_drewN ?_ _ | refine blk_drew ?_ | refine blk_alloc ?_ _)); exact BK181.out) hb); have n1_ := Aside0.mk (below_step (by repeat (first | (with_reducible first | exact HB.out | apply below_alloc | apply pw_below_drewN | apply below_drew1 | refine below_set ?_ GE181.out) | exact HB.out)) hb); clear BK181; clear HB; have BK181 := n0_; have HB := n1_; clear n0_ n1_; (try clear hb); (try clear hb2); (try clear hk); (try clear hi)))
            go_meet
            case rel => exact ⟨_, (!x4_1), (by first | rfl | (simp; done) | (simp [*]; done)), H', ⟨by have := HJ1.out; first | omega | exact Nat.le_refl _⟩, ⟨by (with_reducible repeat (first | refine blk_drewN ?_ _ | refine blk_drew ?_ | refine blk_alloc ?_ _)); exact BK181.out⟩, ⟨by repeat (first | (with_reducible first | exact HB.out | apply below_alloc | apply pw_below_drewN | apply below_drew1 | refine below_set ?_ GE181.out) | exact HB.out)⟩⟩
          · replace c15 := Bool.eq_false_iff.mpr c15
            subst c15
            have H1 : (impl_insText.j1 kj1 true a0_0 a0_1 a0_2 a0_3 a0_4 a0_5 a0_6) = some (r1, r2) := by rw [if_neg (show ¬ (false = true) by decide)] at H; exact H
            clear H
            have H := H1
            clear H1
            have H' := Aside0.mk H
            clear H
            have hcz18_0 : wc.cell? ⟨gb181, 0, none⟩ = some (.int .i64 a0_0) := (blk_cell BK181.out 0).trans rfl
            have hcz18_1 : wc.cell? ⟨gb181, 1, none⟩ = some (.int .i64 a0_1) := (blk_cell BK181.out 1).trans rfl
            have hcz18_2 : wc.cell? ⟨gb181, 2, none⟩ = some (.int .i64 a0_2) := (blk_cell BK181.out 2).trans rfl
            have hcz18_3 : wc.cell? ⟨gb181, 3, none⟩ = some (.string a0_3) := (blk_cell BK181.out 3).trans rfl
            have hcz18_4 : wc.cell? ⟨gb181, 4, none⟩ = some (.int .i64 a0_4) := (blk_cell BK181.out 4).trans rfl
            have hcz18_5 : wc.cell? ⟨gb181, 5, none⟩ = some (.int .i64 a0_5) := (blk_cell BK181.out 5).trans rfl
            have hcz18_6 : wc.cell? ⟨gb181, 6, none⟩ = some (.string a0_6) := (blk_cell BK181.out 6).trans rfl
            have hfz18_0 := blk_frozen BK181.out 0
            have hfz18_1 := blk_frozen BK181.out 1
            have hfz18_2 := blk_frozen BK181.out 2
            have hfz18_3 := blk_frozen BK181.out 3
            have hfz18_4 := blk_frozen BK181.out 4
            have hfz18_5 := blk_frozen BK181.out 5
            have hfz18_6 := blk_frozen BK181.out 6
            go_wp2_with (first | ((with_reducible refine gate_callee (f := 67) rfl ?_); refine goesL_ (some 23) rfl rfl Tryd.func67 (by kernel_rfl) rfl #[.int .i64 a0_0, .int .i64 1, .int .i64 16] rfl (by (try simp only [List.map_toArray, List.map_cons, List.map_nil]); first | done | rfl | (simp only [List.length_drop, List.length_take]; rfl)) ?_; (with_reducible refine (impl_within.calls a0_0 1 16 true _ A12.out).mono ?_); rintro e w' ⟨rfl, ⟨nd, rfl⟩⟩; refine ⟨_, rfl, ?_⟩) | (go_at_call 46; (with_reducible refine (impl_ValueOK.calls a0_4 a0_5 a0_6 false _ A14.out).mono ?_); rintro e w19 ⟨rfl, hb⟩; have n0_ := Aside0.mk (blk_below (g := gb181) (o := .cells #[.int .i64 a0_0, .int .i64 a0_1, .int .i64 a0_2, .string a0_3, .int .i64 a0_4, .int .i64 a0_5, .string a0_6] 44 (0, 0)) (by (with_reducible repeat (first | refine blk_drewN ?_ _ | refine blk_drew ?_ | refine blk_alloc ?_ _)); exact BK181.out) hb); have n1_ := Aside0.mk (below_step (by repeat (first | (with_reducible first | exact HB.out | apply below_alloc | apply pw_below_drewN | apply below_drew1 | refine below_set ?_ GE181.out) | exact HB.out)) hb); clear BK181; clear HB; have BK181 := n0_; have HB := n1_; clear n0_ n1_; (try clear hb); (try clear hb2); (try clear hk); (try clear hi)))
            go_meet
            case rel => exact ⟨_, (true), (by first | rfl | (simp; done) | (simp [*]; done)), H', ⟨by have := HJ1.out; first | omega | exact Nat.le_refl _⟩, ⟨by (with_reducible repeat (first | refine blk_drewN ?_ _ | refine blk_drew ?_ | refine blk_alloc ?_ _)); exact BK181.out⟩, ⟨by repeat (first | (with_reducible first | exact HB.out | apply below_alloc | apply pw_below_drewN | apply below_drew1 | refine below_set ?_ GE181.out) | exact HB.out)⟩⟩
        · replace c13 := Bool.eq_false_iff.mpr c13
          subst c13
          have H1 : (impl_insText.j1 kj1 true a0_0 a0_1 a0_2 a0_3 a0_4 a0_5 a0_6) = some (r1, r2) := by rw [if_neg (show ¬ (false = true) by decide)] at H; exact H
          clear H
          have H := H1
          clear H1
          have H' := Aside0.mk H
          clear H
          have hcz20_0 : wc.cell? ⟨gb181, 0, none⟩ = some (.int .i64 a0_0) := (blk_cell BK181.out 0).trans rfl
          have hcz20_1 : wc.cell? ⟨gb181, 1, none⟩ = some (.int .i64 a0_1) := (blk_cell BK181.out 1).trans rfl
          have hcz20_2 : wc.cell? ⟨gb181, 2, none⟩ = some (.int .i64 a0_2) := (blk_cell BK181.out 2).trans rfl
          have hcz20_3 : wc.cell? ⟨gb181, 3, none⟩ = some (.string a0_3) := (blk_cell BK181.out 3).trans rfl
          have hcz20_4 : wc.cell? ⟨gb181, 4, none⟩ = some (.int .i64 a0_4) := (blk_cell BK181.out 4).trans rfl
          have hcz20_5 : wc.cell? ⟨gb181, 5, none⟩ = some (.int .i64 a0_5) := (blk_cell BK181.out 5).trans rfl
          have hcz20_6 : wc.cell? ⟨gb181, 6, none⟩ = some (.string a0_6) := (blk_cell BK181.out 6).trans rfl
          have hfz20_0 := blk_frozen BK181.out 0
          have hfz20_1 := blk_frozen BK181.out 1
          have hfz20_2 := blk_frozen BK181.out 2
          have hfz20_3 := blk_frozen BK181.out 3
          have hfz20_4 := blk_frozen BK181.out 4
          have hfz20_5 := blk_frozen BK181.out 5
          have hfz20_6 := blk_frozen BK181.out 6
          go_wp2_with (first | ((with_reducible refine gate_callee (f := 67) rfl ?_); refine goesL_ (some 23) rfl rfl Tryd.func67 (by kernel_rfl) rfl #[.int .i64 a0_0, .int .i64 1, .int .i64 16] rfl (by (try simp only [List.map_toArray, List.map_cons, List.map_nil]); first | done | rfl | (simp only [List.length_drop, List.length_take]; rfl)) ?_; (with_reducible refine (impl_within.calls a0_0 1 16 false _ A12.out).mono ?_); rintro e w' ⟨rfl, ⟨nd, rfl⟩⟩; refine ⟨_, rfl, ?_⟩))
          go_meet
          case rel => exact ⟨_, (true), (by first | rfl | (simp; done) | (simp [*]; done)), H', ⟨by have := HJ1.out; first | omega | exact Nat.le_refl _⟩, ⟨by (with_reducible repeat (first | refine blk_drewN ?_ _ | refine blk_drew ?_ | refine blk_alloc ?_ _)); exact BK181.out⟩, ⟨by repeat (first | (with_reducible first | exact HB.out | apply below_alloc | apply pw_below_drewN | apply below_drew1 | refine below_set ?_ GE181.out) | exact HB.out)⟩⟩
      case rest =>
        clear HC11
        try clear c1
        try clear p2
        try clear c5
        try clear c6
        try clear c7
        try clear c13
        try clear c15
        try clear hcz10_0
        try clear hcz10_1
        try clear hcz10_2
        try clear hcz10_3
        try clear hcz10_4
        try clear hcz10_5
        try clear hcz10_6
        try clear hcz16_0
        try clear hcz16_1
        try clear hcz16_2
        try clear hcz16_3
        try clear hcz16_4
        try clear hcz16_5
        try clear hcz16_6
        try clear hcz18_0
        try clear hcz18_1
        try clear hcz18_2
        try clear hcz18_3
        try clear hcz18_4
        try clear hcz18_5
        try clear hcz18_6
        try clear hcz20_0
        try clear hcz20_1
        try clear hcz20_2
        try clear hcz20_3
        try clear hcz20_4
        try clear hcz20_5
        try clear hcz20_6
        try clear hcz8_0
        try clear hcz8_1
        try clear hcz8_2
        try clear hcz8_3
        try clear hcz8_4
        try clear hcz8_5
        try clear hcz8_6
        try clear hcz9_0
        try clear hcz9_1
        try clear hcz9_2
        try clear hcz9_3
        try clear hcz9_4
        try clear hcz9_5
        try clear hcz9_6
        try clear hfz10_0
        try clear hfz10_1
        try clear hfz10_2
        try clear hfz10_3
        try clear hfz10_4
        try clear hfz10_5
        try clear hfz10_6
        try clear hfz16_0
        try clear hfz16_1
        try clear hfz16_2
        try clear hfz16_3
        try clear hfz16_4
        try clear hfz16_5
        try clear hfz16_6
        try clear hfz18_0
        try clear hfz18_1
        try clear hfz18_2
        try clear hfz18_3
        try clear hfz18_4
        try clear hfz18_5
        try clear hfz18_6
        try clear hfz20_0
        try clear hfz20_1
        try clear hfz20_2
        try clear hfz20_3
        try clear hfz20_4
        try clear hfz20_5
        try clear hfz20_6
        try clear hfz8_0
        try clear hfz8_1
        try clear hfz8_2
        try clear hfz8_3
        try clear hfz8_4
        try clear hfz8_5
        try clear hfz8_6
        try clear hfz9_0
        try clear hfz9_1
        try clear hfz9_2
        try clear hfz9_3
        try clear hfz9_4
        try clear hfz9_5
        try clear hfz9_6
        try clear p2
        obtain ⟨kq, x34_10, rfl, HA, HJ10, BK181, HB⟩ := hcut
        cases kq with
        | zero => exact absurd HA.out (by simp [impl_insText.j1])
        | succ kj10 =>
          have H := HA.out
          clear HA
          simp only [impl_insText.j1] at H
          by_cases c21 : x34_10 = true
          · subst c21
            have H1 : (some ((⟨#[]⟩ : ByteArray), false)) = some (r1, r2) := by rw [if_pos rfl] at H; exact H
            clear H
            have H := H1
            clear H1
            simp only [Option.some.injEq, Prod.mk.injEq] at H
            obtain ⟨rfl, rfl⟩ := H
            go_wp2
            go_ret2
            exact ⟨by first | rfl | exact My.ret_isEmpty _ | (simp [errW_none, errW_some] <;> rfl) | (simp [*, errW_none, errW_some] <;> rfl), by repeat (first | (with_reducible first | exact HB.out | apply below_alloc | apply pw_below_drewN | apply below_drew1 | refine below_set ?_ GE181.out) | exact HB.out)⟩
          · replace c21 := Bool.eq_false_iff.mpr c21
            subst c21
            have H1 : ((impl_opWords.f).bind fun t186 => (if 0 ≤ (wrap64 (a0_0 - 1)) then (if (wrap64 (a0_0 - 1)) < (t186.length : Int) then ((strconv_Itoa_70.f a0_1).bind fun t190 => (if a0_0 = 1 then (impl_insText.j2 kj10 (rdOf ByteArray.empty t186 (wrap64 (a0_0 - 1))) t190 (a0_4 == 3) a0_0 a0_1 a0_2 a0_3 a0_4 a0_5 a0_6) else (impl_insText.j2 kj10 (rdOf ByteArray.empty t186 (wrap64 (a0_0 - 1))) t190 false a0_0 a0_1 a0_2 a0_3 a0_4 a0_5 a0_6))) else (none)) else (none))) = some (r1, r2) := by rw [if_neg (show ¬ (false = true) by decide)] at H; exact H
            clear H
            have H := H1
            clear H1
            replace H := Option.bind_eq_some_iff.mp H
            obtain ⟨t186, A220, H⟩ := H
            replace H : (if 0 ≤ (wrap64 (a0_0 - 1)) then (if (wrap64 (a0_0 - 1)) < (t186.length : Int) then ((strconv_Itoa_70.f a0_1).bind fun t190 => (if a0_0 = 1 then (impl_insText.j2 kj10 (rdOf ByteArray.empty t186 (wrap64 (a0_0 - 1))) t190 (a0_4 == 3) a0_0 a0_1 a0_2 a0_3 a0_4 a0_5 a0_6) else (impl_insText.j2 kj10 (rdOf ByteArray.empty t186 (wrap64 (a0_0 - 1))) t190 false a0_0 a0_1 a0_2 a0_3 a0_4 a0_5 a0_6))) else (none)) else (none)) = some (r1, r2) := H
            have A22 := Aside0.mk A220
            clear A220
            obtain ⟨ji23, hji23⟩ : ∃ j_ : Int, (wrap64 (a0_0 - 1)) = j_ := ⟨_, rfl⟩
            replace H : (if 0 ≤ (ji23) then (if (ji23) < (t186.length : Int) then ((strconv_Itoa_70.f a0_1).bind fun t190 => (if a0_0 = 1 then (impl_insText.j2 kj10 (rdOf ByteArray.empty t186 (ji23)) t190 (a0_4 == 3) a0_0 a0_1 a0_2 a0_3 a0_4 a0_5 a0_6) else (impl_insText.j2 kj10 (rdOf ByteArray.empty t186 (ji23)) t190 false a0_0 a0_1 a0_2 a0_3 a0_4 a0_5 a0_6))) else (none)) else (none)) = some (r1, r2) := by first | (rw [hji23] at H; exact H) | (simp only [hji23] at H ⊢; exact H)
            (try rw [hji23] at A22)
            have hji23w : (IntKind.i64.wrap (a0_0 - 1)) = ji23 := (i64_w _).trans hji23
            by_cases c24 : 0 ≤ (ji23)
            · rw [if_pos c24] at H
              have c24b0 : decide (0 ≤ (ji23)) = true := decide_eq_true c24
              clear c24
              by_cases c25 : (ji23) < (t186.length : Int)
              · rw [if_pos c25] at H
                have c25b0 : decide ((ji23) < (t186.length : Int)) = true := decide_eq_true c25
                clear c25
                replace H := Option.bind_eq_some_iff.mp H
                obtain ⟨t190, A260, H⟩ := H
                replace H : (if a0_0 = 1 then (impl_insText.j2 kj10 (rdOf ByteArray.empty t186 (ji23)) t190 (a0_4 == 3) a0_0 a0_1 a0_2 a0_3 a0_4 a0_5 a0_6) else (impl_insText.j2 kj10 (rdOf ByteArray.empty t186 (ji23)) t190 false a0_0 a0_1 a0_2 a0_3 a0_4 a0_5 a0_6)) = some (r1, r2) := H
                have A26 := Aside0.mk A260
                clear A260
                have HC27 := Aside0.mk H
                clear H
                try go_wp2
                have n0_ := Aside0.mk (blk_drew BK181.out)
                have n1_ := Aside0.mk (below_drew1 HB.out)
                clear BK181
                clear HB
                have BK181 := n0_
                have HB := n1_
                clear n0_ n1_
                have hpgb181_0_ : wc.drew.cell? ⟨gb181, 0, none⟩ = some (.int .i64 a0_0) := (blk_cell BK181.out 0).trans rfl
                have hpgb181_1_ : wc.drew.cell? ⟨gb181, 1, none⟩ = some (.int .i64 a0_1) := (blk_cell BK181.out 1).trans rfl
                have hpgb181_2_ : wc.drew.cell? ⟨gb181, 2, none⟩ = some (.int .i64 a0_2) := (blk_cell BK181.out 2).trans rfl
                have hpgb181_3_ : wc.drew.cell? ⟨gb181, 3, none⟩ = some (.string a0_3) := (blk_cell BK181.out 3).trans rfl
                have hpgb181_4_ : wc.drew.cell? ⟨gb181, 4, none⟩ = some (.int .i64 a0_4) := (blk_cell BK181.out 4).trans rfl
                have hpgb181_5_ : wc.drew.cell? ⟨gb181, 5, none⟩ = some (.int .i64 a0_5) := (blk_cell BK181.out 5).trans rfl
                have hpgb181_6_ : wc.drew.cell? ⟨gb181, 6, none⟩ = some (.string a0_6) := (blk_cell BK181.out 6).trans rfl
                have hrgb181_0_ : wc.cell? ⟨gb181, 0, none⟩ = some (.int .i64 a0_0) := hpgb181_0_
                have hrgb181_1_ : wc.cell? ⟨gb181, 1, none⟩ = some (.int .i64 a0_1) := hpgb181_1_
                have hrgb181_2_ : wc.cell? ⟨gb181, 2, none⟩ = some (.int .i64 a0_2) := hpgb181_2_
                have hrgb181_3_ : wc.cell? ⟨gb181, 3, none⟩ = some (.string a0_3) := hpgb181_3_
                have hrgb181_4_ : wc.cell? ⟨gb181, 4, none⟩ = some (.int .i64 a0_4) := hpgb181_4_
                have hrgb181_5_ : wc.cell? ⟨gb181, 5, none⟩ = some (.int .i64 a0_5) := hpgb181_5_
                have hrgb181_6_ : wc.cell? ⟨gb181, 6, none⟩ = some (.string a0_6) := hpgb181_6_
                go_region_with (go_at_call 80; (with_reducible refine (impl_opWords.calls  t186 _ A22.out).mono ?_); rintro e w29 ⟨v187, rfl, ho0, hb⟩; have n0_ := Aside0.mk (Kd.R_lower ho0 (below_size (by repeat (first | (with_reducible first | exact HB.out | apply below_alloc | apply pw_below_drewN | apply below_drew1 | refine below_set ?_ GE181.out) | exact HB.out)))); have n1_ := Aside0.mk (blk_below (g := gb181) (o := .cells #[.int .i64 a0_0, .int .i64 a0_1, .int .i64 a0_2, .string a0_3, .int .i64 a0_4, .int .i64 a0_5, .string a0_6] 44 (0, 0)) (by (with_reducible repeat (first | refine blk_drewN ?_ _ | refine blk_drew ?_ | refine blk_alloc ?_ _)); exact BK181.out) hb); have n2_ := Aside0.mk (below_step (by repeat (first | (with_reducible first | exact HB.out | apply below_alloc | apply pw_below_drewN | apply below_drew1 | refine below_set ?_ GE181.out) | exact HB.out)) hb); clear BK181; clear HB; have HO188 := n0_; have BK181 := n1_; have HB := n2_; clear n0_ n1_ n2_; (try clear hb); (try clear hb2); (try clear hk); (try clear hi); (try clear ho0); obtain ⟨Ao30, co30, eo30⟩ := Kd.R_slice HO188.out; (first | subst eo30 | (injection eo30 with f1_ f2_ f3_; have f4_ := f1_.symm; have f5_ := f3_.symm; clear f1_ f2_ f3_; subst f4_; subst f5_)); have p189 : 0 ≤ ((ji23) : Int) := of_decide_eq_true (by first | (with_reducible assumption) | assumption); have q189 : (ji23) < (t186.length : Int) := of_decide_eq_true (by first | (with_reducible assumption) | assumption); obtain ⟨ad189, e189, hx189_0⟩ := Kd.at_string (Kd.R_reads' HO188.out).2.2 (ji23) p189 q189; cases e189; replace p189 := eq_true p189; replace q189 := eq_true q189; have hqgb181_0_ : w29.cell? ⟨gb181, 0, none⟩ = some (.int .i64 a0_0) := (blk_cell BK181.out 0).trans rfl; have hqgb181_1_ : w29.cell? ⟨gb181, 1, none⟩ = some (.int .i64 a0_1) := (blk_cell BK181.out 1).trans rfl; have hqgb181_2_ : w29.cell? ⟨gb181, 2, none⟩ = some (.int .i64 a0_2) := (blk_cell BK181.out 2).trans rfl; have hqgb181_3_ : w29.cell? ⟨gb181, 3, none⟩ = some (.string a0_3) := (blk_cell BK181.out 3).trans rfl; have hqgb181_4_ : w29.cell? ⟨gb181, 4, none⟩ = some (.int .i64 a0_4) := (blk_cell BK181.out 4).trans rfl; have hqgb181_5_ : w29.cell? ⟨gb181, 5, none⟩ = some (.int .i64 a0_5) := (blk_cell BK181.out 5).trans rfl; have hqgb181_6_ : w29.cell? ⟨gb181, 6, none⟩ = some (.string a0_6) := (blk_cell BK181.out 6).trans rfl)
                all_goals
                  have hcz31_0 : w29.cell? ⟨gb181, 0, none⟩ = some (.int .i64 a0_0) := (blk_cell BK181.out 0).trans rfl
                  have hcz31_1 : w29.cell? ⟨gb181, 1, none⟩ = some (.int .i64 a0_1) := (blk_cell BK181.out 1).trans rfl
                  have hcz31_2 : w29.cell? ⟨gb181, 2, none⟩ = some (.int .i64 a0_2) := (blk_cell BK181.out 2).trans rfl
                  have hcz31_3 : w29.cell? ⟨gb181, 3, none⟩ = some (.string a0_3) := (blk_cell BK181.out 3).trans rfl
                  have hcz31_4 : w29.cell? ⟨gb181, 4, none⟩ = some (.int .i64 a0_4) := (blk_cell BK181.out 4).trans rfl
                  have hcz31_5 : w29.cell? ⟨gb181, 5, none⟩ = some (.int .i64 a0_5) := (blk_cell BK181.out 5).trans rfl
                  have hcz31_6 : w29.cell? ⟨gb181, 6, none⟩ = some (.string a0_6) := (blk_cell BK181.out 6).trans rfl
                  have hfz31_0 := blk_frozen BK181.out 0
                  have hfz31_1 := blk_frozen BK181.out 1
                  have hfz31_2 := blk_frozen BK181.out 2
                  have hfz31_3 := blk_frozen BK181.out 3
                  have hfz31_4 := blk_frozen BK181.out 4
                  have hfz31_5 := blk_frozen BK181.out 5
                  have hfz31_6 := blk_frozen BK181.out 6
                  go_upto_region 6 with (first | ((with_reducible refine gate_callee (f := 70) rfl ?_); refine goesL_ (some 43) rfl rfl Tryd.func70 (by kernel_rfl) rfl #[.int .i64 a0_1] rfl (by (try simp only [List.map_toArray, List.map_cons, List.map_nil]); first | done | rfl | (simp only [List.length_drop, List.length_take]; rfl)) ?_; (with_reducible refine (strconv_Itoa_70.calls a0_1 t190 _ ?side1 A26.out).mono ?_); (case side1 => exact My.tab_below hG (by repeat (first | (with_reducible first | exact HB.out | apply below_alloc | apply pw_below_drewN | apply below_drew1 | refine below_set ?_ GE181.out) | exact HB.out))); rintro e w32 ⟨rfl, hb⟩; refine ⟨_, rfl, ?_⟩; have n0_ := Aside0.mk (Kd.R_below (by (with_reducible repeat (first | apply Kd.R_alloc | apply Kd.R_drewN | apply Kd.R_drew)); exact HO188.out) hb); have n1_ := Aside0.mk (blk_below (g := gb181) (o := .cells #[.int .i64 a0_0, .int .i64 a0_1, .int .i64 a0_2, .string a0_3, .int .i64 a0_4, .int .i64 a0_5, .string a0_6] 44 (0, 0)) (by (with_reducible repeat (first | refine blk_drewN ?_ _ | refine blk_drew ?_ | refine blk_alloc ?_ _)); exact BK181.out) hb); have n2_ := Aside0.mk (below_step (by repeat (first | (with_reducible first | exact HB.out | apply below_alloc | apply pw_below_drewN | apply below_drew1 | refine below_set ?_ GE181.out) | exact HB.out)) hb); clear HO188; clear BK181; clear HB; have HO188 := n0_; have BK181 := n1_; have HB := n2_; clear n0_ n1_ n2_; (try clear hb); (try clear hb2); (try clear hk); (try clear hi)))
                  (try simp only [Act.put, List.setIfInBounds_toArray, List.set_cons_zero, List.set_cons_succ])
                  go_cut [44] (fun v44 wc => ∃ (kq : Nat) (x44_26 : Bool), v44 = .bool x44_26 ∧ Aside0 (impl_insText.j2 kq (rdOf ByteArray.empty t186 (ji23)) t190 x44_26 a0_0 a0_1 a0_2 a0_3 a0_4 a0_5 a0_6 = some (r1, r2)) ∧ Aside0 (kq ≤ kj10) ∧ Aside0 (wc.heap[gb181]? = some (.cells #[.int .i64 a0_0, .int .i64 a0_1, .int .i64 a0_2, .string a0_3, .int .i64 a0_4, .int .i64 a0_5, .string a0_6] 44 (0, 0))) ∧ Aside0 (Below w.heap.size w wc))
                  case first =>
                    have H := HC27.out
                    clear HC27
                    by_cases c33 : a0_0 = 1
                    · rw [if_pos c33] at H
                      have c33b0 : (a0_0 == 1) = true := beq_iff_eq.mpr c33
                      have c33b1 : (a0_0 != 1) = false := bne_eq_false_iff_eq.mpr c33
                      clear c33
                      (first | rw [c33b0] | (simp only [i64_w, i32_w]; rw [c33b0]) | skip)
                      have H' := Aside0.mk H
                      clear H
                      have hcz34_0 : w32.cell? ⟨gb181, 0, none⟩ = some (.int .i64 a0_0) := (blk_cell BK181.out 0).trans rfl
                      have hcz34_1 : w32.cell? ⟨gb181, 1, none⟩ = some (.int .i64 a0_1) := (blk_cell BK181.out 1).trans rfl
                      have hcz34_2 : w32.cell? ⟨gb181, 2, none⟩ = some (.int .i64 a0_2) := (blk_cell BK181.out 2).trans rfl
                      have hcz34_3 : w32.cell? ⟨gb181, 3, none⟩ = some (.string a0_3) := (blk_cell BK181.out 3).trans rfl
                      have hcz34_4 : w32.cell? ⟨gb181, 4, none⟩ = some (.int .i64 a0_4) := (blk_cell BK181.out 4).trans rfl
                      have hcz34_5 : w32.cell? ⟨gb181, 5, none⟩ = some (.int .i64 a0_5) := (blk_cell BK181.out 5).trans rfl
                      have hcz34_6 : w32.cell? ⟨gb181, 6, none⟩ = some (.string a0_6) := (blk_cell BK181.out 6).trans rfl
                      have hfz34_0 := blk_frozen BK181.out 0
                      have hfz34_1 := blk_frozen BK181.out 1
                      have hfz34_2 := blk_frozen BK181.out 2
                      have hfz34_3 := blk_frozen BK181.out 3
                      have hfz34_4 := blk_frozen BK181.out 4
                      have hfz34_5 := blk_frozen BK181.out 5
                      have hfz34_6 := blk_frozen BK181.out 6
                      go_wp2
                      go_meet
                      case rel => exact ⟨_, ((a0_4 == 3)), (by first | rfl | (simp; done) | (simp [*]; done)), H', ⟨by have := HJ1.out; have := HJ10.out; first | omega | exact Nat.le_refl _⟩, ⟨by (with_reducible repeat (first | refine blk_drewN ?_ _ | refine blk_drew ?_ | refine blk_alloc ?_ _)); exact BK181.out⟩, ⟨by repeat (first | (with_reducible first | exact HB.out | apply below_alloc | apply pw_below_drewN | apply below_drew1 | refine below_set ?_ GE181.out) | exact HB.out)⟩⟩
                    · rw [if_neg c33] at H
                      have c33b0 : (a0_0 == 1) = false := beq_eq_false_iff_ne.mpr c33
                      have c33b1 : (a0_0 != 1) = true := bne_iff_ne.mpr c33
                      (first | rw [c33b0] | (simp only [i64_w, i32_w]; rw [c33b0]) | skip)
                      have H' := Aside0.mk H
                      clear H
                      have hcz35_0 : w32.cell? ⟨gb181, 0, none⟩ = some (.int .i64 a0_0) := (blk_cell BK181.out 0).trans rfl
                      have hcz35_1 : w32.cell? ⟨gb181, 1, none⟩ = some (.int .i64 a0_1) := (blk_cell BK181.out 1).trans rfl
                      have hcz35_2 : w32.cell? ⟨gb181, 2, none⟩ = some (.int .i64 a0_2) := (blk_cell BK181.out 2).trans rfl
                      have hcz35_3 : w32.cell? ⟨gb181, 3, none⟩ = some (.string a0_3) := (blk_cell BK181.out 3).trans rfl
                      have hcz35_4 : w32.cell? ⟨gb181, 4, none⟩ = some (.int .i64 a0_4) := (blk_cell BK181.out 4).trans rfl
                      have hcz35_5 : w32.cell? ⟨gb181, 5, none⟩ = some (.int .i64 a0_5) := (blk_cell BK181.out 5).trans rfl
                      have hcz35_6 : w32.cell? ⟨gb181, 6, none⟩ = some (.string a0_6) := (blk_cell BK181.out 6).trans rfl
                      have hfz35_0 := blk_frozen BK181.out 0
                      have hfz35_1 := blk_frozen BK181.out 1
                      have hfz35_2 := blk_frozen BK181.out 2
                      have hfz35_3 := blk_frozen BK181.out 3
                      have hfz35_4 := blk_frozen BK181.out 4
                      have hfz35_5 := blk_frozen BK181.out 5
                      have hfz35_6 := blk_frozen BK181.out 6
                      go_wp2
                      go_meet
                      case rel => exact ⟨_, (false), (by first | rfl | (simp; done) | (simp [*]; done)), H', ⟨by have := HJ1.out; have := HJ10.out; first | omega | exact Nat.le_refl _⟩, ⟨by (with_reducible repeat (first | refine blk_drewN ?_ _ | refine blk_drew ?_ | refine blk_alloc ?_ _)); exact BK181.out⟩, ⟨by repeat (first | (with_reducible first | exact HB.out | apply below_alloc | apply pw_below_drewN | apply below_drew1 | refine below_set ?_ GE181.out) | exact HB.out)⟩⟩
                  case rest =>
                    clear HC27
                    try clear c1
                    try clear p1
                    try clear q1
                    try clear hx1
                    try clear c2
                    try clear p2
                    try clear c3
                    try clear c5
                    try clear c6
                    try clear p6
                    try clear c7
                    try clear c8
                    try clear c13
                    try clear c15
                    try clear p18
                    try clear q18
                    try clear hx18
                    try clear c21
                    try clear c24
                    try clear c24b0
                    try clear c25
                    try clear c25b0
                    try clear c33
                    try clear c33b0
                    try clear c33b1
                    try clear hcz10_0
                    try clear hcz10_1
                    try clear hcz10_2
                    try clear hcz10_3
                    try clear hcz10_4
                    try clear hcz10_5
                    try clear hcz10_6
                    try clear hcz16_0
                    try clear hcz16_1
                    try clear hcz16_2
                    try clear hcz16_3
                    try clear hcz16_4
                    try clear hcz16_5
                    try clear hcz16_6
                    try clear hcz18_0
                    try clear hcz18_1
                    try clear hcz18_2
                    try clear hcz18_3
                    try clear hcz18_4
                    try clear hcz18_5
                    try clear hcz18_6
                    try clear hcz20_0
                    try clear hcz20_1
                    try clear hcz20_2
                    try clear hcz20_3
                    try clear hcz20_4
                    try clear hcz20_5
                    try clear hcz20_6
                    try clear hcz31_0
                    try clear hcz31_1
                    try clear hcz31_2
                    try clear hcz31_3
                    try clear hcz31_4
                    try clear hcz31_5
                    try clear hcz31_6
                    try clear hcz34_0
                    try clear hcz34_1
                    try clear hcz34_2
                    try clear hcz34_3
                    try clear hcz34_4
                    try clear hcz34_5
                    try clear hcz34_6
                    try clear hcz35_0
                    try clear hcz35_1
                    try clear hcz35_2
                    try clear hcz35_3
                    try clear hcz35_4
                    try clear hcz35_5
                    try clear hcz35_6
                    try clear hcz8_0
                    try clear hcz8_1
                    try clear hcz8_2
                    try clear hcz8_3
                    try clear hcz8_4
                    try clear hcz8_5
                    try clear hcz8_6
                    try clear hcz9_0
                    try clear hcz9_1
                    try clear hcz9_2
                    try clear hcz9_3
                    try clear hcz9_4
                    try clear hcz9_5
                    try clear hcz9_6
                    try clear hfz10_0
                    try clear hfz10_1
                    try clear hfz10_2
                    try clear hfz10_3
                    try clear hfz10_4
                    try clear hfz10_5
                    try clear hfz10_6
                    try clear hfz16_0
                    try clear hfz16_1
                    try clear hfz16_2
                    try clear hfz16_3
                    try clear hfz16_4
                    try clear hfz16_5
                    try clear hfz16_6
                    try clear hfz18_0
                    try clear hfz18_1
                    try clear hfz18_2
                    try clear hfz18_3
                    try clear hfz18_4
                    try clear hfz18_5
                    try clear hfz18_6
                    try clear hfz20_0
                    try clear hfz20_1
                    try clear hfz20_2
                    try clear hfz20_3
                    try clear hfz20_4
                    try clear hfz20_5
                    try clear hfz20_6
                    try clear hfz31_0
                    try clear hfz31_1
                    try clear hfz31_2
                    try clear hfz31_3
                    try clear hfz31_4
                    try clear hfz31_5
                    try clear hfz31_6
                    try clear hfz34_0
                    try clear hfz34_1
                    try clear hfz34_2
                    try clear hfz34_3
                    try clear hfz34_4
                    try clear hfz34_5
                    try clear hfz34_6
                    try clear hfz35_0
                    try clear hfz35_1
                    try clear hfz35_2
                    try clear hfz35_3
                    try clear hfz35_4
                    try clear hfz35_5
                    try clear hfz35_6
                    try clear hfz8_0
                    try clear hfz8_1
                    try clear hfz8_2
                    try clear hfz8_3
                    try clear hfz8_4
                    try clear hfz8_5
                    try clear hfz8_6
                    try clear hfz9_0
                    try clear hfz9_1
                    try clear hfz9_2
                    try clear hfz9_3
                    try clear hfz9_4
                    try clear hfz9_5
                    try clear hfz9_6
                    try clear hx189_0
                    try clear p189
                    try clear p2
                    try clear q189
                    obtain ⟨kq, x44_26, rfl, HA, HJ26, BK181, HB⟩ := hcut
                    cases kq with
                    | zero => exact absurd HA.out (by simp [impl_insText.j2])
                    | succ kj26 =>
                      have H := HA.out
                      clear HA
                      simp only [impl_insText.j2] at H
                      by_cases c36 : x44_26 = true
                      · subst c36
                        have H1 : ((impl_quoteText.f a0_6).bind fun t191 => (if 1 + t191.size ≤ 9223372036854775807 then (if (rdOf ByteArray.empty t186 (ji23)).size + ((⟨#[32]⟩ : ByteArray) ++ t191).size ≤ 9223372036854775807 then (some ((rdOf ByteArray.empty t186 (ji23)) ++ ((⟨#[32]⟩ : ByteArray) ++ t191), true)) else (none)) else (none))) = some (r1, r2) := by rw [if_pos rfl] at H; exact H
                        clear H
                        have H := H1
                        clear H1
                        replace H := Option.bind_eq_some_iff.mp H
                        obtain ⟨t191, A370, H⟩ := H
                        replace H : (if 1 + t191.size ≤ 9223372036854775807 then (if (rdOf ByteArray.empty t186 (ji23)).size + ((⟨#[32]⟩ : ByteArray) ++ t191).size ≤ 9223372036854775807 then (some ((rdOf ByteArray.empty t186 (ji23)) ++ ((⟨#[32]⟩ : ByteArray) ++ t191), true)) else (none)) else (none)) = some (r1, r2) := H
                        have A37 := Aside0.mk A370
                        clear A370
                        by_cases c38 : 1 + t191.size ≤ 9223372036854775807
                        · rw [if_pos c38] at H
                          have c38b0 := eq_true c38
                          have c38b1 : decide (1 + t191.size ≤ 9223372036854775807) = true := decide_eq_true c38
                          try have c38b2 : (9223372036854775807 < 1 + t191.size) = False := eq_false (Nat.not_lt.2 c38)
                          by_cases c39 : (rdOf ByteArray.empty t186 (ji23)).size + ((⟨#[32]⟩ : ByteArray) ++ t191).size ≤ 9223372036854775807
                          · rw [if_pos c39] at H
                            have c39b0 := eq_true c39
                            have c39b1 : decide ((rdOf ByteArray.empty t186 (ji23)).size + ((⟨#[32]⟩ : ByteArray) ++ t191).size ≤ 9223372036854775807) = true := decide_eq_true c39
                            have c39b7_ : (rdOf ByteArray.empty t186 (ji23)).size + (1 + t191.size) ≤ 9223372036854775807 := by have h_ := c39; have e0_ : (⟨#[32]⟩ : ByteArray).size = 1 := rfl; simp only [ByteArray.size_append] at h_; omega
                            have c39b8 : decide ((rdOf ByteArray.empty t186 (ji23)).size + (1 + t191.size) ≤ 9223372036854775807) = true := decide_eq_true c39b7_
                            have c39b9 : (9223372036854775807 < (rdOf ByteArray.empty t186 (ji23)).size + (1 + t191.size)) = False := eq_false (Nat.not_lt.2 c39b7_)
                            have c39b7 := eq_true c39b7_
                            clear c39b7_
                            try have c39b2 : (9223372036854775807 < (rdOf ByteArray.empty t186 (ji23)).size + ((⟨#[32]⟩ : ByteArray) ++ t191).size) = False := eq_false (Nat.not_lt.2 c39)
                            simp only [Option.some.injEq, Prod.mk.injEq] at H
                            obtain ⟨rfl, rfl⟩ := H
                            have hcz40_0 : wc.cell? ⟨gb181, 0, none⟩ = some (.int .i64 a0_0) := (blk_cell BK181.out 0).trans rfl
                            have hcz40_1 : wc.cell? ⟨gb181, 1, none⟩ = some (.int .i64 a0_1) := (blk_cell BK181.out 1).trans rfl
                            have hcz40_2 : wc.cell? ⟨gb181, 2, none⟩ = some (.int .i64 a0_2) := (blk_cell BK181.out 2).trans rfl
                            have hcz40_3 : wc.cell? ⟨gb181, 3, none⟩ = some (.string a0_3) := (blk_cell BK181.out 3).trans rfl
                            have hcz40_4 : wc.cell? ⟨gb181, 4, none⟩ = some (.int .i64 a0_4) := (blk_cell BK181.out 4).trans rfl
                            have hcz40_5 : wc.cell? ⟨gb181, 5, none⟩ = some (.int .i64 a0_5) := (blk_cell BK181.out 5).trans rfl
                            have hcz40_6 : wc.cell? ⟨gb181, 6, none⟩ = some (.string a0_6) := (blk_cell BK181.out 6).trans rfl
                            have hfz40_0 := blk_frozen BK181.out 0
                            have hfz40_1 := blk_frozen BK181.out 1
                            have hfz40_2 := blk_frozen BK181.out 2
                            have hfz40_3 := blk_frozen BK181.out 3
                            have hfz40_4 := blk_frozen BK181.out 4
                            have hfz40_5 := blk_frozen BK181.out 5
                            have hfz40_6 := blk_frozen BK181.out 6
                            go_wp2_with (first | ((with_reducible refine gate_callee (f := 81) rfl ?_); refine goesL_ (some 58) rfl rfl Tryd.func81 (by kernel_rfl) rfl #[.string a0_6] rfl (by (try simp only [List.map_toArray, List.map_cons, List.map_nil]); first | done | rfl | (simp only [List.length_drop, List.length_take]; rfl)) ?_; (with_reducible refine (impl_quoteText.calls a0_6 t191 _ A37.out).mono ?_); rintro e w41 ⟨rfl, hb⟩; refine ⟨_, rfl, ?_⟩; have n0_ := Aside0.mk (blk_below (g := gb181) (o := .cells #[.int .i64 a0_0, .int .i64 a0_1, .int .i64 a0_2, .string a0_3, .int .i64 a0_4, .int .i64 a0_5, .string a0_6] 44 (0, 0)) (by (with_reducible repeat (first | refine blk_drewN ?_ _ | refine blk_drew ?_ | refine blk_alloc ?_ _)); exact BK181.out) hb); have n1_ := Aside0.mk (below_step (by repeat (first | (with_reducible first | exact HB.out | apply below_alloc | apply pw_below_drewN | apply below_drew1 | refine below_set ?_ GE181.out) | exact HB.out)) hb); clear BK181; clear HB; have BK181 := n0_; have HB := n1_; clear n0_ n1_; (try clear hb); (try clear hb2); (try clear hk); (try clear hi)))
                            go_ret2
                            exact ⟨by first | rfl | exact My.ret_isEmpty _ | (simp [errW_none, errW_some] <;> rfl) | (simp only [← hji23]; first | rfl | (simp [errW_none, errW_some] <;> rfl)) | (simp [*, errW_none, errW_some] <;> rfl), by repeat (first | (with_reducible first | exact HB.out | apply below_alloc | apply pw_below_drewN | apply below_drew1 | refine below_set ?_ GE181.out) | exact HB.out)⟩
                          · rw [if_neg c39] at H
                            exact absurd H (by simp)
                        · rw [if_neg c38] at H
                          exact absurd H (by simp)
                      · replace c36 := Bool.eq_false_iff.mpr c36
                        subst c36
                        have H1 : (if a0_0 = 1 then ((impl_valueText.f a0_4 a0_5 a0_6).bind fun t192 => (if 1 + t192.size ≤ 9223372036854775807 then (if (rdOf ByteArray.empty t186 (ji23)).size + ((⟨#[32]⟩ : ByteArray) ++ t192).size ≤ 9223372036854775807 then (some ((rdOf ByteArray.empty t186 (ji23)) ++ ((⟨#[32]⟩ : ByteArray) ++ t192), true)) else (none)) else (none))) else (if a0_0 = 4 then (impl_insText.j3 kj26 (rdOf ByteArray.empty t186 (ji23)) t190 true a0_0 a0_1 a0_2 a0_3 a0_4 a0_5 a0_6) else (impl_insText.j3 kj26 (rdOf ByteArray.empty t186 (ji23)) t190 (a0_0 == 5) a0_0 a0_1 a0_2 a0_3 a0_4 a0_5 a0_6))) = some (r1, r2) := by rw [if_neg (show ¬ (false = true) by decide)] at H; exact H
                        clear H
                        have H := H1
                        clear H1
                        by_cases c42 : a0_0 = 1
                        · rw [if_pos c42] at H
                          have c42b0 : (a0_0 == 1) = true := beq_iff_eq.mpr c42
                          have c42b1 : (a0_0 != 1) = false := bne_eq_false_iff_eq.mpr c42
                          clear c42
                          replace H := Option.bind_eq_some_iff.mp H
                          obtain ⟨t192, A430, H⟩ := H
                          replace H : (if 1 + t192.size ≤ 9223372036854775807 then (if (rdOf ByteArray.empty t186 (ji23)).size + ((⟨#[32]⟩ : ByteArray) ++ t192).size ≤ 9223372036854775807 then (some ((rdOf ByteArray.empty t186 (ji23)) ++ ((⟨#[32]⟩ : ByteArray) ++ t192), true)) else (none)) else (none)) = some (r1, r2) := H
                          have A43 := Aside0.mk A430
                          clear A430
                          by_cases c44 : 1 + t192.size ≤ 9223372036854775807
                          · rw [if_pos c44] at H
                            have c44b0 := eq_true c44
                            have c44b1 : decide (1 + t192.size ≤ 9223372036854775807) = true := decide_eq_true c44
                            try have c44b2 : (9223372036854775807 < 1 + t192.size) = False := eq_false (Nat.not_lt.2 c44)
                            by_cases c45 : (rdOf ByteArray.empty t186 (ji23)).size + ((⟨#[32]⟩ : ByteArray) ++ t192).size ≤ 9223372036854775807
                            · rw [if_pos c45] at H
                              have c45b0 := eq_true c45
                              have c45b1 : decide ((rdOf ByteArray.empty t186 (ji23)).size + ((⟨#[32]⟩ : ByteArray) ++ t192).size ≤ 9223372036854775807) = true := decide_eq_true c45
                              have c45b7_ : (rdOf ByteArray.empty t186 (ji23)).size + (1 + t192.size) ≤ 9223372036854775807 := by have h_ := c45; have e0_ : (⟨#[32]⟩ : ByteArray).size = 1 := rfl; simp only [ByteArray.size_append] at h_; omega
                              have c45b8 : decide ((rdOf ByteArray.empty t186 (ji23)).size + (1 + t192.size) ≤ 9223372036854775807) = true := decide_eq_true c45b7_
                              have c45b9 : (9223372036854775807 < (rdOf ByteArray.empty t186 (ji23)).size + (1 + t192.size)) = False := eq_false (Nat.not_lt.2 c45b7_)
                              have c45b7 := eq_true c45b7_
                              clear c45b7_
                              try have c45b2 : (9223372036854775807 < (rdOf ByteArray.empty t186 (ji23)).size + ((⟨#[32]⟩ : ByteArray) ++ t192).size) = False := eq_false (Nat.not_lt.2 c45)
                              simp only [Option.some.injEq, Prod.mk.injEq] at H
                              obtain ⟨rfl, rfl⟩ := H
                              have hcz46_0 : wc.cell? ⟨gb181, 0, none⟩ = some (.int .i64 a0_0) := (blk_cell BK181.out 0).trans rfl
                              have hcz46_1 : wc.cell? ⟨gb181, 1, none⟩ = some (.int .i64 a0_1) := (blk_cell BK181.out 1).trans rfl
                              have hcz46_2 : wc.cell? ⟨gb181, 2, none⟩ = some (.int .i64 a0_2) := (blk_cell BK181.out 2).trans rfl
                              have hcz46_3 : wc.cell? ⟨gb181, 3, none⟩ = some (.string a0_3) := (blk_cell BK181.out 3).trans rfl
                              have hcz46_4 : wc.cell? ⟨gb181, 4, none⟩ = some (.int .i64 a0_4) := (blk_cell BK181.out 4).trans rfl
                              have hcz46_5 : wc.cell? ⟨gb181, 5, none⟩ = some (.int .i64 a0_5) := (blk_cell BK181.out 5).trans rfl
                              have hcz46_6 : wc.cell? ⟨gb181, 6, none⟩ = some (.string a0_6) := (blk_cell BK181.out 6).trans rfl
                              have hfz46_0 := blk_frozen BK181.out 0
                              have hfz46_1 := blk_frozen BK181.out 1
                              have hfz46_2 := blk_frozen BK181.out 2
                              have hfz46_3 := blk_frozen BK181.out 3
                              have hfz46_4 := blk_frozen BK181.out 4
                              have hfz46_5 := blk_frozen BK181.out 5
                              have hfz46_6 := blk_frozen BK181.out 6
                              go_wp2_with (first | ((with_reducible refine gate_callee (f := 47) rfl ?_); refine goesL_ (some 68) rfl rfl Tryd.func47 (by kernel_rfl) rfl #[.agg #[.int .i64 a0_4, .int .i64 a0_5, .string a0_6]] rfl (by (try simp only [List.map_toArray, List.map_cons, List.map_nil]); first | done | rfl | (simp only [List.length_drop, List.length_take]; rfl)) ?_; (with_reducible refine (impl_valueText.calls a0_4 a0_5 a0_6 t192 _ ?side1 A43.out).mono ?_); (case side1 => exact My.tab_below hG (by repeat (first | (with_reducible first | exact HB.out | apply below_alloc | apply pw_below_drewN | apply below_drew1 | refine below_set ?_ GE181.out) | exact HB.out))); rintro e w47 ⟨rfl, hb⟩; refine ⟨_, rfl, ?_⟩; have n0_ := Aside0.mk (blk_below (g := gb181) (o := .cells #[.int .i64 a0_0, .int .i64 a0_1, .int .i64 a0_2, .string a0_3, .int .i64 a0_4, .int .i64 a0_5, .string a0_6] 44 (0, 0)) (by (with_reducible repeat (first | refine blk_drewN ?_ _ | refine blk_drew ?_ | refine blk_alloc ?_ _)); exact BK181.out) hb); have n1_ := Aside0.mk (below_step (by repeat (first | (with_reducible first | exact HB.out | apply below_alloc | apply pw_below_drewN | apply below_drew1 | refine below_set ?_ GE181.out) | exact HB.out)) hb); clear BK181; clear HB; have BK181 := n0_; have HB := n1_; clear n0_ n1_; (try clear hb); (try clear hb2); (try clear hk); (try clear hi)))
                              go_ret2
                              exact ⟨by first | rfl | exact My.ret_isEmpty _ | (simp [errW_none, errW_some] <;> rfl) | (simp only [← hji23]; first | rfl | (simp [errW_none, errW_some] <;> rfl)) | (simp [*, errW_none, errW_some] <;> rfl), by repeat (first | (with_reducible first | exact HB.out | apply below_alloc | apply pw_below_drewN | apply below_drew1 | refine below_set ?_ GE181.out) | exact HB.out)⟩
                            · rw [if_neg c45] at H
                              exact absurd H (by simp)
                          · rw [if_neg c44] at H
                            exact absurd H (by simp)
                        · rw [if_neg c42] at H
                          have c42b0 : (a0_0 == 1) = false := beq_eq_false_iff_ne.mpr c42
                          have c42b1 : (a0_0 != 1) = true := bne_iff_ne.mpr c42
                          have HC48 := Aside0.mk H
                          clear H
                          have hcz49_0 : wc.cell? ⟨gb181, 0, none⟩ = some (.int .i64 a0_0) := (blk_cell BK181.out 0).trans rfl
                          have hcz49_1 : wc.cell? ⟨gb181, 1, none⟩ = some (.int .i64 a0_1) := (blk_cell BK181.out 1).trans rfl
                          have hcz49_2 : wc.cell? ⟨gb181, 2, none⟩ = some (.int .i64 a0_2) := (blk_cell BK181.out 2).trans rfl
                          have hcz49_3 : wc.cell? ⟨gb181, 3, none⟩ = some (.string a0_3) := (blk_cell BK181.out 3).trans rfl
                          have hcz49_4 : wc.cell? ⟨gb181, 4, none⟩ = some (.int .i64 a0_4) := (blk_cell BK181.out 4).trans rfl
                          have hcz49_5 : wc.cell? ⟨gb181, 5, none⟩ = some (.int .i64 a0_5) := (blk_cell BK181.out 5).trans rfl
                          have hcz49_6 : wc.cell? ⟨gb181, 6, none⟩ = some (.string a0_6) := (blk_cell BK181.out 6).trans rfl
                          have hfz49_0 := blk_frozen BK181.out 0
                          have hfz49_1 := blk_frozen BK181.out 1
                          have hfz49_2 := blk_frozen BK181.out 2
                          have hfz49_3 := blk_frozen BK181.out 3
                          have hfz49_4 := blk_frozen BK181.out 4
                          have hfz49_5 := blk_frozen BK181.out 5
                          have hfz49_6 := blk_frozen BK181.out 6
                          go_upto_region 10 with (fail)
                          go_cut [71] (fun v71 wc => ∃ (kq : Nat) (x71_47 : Bool), v71 = .bool x71_47 ∧ Aside0 (impl_insText.j3 kq (rdOf ByteArray.empty t186 (ji23)) t190 x71_47 a0_0 a0_1 a0_2 a0_3 a0_4 a0_5 a0_6 = some (r1, r2)) ∧ Aside0 (kq ≤ kj26) ∧ Aside0 (wc.heap[gb181]? = some (.cells #[.int .i64 a0_0, .int .i64 a0_1, .int .i64 a0_2, .string a0_3, .int .i64 a0_4, .int .i64 a0_5, .string a0_6] 44 (0, 0))) ∧ Aside0 (Below w.heap.size w wc))
                          case first =>
                            have H := HC48.out
                            clear HC48
                            by_cases c50 : a0_0 = 4
                            · rw [if_pos c50] at H
                              have c50b0 : (a0_0 == 4) = true := beq_iff_eq.mpr c50
                              have c50b1 : (a0_0 != 4) = false := bne_eq_false_iff_eq.mpr c50
                              clear c50
                              (first | rw [c50b0] | (simp only [i64_w, i32_w]; rw [c50b0]) | skip)
                              have H' := Aside0.mk H
                              clear H
                              have hcz51_0 : wc.cell? ⟨gb181, 0, none⟩ = some (.int .i64 a0_0) := (blk_cell BK181.out 0).trans rfl
                              have hcz51_1 : wc.cell? ⟨gb181, 1, none⟩ = some (.int .i64 a0_1) := (blk_cell BK181.out 1).trans rfl
                              have hcz51_2 : wc.cell? ⟨gb181, 2, none⟩ = some (.int .i64 a0_2) := (blk_cell BK181.out 2).trans rfl
                              have hcz51_3 : wc.cell? ⟨gb181, 3, none⟩ = some (.string a0_3) := (blk_cell BK181.out 3).trans rfl
                              have hcz51_4 : wc.cell? ⟨gb181, 4, none⟩ = some (.int .i64 a0_4) := (blk_cell BK181.out 4).trans rfl
                              have hcz51_5 : wc.cell? ⟨gb181, 5, none⟩ = some (.int .i64 a0_5) := (blk_cell BK181.out 5).trans rfl
                              have hcz51_6 : wc.cell? ⟨gb181, 6, none⟩ = some (.string a0_6) := (blk_cell BK181.out 6).trans rfl
                              have hfz51_0 := blk_frozen BK181.out 0
                              have hfz51_1 := blk_frozen BK181.out 1
                              have hfz51_2 := blk_frozen BK181.out 2
                              have hfz51_3 := blk_frozen BK181.out 3
                              have hfz51_4 := blk_frozen BK181.out 4
                              have hfz51_5 := blk_frozen BK181.out 5
                              have hfz51_6 := blk_frozen BK181.out 6
                              go_wp2
                              go_meet
                              case rel => exact ⟨_, (true), (by first | rfl | (simp; done) | (simp [*]; done)), H', ⟨by have := HJ1.out; have := HJ10.out; have := HJ26.out; first | omega | exact Nat.le_refl _⟩, ⟨by (with_reducible repeat (first | refine blk_drewN ?_ _ | refine blk_drew ?_ | refine blk_alloc ?_ _)); exact BK181.out⟩, ⟨by repeat (first | (with_reducible first | exact HB.out | apply below_alloc | apply pw_below_drewN | apply below_drew1 | refine below_set ?_ GE181.out) | exact HB.out)⟩⟩
                            · rw [if_neg c50] at H
                              have c50b0 : (a0_0 == 4) = false := beq_eq_false_iff_ne.mpr c50
                              have c50b1 : (a0_0 != 4) = true := bne_iff_ne.mpr c50
                              (first | rw [c50b0] | (simp only [i64_w, i32_w]; rw [c50b0]) | skip)
                              have H' := Aside0.mk H
                              clear H
                              have hcz52_0 : wc.cell? ⟨gb181, 0, none⟩ = some (.int .i64 a0_0) := (blk_cell BK181.out 0).trans rfl
                              have hcz52_1 : wc.cell? ⟨gb181, 1, none⟩ = some (.int .i64 a0_1) := (blk_cell BK181.out 1).trans rfl
                              have hcz52_2 : wc.cell? ⟨gb181, 2, none⟩ = some (.int .i64 a0_2) := (blk_cell BK181.out 2).trans rfl
                              have hcz52_3 : wc.cell? ⟨gb181, 3, none⟩ = some (.string a0_3) := (blk_cell BK181.out 3).trans rfl
                              have hcz52_4 : wc.cell? ⟨gb181, 4, none⟩ = some (.int .i64 a0_4) := (blk_cell BK181.out 4).trans rfl
                              have hcz52_5 : wc.cell? ⟨gb181, 5, none⟩ = some (.int .i64 a0_5) := (blk_cell BK181.out 5).trans rfl
                              have hcz52_6 : wc.cell? ⟨gb181, 6, none⟩ = some (.string a0_6) := (blk_cell BK181.out 6).trans rfl
                              have hfz52_0 := blk_frozen BK181.out 0
                              have hfz52_1 := blk_frozen BK181.out 1
                              have hfz52_2 := blk_frozen BK181.out 2
                              have hfz52_3 := blk_frozen BK181.out 3
                              have hfz52_4 := blk_frozen BK181.out 4
                              have hfz52_5 := blk_frozen BK181.out 5
                              have hfz52_6 := blk_frozen BK181.out 6
                              go_wp2
                              go_meet
                              case rel => exact ⟨_, ((a0_0 == 5)), (by first | rfl | (simp; done) | (simp [*]; done)), H', ⟨by have := HJ1.out; have := HJ10.out; have := HJ26.out; first | omega | exact Nat.le_refl _⟩, ⟨by (with_reducible repeat (first | refine blk_drewN ?_ _ | refine blk_drew ?_ | refine blk_alloc ?_ _)); exact BK181.out⟩, ⟨by repeat (first | (with_reducible first | exact HB.out | apply below_alloc | apply pw_below_drewN | apply below_drew1 | refine below_set ?_ GE181.out) | exact HB.out)⟩⟩
                          case rest =>
                            clear HC48
                            try clear c1
                            try clear p1
                            try clear q1
                            try clear hx1
                            try clear c2
                            try clear p2
                            try clear c3
                            try clear c4
                            try clear c5
                            try clear c6
                            try clear p6
                            try clear c7
                            try clear c8
                            try clear c13
                            try clear c15
                            try clear p18
                            try clear q18
                            try clear hx18
                            try clear c21
                            try clear c24
                            try clear c24b0
                            try clear c25
                            try clear c25b0
                            try clear c33
                            try clear c33b0
                            try clear c33b1
                            try clear c36
                            try clear c38
                            try clear c38b0
                            try clear c38b1
                            try clear c38b2
                            try clear c39
                            try clear c39b0
                            try clear c39b1
                            try clear c39b2
                            try clear c42
                            try clear c42b0
                            try clear c42b1
                            try clear c44
                            try clear c44b0
                            try clear c44b1
                            try clear c44b2
                            try clear c45
                            try clear c45b0
                            try clear c45b1
                            try clear c45b2
                            try clear c47
                            try clear c50
                            try clear c50b0
                            try clear c50b1
                            try clear hcz10_0
                            try clear hcz10_1
                            try clear hcz10_2
                            try clear hcz10_3
                            try clear hcz10_4
                            try clear hcz10_5
                            try clear hcz10_6
                            try clear hcz16_0
                            try clear hcz16_1
                            try clear hcz16_2
                            try clear hcz16_3
                            try clear hcz16_4
                            try clear hcz16_5
                            try clear hcz16_6
                            try clear hcz18_0
                            try clear hcz18_1
                            try clear hcz18_2
                            try clear hcz18_3
                            try clear hcz18_4
                            try clear hcz18_5
                            try clear hcz18_6
                            try clear hcz20_0
                            try clear hcz20_1
                            try clear hcz20_2
                            try clear hcz20_3
                            try clear hcz20_4
                            try clear hcz20_5
                            try clear hcz20_6
                            try clear hcz31_0
                            try clear hcz31_1
                            try clear hcz31_2
                            try clear hcz31_3
                            try clear hcz31_4
                            try clear hcz31_5
                            try clear hcz31_6
                            try clear hcz34_0
                            try clear hcz34_1
                            try clear hcz34_2
                            try clear hcz34_3
                            try clear hcz34_4
                            try clear hcz34_5
                            try clear hcz34_6
                            try clear hcz35_0
                            try clear hcz35_1
                            try clear hcz35_2
                            try clear hcz35_3
                            try clear hcz35_4
                            try clear hcz35_5
                            try clear hcz35_6
                            try clear hcz40_0
                            try clear hcz40_1
                            try clear hcz40_2
                            try clear hcz40_3
                            try clear hcz40_4
                            try clear hcz40_5
                            try clear hcz40_6
                            try clear hcz46_0
                            try clear hcz46_1
                            try clear hcz46_2
                            try clear hcz46_3
                            try clear hcz46_4
                            try clear hcz46_5
                            try clear hcz46_6
                            try clear hcz49_0
                            try clear hcz49_1
                            try clear hcz49_2
                            try clear hcz49_3
                            try clear hcz49_4
                            try clear hcz49_5
                            try clear hcz49_6
                            try clear hcz51_0
                            try clear hcz51_1
                            try clear hcz51_2
                            try clear hcz51_3
                            try clear hcz51_4
                            try clear hcz51_5
                            try clear hcz51_6
                            try clear hcz52_0
                            try clear hcz52_1
                            try clear hcz52_2
                            try clear hcz52_3
                            try clear hcz52_4
                            try clear hcz52_5
                            try clear hcz52_6
                            try clear hcz8_0
                            try clear hcz8_1
                            try clear hcz8_2
                            try clear hcz8_3
                            try clear hcz8_4
                            try clear hcz8_5
                            try clear hcz8_6
                            try clear hcz9_0
                            try clear hcz9_1
                            try clear hcz9_2
                            try clear hcz9_3
                            try clear hcz9_4
                            try clear hcz9_5
                            try clear hcz9_6
                            try clear hfz10_0
                            try clear hfz10_1
                            try clear hfz10_2
                            try clear hfz10_3
                            try clear hfz10_4
                            try clear hfz10_5
                            try clear hfz10_6
                            try clear hfz16_0
                            try clear hfz16_1
                            try clear hfz16_2
                            try clear hfz16_3
                            try clear hfz16_4
                            try clear hfz16_5
                            try clear hfz16_6
                            try clear hfz18_0
                            try clear hfz18_1
                            try clear hfz18_2
                            try clear hfz18_3
                            try clear hfz18_4
                            try clear hfz18_5
                            try clear hfz18_6
                            try clear hfz20_0
                            try clear hfz20_1
                            try clear hfz20_2
                            try clear hfz20_3
                            try clear hfz20_4
                            try clear hfz20_5
                            try clear hfz20_6
                            try clear hfz31_0
                            try clear hfz31_1
                            try clear hfz31_2
                            try clear hfz31_3
                            try clear hfz31_4
                            try clear hfz31_5
                            try clear hfz31_6
                            try clear hfz34_0
                            try clear hfz34_1
                            try clear hfz34_2
                            try clear hfz34_3
                            try clear hfz34_4
                            try clear hfz34_5
                            try clear hfz34_6
                            try clear hfz35_0
                            try clear hfz35_1
                            try clear hfz35_2
                            try clear hfz35_3
                            try clear hfz35_4
                            try clear hfz35_5
                            try clear hfz35_6
                            try clear hfz40_0
                            try clear hfz40_1
                            try clear hfz40_2
                            try clear hfz40_3
                            try clear hfz40_4
                            try clear hfz40_5
                            try clear hfz40_6
                            try clear hfz46_0
                            try clear hfz46_1
                            try clear hfz46_2
                            try clear hfz46_3
                            try clear hfz46_4
                            try clear hfz46_5
                            try clear hfz46_6
                            try clear hfz49_0
                            try clear hfz49_1
                            try clear hfz49_2
                            try clear hfz49_3
                            try clear hfz49_4
                            try clear hfz49_5
                            try clear hfz49_6
                            try clear hfz51_0
                            try clear hfz51_1
                            try clear hfz51_2
                            try clear hfz51_3
                            try clear hfz51_4
                            try clear hfz51_5
                            try clear hfz51_6
                            try clear hfz52_0
                            try clear hfz52_1
                            try clear hfz52_2
                            try clear hfz52_3
                            try clear hfz52_4
                            try clear hfz52_5
                            try clear hfz52_6
                            try clear hfz8_0
                            try clear hfz8_1
                            try clear hfz8_2
                            try clear hfz8_3
                            try clear hfz8_4
                            try clear hfz8_5
                            try clear hfz8_6
                            try clear hfz9_0
                            try clear hfz9_1
                            try clear hfz9_2
                            try clear hfz9_3
                            try clear hfz9_4
                            try clear hfz9_5
                            try clear hfz9_6
                            try clear hx189_0
                            try clear p1
                            try clear p18
                            try clear p189
                            try clear p2
                            try clear p6
                            try clear q1
                            try clear q18
                            try clear q189
                            obtain ⟨kq, x71_47, rfl, HA, HJ47, BK181, HB⟩ := hcut
                            cases kq with
                            | zero => exact absurd HA.out (by simp [impl_insText.j3])
                            | succ kj47 =>
                              have H := HA.out
                              clear HA
                              simp only [impl_insText.j3] at H
                              by_cases c53 : x71_47 = true
                              · subst c53
                                have H1 : (if 1 + a0_3.size ≤ 9223372036854775807 then (if (rdOf ByteArray.empty t186 (ji23)).size + ((⟨#[32]⟩ : ByteArray) ++ a0_3).size ≤ 9223372036854775807 then (some ((rdOf ByteArray.empty t186 (ji23)) ++ ((⟨#[32]⟩ : ByteArray) ++ a0_3), true)) else (none)) else (none)) = some (r1, r2) := by rw [if_pos rfl] at H; exact H
                                clear H
                                have H := H1
                                clear H1
                                by_cases c54 : 1 + a0_3.size ≤ 9223372036854775807
                                · rw [if_pos c54] at H
                                  have c54b0 := eq_true c54
                                  have c54b1 : decide (1 + a0_3.size ≤ 9223372036854775807) = true := decide_eq_true c54
                                  try have c54b2 : (9223372036854775807 < 1 + a0_3.size) = False := eq_false (Nat.not_lt.2 c54)
                                  by_cases c55 : (rdOf ByteArray.empty t186 (ji23)).size + ((⟨#[32]⟩ : ByteArray) ++ a0_3).size ≤ 9223372036854775807
                                  · rw [if_pos c55] at H
                                    have c55b0 := eq_true c55
                                    have c55b1 : decide ((rdOf ByteArray.empty t186 (ji23)).size + ((⟨#[32]⟩ : ByteArray) ++ a0_3).size ≤ 9223372036854775807) = true := decide_eq_true c55
                                    have c55b7_ : (rdOf ByteArray.empty t186 (ji23)).size + (1 + a0_3.size) ≤ 9223372036854775807 := by have h_ := c55; have e0_ : (⟨#[32]⟩ : ByteArray).size = 1 := rfl; simp only [ByteArray.size_append] at h_; omega
                                    have c55b8 : decide ((rdOf ByteArray.empty t186 (ji23)).size + (1 + a0_3.size) ≤ 9223372036854775807) = true := decide_eq_true c55b7_
                                    have c55b9 : (9223372036854775807 < (rdOf ByteArray.empty t186 (ji23)).size + (1 + a0_3.size)) = False := eq_false (Nat.not_lt.2 c55b7_)
                                    have c55b7 := eq_true c55b7_
                                    clear c55b7_
                                    try have c55b2 : (9223372036854775807 < (rdOf ByteArray.empty t186 (ji23)).size + ((⟨#[32]⟩ : ByteArray) ++ a0_3).size) = False := eq_false (Nat.not_lt.2 c55)
                                    simp only [Option.some.injEq, Prod.mk.injEq] at H
                                    obtain ⟨rfl, rfl⟩ := H
                                    have hcz56_0 : wc.cell? ⟨gb181, 0, none⟩ = some (.int .i64 a0_0) := (blk_cell BK181.out 0).trans rfl
                                    have hcz56_1 : wc.cell? ⟨gb181, 1, none⟩ = some (.int .i64 a0_1) := (blk_cell BK181.out 1).trans rfl
                                    have hcz56_2 : wc.cell? ⟨gb181, 2, none⟩ = some (.int .i64 a0_2) := (blk_cell BK181.out 2).trans rfl
                                    have hcz56_3 : wc.cell? ⟨gb181, 3, none⟩ = some (.string a0_3) := (blk_cell BK181.out 3).trans rfl
                                    have hcz56_4 : wc.cell? ⟨gb181, 4, none⟩ = some (.int .i64 a0_4) := (blk_cell BK181.out 4).trans rfl
                                    have hcz56_5 : wc.cell? ⟨gb181, 5, none⟩ = some (.int .i64 a0_5) := (blk_cell BK181.out 5).trans rfl
                                    have hcz56_6 : wc.cell? ⟨gb181, 6, none⟩ = some (.string a0_6) := (blk_cell BK181.out 6).trans rfl
                                    have hfz56_0 := blk_frozen BK181.out 0
                                    have hfz56_1 := blk_frozen BK181.out 1
                                    have hfz56_2 := blk_frozen BK181.out 2
                                    have hfz56_3 := blk_frozen BK181.out 3
                                    have hfz56_4 := blk_frozen BK181.out 4
                                    have hfz56_5 := blk_frozen BK181.out 5
                                    have hfz56_6 := blk_frozen BK181.out 6
                                    go_wp2
                                    go_ret2
                                    exact ⟨by first | rfl | exact My.ret_isEmpty _ | (simp [errW_none, errW_some] <;> rfl) | (simp only [← hji23]; first | rfl | (simp [errW_none, errW_some] <;> rfl)) | (simp [*, errW_none, errW_some] <;> rfl), by repeat (first | (with_reducible first | exact HB.out | apply below_alloc | apply pw_below_drewN | apply below_drew1 | refine below_set ?_ GE181.out) | exact HB.out)⟩
                                  · rw [if_neg c55] at H
                                    exact absurd H (by simp)
                                · rw [if_neg c54] at H
                                  exact absurd H (by simp)
                              · replace c53 := Bool.eq_false_iff.mpr c53
                                subst c53
                                have H1 : (if a0_0 = 10 then (if 1 + t190.size ≤ 9223372036854775807 then (if ((⟨#[32]⟩ : ByteArray) ++ t190).size + 1 ≤ 9223372036854775807 then ((strconv_Itoa_70.f a0_2).bind fun t193 => (if (((⟨#[32]⟩ : ByteArray) ++ t190) ++ (⟨#[32]⟩ : ByteArray)).size + t193.size ≤ 9223372036854775807 then (if (rdOf ByteArray.empty t186 (ji23)).size + ((((⟨#[32]⟩ : ByteArray) ++ t190) ++ (⟨#[32]⟩ : ByteArray)) ++ t193).size ≤ 9223372036854775807 then (some ((rdOf ByteArray.empty t186 (ji23)) ++ ((((⟨#[32]⟩ : ByteArray) ++ t190) ++ (⟨#[32]⟩ : ByteArray)) ++ t193), true)) else (none)) else (none))) else (none)) else (none)) else (if a0_0 = 11 then (if 1 + a0_3.size ≤ 9223372036854775807 then (if ((⟨#[32]⟩ : ByteArray) ++ a0_3).size + 1 ≤ 9223372036854775807 then (if (((⟨#[32]⟩ : ByteArray) ++ a0_3) ++ (⟨#[32]⟩ : ByteArray)).size + t190.size ≤ 9223372036854775807 then (if (rdOf ByteArray.empty t186 (ji23)).size + ((((⟨#[32]⟩ : ByteArray) ++ a0_3) ++ (⟨#[32]⟩ : ByteArray)) ++ t190).size ≤ 9223372036854775807 then (some ((rdOf ByteArray.empty t186 (ji23)) ++ ((((⟨#[32]⟩ : ByteArray) ++ a0_3) ++ (⟨#[32]⟩ : ByteArray)) ++ t190), true)) else (none)) else (none)) else (none)) else (none)) else (if a0_0 = 2 then (if 1 + t190.size ≤ 9223372036854775807 then (if (rdOf ByteArray.empty t186 (ji23)).size + ((⟨#[32]⟩ : ByteArray) ++ t190).size ≤ 9223372036854775807 then (some ((rdOf ByteArray.empty t186 (ji23)) ++ ((⟨#[32]⟩ : ByteArray) ++ t190), true)) else (none)) else (none)) else (if a0_0 = 3 then (if 1 + t190.size ≤ 9223372036854775807 then (if (rdOf ByteArray.empty t186 (ji23)).size + ((⟨#[32]⟩ : ByteArray) ++ t190).size ≤ 9223372036854775807 then (some ((rdOf ByteArray.empty t186 (ji23)) ++ ((⟨#[32]⟩ : ByteArray) ++ t190), true)) else (none)) else (none)) else ((impl_leads.f kj47 a0_0).bind fun t194 => (if t194 = true then (if 1 + t190.size ≤ 9223372036854775807 then (if (rdOf ByteArray.empty t186 (ji23)).size + ((⟨#[32]⟩ : ByteArray) ++ t190).size ≤ 9223372036854775807 then (some ((rdOf ByteArray.empty t186 (ji23)) ++ ((⟨#[32]⟩ : ByteArray) ++ t190), true)) else (none)) else (none)) else (some ((rdOf ByteArray.empty t186 (ji23)), true)))))))) = some (r1, r2) := by rw [if_neg (show ¬ (false = true) by decide)] at H; exact H
                                clear H
                                have H := H1
                                clear H1
                                by_cases c57 : a0_0 = 10
                                · rw [if_pos c57] at H
                                  have c57b0 : (a0_0 == 10) = true := beq_iff_eq.mpr c57
                                  have c57b1 : (a0_0 != 10) = false := bne_eq_false_iff_eq.mpr c57
                                  clear c57
                                  by_cases c58 : 1 + t190.size ≤ 9223372036854775807
                                  · rw [if_pos c58] at H
                                    have c58b0 := eq_true c58
                                    have c58b1 : decide (1 + t190.size ≤ 9223372036854775807) = true := decide_eq_true c58
                                    try have c58b2 : (9223372036854775807 < 1 + t190.size) = False := eq_false (Nat.not_lt.2 c58)
                                    by_cases c59 : ((⟨#[32]⟩ : ByteArray) ++ t190).size + 1 ≤ 9223372036854775807
                                    · rw [if_pos c59] at H
                                      have c59b0 := eq_true c59
                                      have c59b1 : decide (((⟨#[32]⟩ : ByteArray) ++ t190).size + 1 ≤ 9223372036854775807) = true := decide_eq_true c59
                                      have c59b7_ : 1 + t190.size + 1 ≤ 9223372036854775807 := by have h_ := c59; have e0_ : (⟨#[32]⟩ : ByteArray).size = 1 := rfl; simp only [ByteArray.size_append] at h_; omega
                                      have c59b8 : decide (1 + t190.size + 1 ≤ 9223372036854775807) = true := decide_eq_true c59b7_
                                      have c59b9 : (9223372036854775807 < 1 + t190.size + 1) = False := eq_false (Nat.not_lt.2 c59b7_)
                                      have c59b7 := eq_true c59b7_
                                      clear c59b7_
                                      try have c59b2 : (9223372036854775807 < ((⟨#[32]⟩ : ByteArray) ++ t190).size + 1) = False := eq_false (Nat.not_lt.2 c59)
                                      replace H := Option.bind_eq_some_iff.mp H
                                      obtain ⟨t193, A600, H⟩ := H
                                      replace H : (if (((⟨#[32]⟩ : ByteArray) ++ t190) ++ (⟨#[32]⟩ : ByteArray)).size + t193.size ≤ 9223372036854775807 then (if (rdOf ByteArray.empty t186 (ji23)).size + ((((⟨#[32]⟩ : ByteArray) ++ t190) ++ (⟨#[32]⟩ : ByteArray)) ++ t193).size ≤ 9223372036854775807 then (some ((rdOf ByteArray.empty t186 (ji23)) ++ ((((⟨#[32]⟩ : ByteArray) ++ t190) ++ (⟨#[32]⟩ : ByteArray)) ++ t193), true)) else (none)) else (none)) = some (r1, r2) := H
                                      have A60 := Aside0.mk A600
                                      clear A600
                                      by_cases c61 : (((⟨#[32]⟩ : ByteArray) ++ t190) ++ (⟨#[32]⟩ : ByteArray)).size + t193.size ≤ 9223372036854775807
                                      · rw [if_pos c61] at H
                                        have c61b0 := eq_true c61
                                        have c61b1 : decide ((((⟨#[32]⟩ : ByteArray) ++ t190) ++ (⟨#[32]⟩ : ByteArray)).size + t193.size ≤ 9223372036854775807) = true := decide_eq_true c61
                                        have c61b7_ : 1 + t190.size + 1 + t193.size ≤ 9223372036854775807 := by have h_ := c61; have e0_ : (⟨#[32]⟩ : ByteArray).size = 1 := rfl; simp only [ByteArray.size_append] at h_; omega
                                        have c61b8 : decide (1 + t190.size + 1 + t193.size ≤ 9223372036854775807) = true := decide_eq_true c61b7_
                                        have c61b9 : (9223372036854775807 < 1 + t190.size + 1 + t193.size) = False := eq_false (Nat.not_lt.2 c61b7_)
                                        have c61b7 := eq_true c61b7_
                                        clear c61b7_
                                        try have c61b2 : (9223372036854775807 < (((⟨#[32]⟩ : ByteArray) ++ t190) ++ (⟨#[32]⟩ : ByteArray)).size + t193.size) = False := eq_false (Nat.not_lt.2 c61)
                                        by_cases c62 : (rdOf ByteArray.empty t186 (ji23)).size + ((((⟨#[32]⟩ : ByteArray) ++ t190) ++ (⟨#[32]⟩ : ByteArray)) ++ t193).size ≤ 9223372036854775807
                                        · rw [if_pos c62] at H
                                          have c62b0 := eq_true c62
                                          have c62b1 : decide ((rdOf ByteArray.empty t186 (ji23)).size + ((((⟨#[32]⟩ : ByteArray) ++ t190) ++ (⟨#[32]⟩ : ByteArray)) ++ t193).size ≤ 9223372036854775807) = true := decide_eq_true c62
                                          have c62b7_ : (rdOf ByteArray.empty t186 (ji23)).size + (1 + t190.size + 1 + t193.size) ≤ 9223372036854775807 := by have h_ := c62; have e0_ : (⟨#[32]⟩ : ByteArray).size = 1 := rfl; simp only [ByteArray.size_append] at h_; omega
                                          have c62b8 : decide ((rdOf ByteArray.empty t186 (ji23)).size + (1 + t190.size + 1 + t193.size) ≤ 9223372036854775807) = true := decide_eq_true c62b7_
                                          have c62b9 : (9223372036854775807 < (rdOf ByteArray.empty t186 (ji23)).size + (1 + t190.size + 1 + t193.size)) = False := eq_false (Nat.not_lt.2 c62b7_)
                                          have c62b7 := eq_true c62b7_
                                          clear c62b7_
                                          try have c62b2 : (9223372036854775807 < (rdOf ByteArray.empty t186 (ji23)).size + ((((⟨#[32]⟩ : ByteArray) ++ t190) ++ (⟨#[32]⟩ : ByteArray)) ++ t193).size) = False := eq_false (Nat.not_lt.2 c62)
                                          simp only [Option.some.injEq, Prod.mk.injEq] at H
                                          obtain ⟨rfl, rfl⟩ := H
                                          have hcz63_0 : wc.cell? ⟨gb181, 0, none⟩ = some (.int .i64 a0_0) := (blk_cell BK181.out 0).trans rfl
                                          have hcz63_1 : wc.cell? ⟨gb181, 1, none⟩ = some (.int .i64 a0_1) := (blk_cell BK181.out 1).trans rfl
                                          have hcz63_2 : wc.cell? ⟨gb181, 2, none⟩ = some (.int .i64 a0_2) := (blk_cell BK181.out 2).trans rfl
                                          have hcz63_3 : wc.cell? ⟨gb181, 3, none⟩ = some (.string a0_3) := (blk_cell BK181.out 3).trans rfl
                                          have hcz63_4 : wc.cell? ⟨gb181, 4, none⟩ = some (.int .i64 a0_4) := (blk_cell BK181.out 4).trans rfl
                                          have hcz63_5 : wc.cell? ⟨gb181, 5, none⟩ = some (.int .i64 a0_5) := (blk_cell BK181.out 5).trans rfl
                                          have hcz63_6 : wc.cell? ⟨gb181, 6, none⟩ = some (.string a0_6) := (blk_cell BK181.out 6).trans rfl
                                          have hfz63_0 := blk_frozen BK181.out 0
                                          have hfz63_1 := blk_frozen BK181.out 1
                                          have hfz63_2 := blk_frozen BK181.out 2
                                          have hfz63_3 := blk_frozen BK181.out 3
                                          have hfz63_4 := blk_frozen BK181.out 4
                                          have hfz63_5 := blk_frozen BK181.out 5
                                          have hfz63_6 := blk_frozen BK181.out 6
                                          go_wp2_with (first | ((with_reducible refine gate_callee (f := 70) rfl ?_); refine goesL_ (some 95) rfl rfl Tryd.func70 (by kernel_rfl) rfl #[.int .i64 a0_2] rfl (by (try simp only [List.map_toArray, List.map_cons, List.map_nil]); first | done | rfl | (simp only [List.length_drop, List.length_take]; rfl)) ?_; (with_reducible refine (strconv_Itoa_70.calls a0_2 t193 _ ?side1 A60.out).mono ?_); (case side1 => exact My.tab_below hG (by repeat (first | (with_reducible first | exact HB.out | apply below_alloc | apply pw_below_drewN | apply below_drew1 | refine below_set ?_ GE181.out) | exact HB.out))); rintro e w64 ⟨rfl, hb⟩; refine ⟨_, rfl, ?_⟩; have n0_ := Aside0.mk (blk_below (g := gb181) (o := .cells #[.int .i64 a0_0, .int .i64 a0_1, .int .i64 a0_2, .string a0_3, .int .i64 a0_4, .int .i64 a0_5, .string a0_6] 44 (0, 0)) (by (with_reducible repeat (first | refine blk_drewN ?_ _ | refine blk_drew ?_ | refine blk_alloc ?_ _)); exact BK181.out) hb); have n1_ := Aside0.mk (below_step (by repeat (first | (with_reducible first | exact HB.out | apply below_alloc | apply pw_below_drewN | apply below_drew1 | refine below_set ?_ GE181.out) | exact HB.out)) hb); clear BK181; clear HB; have BK181 := n0_; have HB := n1_; clear n0_ n1_; (try clear hb); (try clear hb2); (try clear hk); (try clear hi)))
                                          go_ret2
                                          exact ⟨by first | rfl | exact My.ret_isEmpty _ | (simp [errW_none, errW_some] <;> rfl) | (simp only [← hji23]; first | rfl | (simp [errW_none, errW_some] <;> rfl)) | (simp [*, errW_none, errW_some] <;> rfl), by repeat (first | (with_reducible first | exact HB.out | apply below_alloc | apply pw_below_drewN | apply below_drew1 | refine below_set ?_ GE181.out) | exact HB.out)⟩
                                        · rw [if_neg c62] at H
                                          exact absurd H (by simp)
                                      · rw [if_neg c61] at H
                                        exact absurd H (by simp)
                                    · rw [if_neg c59] at H
                                      exact absurd H (by simp)
                                  · rw [if_neg c58] at H
                                    exact absurd H (by simp)
                                · rw [if_neg c57] at H
                                  have c57b0 : (a0_0 == 10) = false := beq_eq_false_iff_ne.mpr c57
                                  have c57b1 : (a0_0 != 10) = true := bne_iff_ne.mpr c57
                                  by_cases c65 : a0_0 = 11
                                  · rw [if_pos c65] at H
                                    have c65b0 : (a0_0 == 11) = true := beq_iff_eq.mpr c65
                                    have c65b1 : (a0_0 != 11) = false := bne_eq_false_iff_eq.mpr c65
                                    clear c65
                                    by_cases c66 : 1 + a0_3.size ≤ 9223372036854775807
                                    · rw [if_pos c66] at H
                                      have c66b0 := eq_true c66
                                      have c66b1 : decide (1 + a0_3.size ≤ 9223372036854775807) = true := decide_eq_true c66
                                      try have c66b2 : (9223372036854775807 < 1 + a0_3.size) = False := eq_false (Nat.not_lt.2 c66)
                                      by_cases c67 : ((⟨#[32]⟩ : ByteArray) ++ a0_3).size + 1 ≤ 9223372036854775807
                                      · rw [if_pos c67] at H
                                        have c67b0 := eq_true c67
                                        have c67b1 : decide (((⟨#[32]⟩ : ByteArray) ++ a0_3).size + 1 ≤ 9223372036854775807) = true := decide_eq_true c67
                                        have c67b7_ : 1 + a0_3.size + 1 ≤ 9223372036854775807 := by have h_ := c67; have e0_ : (⟨#[32]⟩ : ByteArray).size = 1 := rfl; simp only [ByteArray.size_append] at h_; omega
                                        have c67b8 : decide (1 + a0_3.size + 1 ≤ 9223372036854775807) = true := decide_eq_true c67b7_
                                        have c67b9 : (9223372036854775807 < 1 + a0_3.size + 1) = False := eq_false (Nat.not_lt.2 c67b7_)
                                        have c67b7 := eq_true c67b7_
                                        clear c67b7_
                                        try have c67b2 : (9223372036854775807 < ((⟨#[32]⟩ : ByteArray) ++ a0_3).size + 1) = False := eq_false (Nat.not_lt.2 c67)
                                        by_cases c68 : (((⟨#[32]⟩ : ByteArray) ++ a0_3) ++ (⟨#[32]⟩ : ByteArray)).size + t190.size ≤ 9223372036854775807
                                        · rw [if_pos c68] at H
                                          have c68b0 := eq_true c68
                                          have c68b1 : decide ((((⟨#[32]⟩ : ByteArray) ++ a0_3) ++ (⟨#[32]⟩ : ByteArray)).size + t190.size ≤ 9223372036854775807) = true := decide_eq_true c68
                                          have c68b7_ : 1 + a0_3.size + 1 + t190.size ≤ 9223372036854775807 := by have h_ := c68; have e0_ : (⟨#[32]⟩ : ByteArray).size = 1 := rfl; simp only [ByteArray.size_append] at h_; omega
                                          have c68b8 : decide (1 + a0_3.size + 1 + t190.size ≤ 9223372036854775807) = true := decide_eq_true c68b7_
                                          have c68b9 : (9223372036854775807 < 1 + a0_3.size + 1 + t190.size) = False := eq_false (Nat.not_lt.2 c68b7_)
                                          have c68b7 := eq_true c68b7_
                                          clear c68b7_
                                          try have c68b2 : (9223372036854775807 < (((⟨#[32]⟩ : ByteArray) ++ a0_3) ++ (⟨#[32]⟩ : ByteArray)).size + t190.size) = False := eq_false (Nat.not_lt.2 c68)
                                          by_cases c69 : (rdOf ByteArray.empty t186 (ji23)).size + ((((⟨#[32]⟩ : ByteArray) ++ a0_3) ++ (⟨#[32]⟩ : ByteArray)) ++ t190).size ≤ 9223372036854775807
                                          · rw [if_pos c69] at H
                                            have c69b0 := eq_true c69
                                            have c69b1 : decide ((rdOf ByteArray.empty t186 (ji23)).size + ((((⟨#[32]⟩ : ByteArray) ++ a0_3) ++ (⟨#[32]⟩ : ByteArray)) ++ t190).size ≤ 9223372036854775807) = true := decide_eq_true c69
                                            have c69b7_ : (rdOf ByteArray.empty t186 (ji23)).size + (1 + a0_3.size + 1 + t190.size) ≤ 9223372036854775807 := by have h_ := c69; have e0_ : (⟨#[32]⟩ : ByteArray).size = 1 := rfl; simp only [ByteArray.size_append] at h_; omega
                                            have c69b8 : decide ((rdOf ByteArray.empty t186 (ji23)).size + (1 + a0_3.size + 1 + t190.size) ≤ 9223372036854775807) = true := decide_eq_true c69b7_
                                            have c69b9 : (9223372036854775807 < (rdOf ByteArray.empty t186 (ji23)).size + (1 + a0_3.size + 1 + t190.size)) = False := eq_false (Nat.not_lt.2 c69b7_)
                                            have c69b7 := eq_true c69b7_
                                            clear c69b7_
                                            try have c69b2 : (9223372036854775807 < (rdOf ByteArray.empty t186 (ji23)).size + ((((⟨#[32]⟩ : ByteArray) ++ a0_3) ++ (⟨#[32]⟩ : ByteArray)) ++ t190).size) = False := eq_false (Nat.not_lt.2 c69)
                                            simp only [Option.some.injEq, Prod.mk.injEq] at H
                                            obtain ⟨rfl, rfl⟩ := H
                                            have hcz70_0 : wc.cell? ⟨gb181, 0, none⟩ = some (.int .i64 a0_0) := (blk_cell BK181.out 0).trans rfl
                                            have hcz70_1 : wc.cell? ⟨gb181, 1, none⟩ = some (.int .i64 a0_1) := (blk_cell BK181.out 1).trans rfl
                                            have hcz70_2 : wc.cell? ⟨gb181, 2, none⟩ = some (.int .i64 a0_2) := (blk_cell BK181.out 2).trans rfl
                                            have hcz70_3 : wc.cell? ⟨gb181, 3, none⟩ = some (.string a0_3) := (blk_cell BK181.out 3).trans rfl
                                            have hcz70_4 : wc.cell? ⟨gb181, 4, none⟩ = some (.int .i64 a0_4) := (blk_cell BK181.out 4).trans rfl
                                            have hcz70_5 : wc.cell? ⟨gb181, 5, none⟩ = some (.int .i64 a0_5) := (blk_cell BK181.out 5).trans rfl
                                            have hcz70_6 : wc.cell? ⟨gb181, 6, none⟩ = some (.string a0_6) := (blk_cell BK181.out 6).trans rfl
                                            have hfz70_0 := blk_frozen BK181.out 0
                                            have hfz70_1 := blk_frozen BK181.out 1
                                            have hfz70_2 := blk_frozen BK181.out 2
                                            have hfz70_3 := blk_frozen BK181.out 3
                                            have hfz70_4 := blk_frozen BK181.out 4
                                            have hfz70_5 := blk_frozen BK181.out 5
                                            have hfz70_6 := blk_frozen BK181.out 6
                                            go_wp2
                                            go_ret2
                                            exact ⟨by first | rfl | exact My.ret_isEmpty _ | (simp [errW_none, errW_some] <;> rfl) | (simp only [← hji23]; first | rfl | (simp [errW_none, errW_some] <;> rfl)) | (simp [*, errW_none, errW_some] <;> rfl), by repeat (first | (with_reducible first | exact HB.out | apply below_alloc | apply pw_below_drewN | apply below_drew1 | refine below_set ?_ GE181.out) | exact HB.out)⟩
                                          · rw [if_neg c69] at H
                                            exact absurd H (by simp)
                                        · rw [if_neg c68] at H
                                          exact absurd H (by simp)
                                      · rw [if_neg c67] at H
                                        exact absurd H (by simp)
                                    · rw [if_neg c66] at H
                                      exact absurd H (by simp)
                                  · rw [if_neg c65] at H
                                    have c65b0 : (a0_0 == 11) = false := beq_eq_false_iff_ne.mpr c65
                                    have c65b1 : (a0_0 != 11) = true := bne_iff_ne.mpr c65
                                    by_cases c71 : a0_0 = 2
                                    · rw [if_pos c71] at H
                                      have c71b0 : (a0_0 == 2) = true := beq_iff_eq.mpr c71
                                      have c71b1 : (a0_0 != 2) = false := bne_eq_false_iff_eq.mpr c71
                                      clear c71
                                      by_cases c72 : 1 + t190.size ≤ 9223372036854775807
                                      · rw [if_pos c72] at H
                                        have c72b0 := eq_true c72
                                        have c72b1 : decide (1 + t190.size ≤ 9223372036854775807) = true := decide_eq_true c72
                                        try have c72b2 : (9223372036854775807 < 1 + t190.size) = False := eq_false (Nat.not_lt.2 c72)
                                        by_cases c73 : (rdOf ByteArray.empty t186 (ji23)).size + ((⟨#[32]⟩ : ByteArray) ++ t190).size ≤ 9223372036854775807
                                        · rw [if_pos c73] at H
                                          have c73b0 := eq_true c73
                                          have c73b1 : decide ((rdOf ByteArray.empty t186 (ji23)).size + ((⟨#[32]⟩ : ByteArray) ++ t190).size ≤ 9223372036854775807) = true := decide_eq_true c73
                                          have c73b7_ : (rdOf ByteArray.empty t186 (ji23)).size + (1 + t190.size) ≤ 9223372036854775807 := by have h_ := c73; have e0_ : (⟨#[32]⟩ : ByteArray).size = 1 := rfl; simp only [ByteArray.size_append] at h_; omega
                                          have c73b8 : decide ((rdOf ByteArray.empty t186 (ji23)).size + (1 + t190.size) ≤ 9223372036854775807) = true := decide_eq_true c73b7_
                                          have c73b9 : (9223372036854775807 < (rdOf ByteArray.empty t186 (ji23)).size + (1 + t190.size)) = False := eq_false (Nat.not_lt.2 c73b7_)
                                          have c73b7 := eq_true c73b7_
                                          clear c73b7_
                                          try have c73b2 : (9223372036854775807 < (rdOf ByteArray.empty t186 (ji23)).size + ((⟨#[32]⟩ : ByteArray) ++ t190).size) = False := eq_false (Nat.not_lt.2 c73)
                                          simp only [Option.some.injEq, Prod.mk.injEq] at H
                                          obtain ⟨rfl, rfl⟩ := H
                                          have hcz74_0 : wc.cell? ⟨gb181, 0, none⟩ = some (.int .i64 a0_0) := (blk_cell BK181.out 0).trans rfl
                                          have hcz74_1 : wc.cell? ⟨gb181, 1, none⟩ = some (.int .i64 a0_1) := (blk_cell BK181.out 1).trans rfl
                                          have hcz74_2 : wc.cell? ⟨gb181, 2, none⟩ = some (.int .i64 a0_2) := (blk_cell BK181.out 2).trans rfl
                                          have hcz74_3 : wc.cell? ⟨gb181, 3, none⟩ = some (.string a0_3) := (blk_cell BK181.out 3).trans rfl
                                          have hcz74_4 : wc.cell? ⟨gb181, 4, none⟩ = some (.int .i64 a0_4) := (blk_cell BK181.out 4).trans rfl
                                          have hcz74_5 : wc.cell? ⟨gb181, 5, none⟩ = some (.int .i64 a0_5) := (blk_cell BK181.out 5).trans rfl
                                          have hcz74_6 : wc.cell? ⟨gb181, 6, none⟩ = some (.string a0_6) := (blk_cell BK181.out 6).trans rfl
                                          have hfz74_0 := blk_frozen BK181.out 0
                                          have hfz74_1 := blk_frozen BK181.out 1
                                          have hfz74_2 := blk_frozen BK181.out 2
                                          have hfz74_3 := blk_frozen BK181.out 3
                                          have hfz74_4 := blk_frozen BK181.out 4
                                          have hfz74_5 := blk_frozen BK181.out 5
                                          have hfz74_6 := blk_frozen BK181.out 6
                                          go_wp2
                                          go_ret2
                                          exact ⟨by first | rfl | exact My.ret_isEmpty _ | (simp [errW_none, errW_some] <;> rfl) | (simp only [← hji23]; first | rfl | (simp [errW_none, errW_some] <;> rfl)) | (simp [*, errW_none, errW_some] <;> rfl), by repeat (first | (with_reducible first | exact HB.out | apply below_alloc | apply pw_below_drewN | apply below_drew1 | refine below_set ?_ GE181.out) | exact HB.out)⟩
                                        · rw [if_neg c73] at H
                                          exact absurd H (by simp)
                                      · rw [if_neg c72] at H
                                        exact absurd H (by simp)
                                    · rw [if_neg c71] at H
                                      have c71b0 : (a0_0 == 2) = false := beq_eq_false_iff_ne.mpr c71
                                      have c71b1 : (a0_0 != 2) = true := bne_iff_ne.mpr c71
                                      by_cases c75 : a0_0 = 3
                                      · rw [if_pos c75] at H
                                        have c75b0 : (a0_0 == 3) = true := beq_iff_eq.mpr c75
                                        have c75b1 : (a0_0 != 3) = false := bne_eq_false_iff_eq.mpr c75
                                        clear c75
                                        by_cases c76 : 1 + t190.size ≤ 9223372036854775807
                                        · rw [if_pos c76] at H
                                          have c76b0 := eq_true c76
                                          have c76b1 : decide (1 + t190.size ≤ 9223372036854775807) = true := decide_eq_true c76
                                          try have c76b2 : (9223372036854775807 < 1 + t190.size) = False := eq_false (Nat.not_lt.2 c76)
                                          by_cases c77 : (rdOf ByteArray.empty t186 (ji23)).size + ((⟨#[32]⟩ : ByteArray) ++ t190).size ≤ 9223372036854775807
                                          · rw [if_pos c77] at H
                                            have c77b0 := eq_true c77
                                            have c77b1 : decide ((rdOf ByteArray.empty t186 (ji23)).size + ((⟨#[32]⟩ : ByteArray) ++ t190).size ≤ 9223372036854775807) = true := decide_eq_true c77
                                            have c77b7_ : (rdOf ByteArray.empty t186 (ji23)).size + (1 + t190.size) ≤ 9223372036854775807 := by have h_ := c77; have e0_ : (⟨#[32]⟩ : ByteArray).size = 1 := rfl; simp only [ByteArray.size_append] at h_; omega
                                            have c77b8 : decide ((rdOf ByteArray.empty t186 (ji23)).size + (1 + t190.size) ≤ 9223372036854775807) = true := decide_eq_true c77b7_
                                            have c77b9 : (9223372036854775807 < (rdOf ByteArray.empty t186 (ji23)).size + (1 + t190.size)) = False := eq_false (Nat.not_lt.2 c77b7_)
                                            have c77b7 := eq_true c77b7_
                                            clear c77b7_
                                            try have c77b2 : (9223372036854775807 < (rdOf ByteArray.empty t186 (ji23)).size + ((⟨#[32]⟩ : ByteArray) ++ t190).size) = False := eq_false (Nat.not_lt.2 c77)
                                            simp only [Option.some.injEq, Prod.mk.injEq] at H
                                            obtain ⟨rfl, rfl⟩ := H
                                            have hcz78_0 : wc.cell? ⟨gb181, 0, none⟩ = some (.int .i64 a0_0) := (blk_cell BK181.out 0).trans rfl
                                            have hcz78_1 : wc.cell? ⟨gb181, 1, none⟩ = some (.int .i64 a0_1) := (blk_cell BK181.out 1).trans rfl
                                            have hcz78_2 : wc.cell? ⟨gb181, 2, none⟩ = some (.int .i64 a0_2) := (blk_cell BK181.out 2).trans rfl
                                            have hcz78_3 : wc.cell? ⟨gb181, 3, none⟩ = some (.string a0_3) := (blk_cell BK181.out 3).trans rfl
                                            have hcz78_4 : wc.cell? ⟨gb181, 4, none⟩ = some (.int .i64 a0_4) := (blk_cell BK181.out 4).trans rfl
                                            have hcz78_5 : wc.cell? ⟨gb181, 5, none⟩ = some (.int .i64 a0_5) := (blk_cell BK181.out 5).trans rfl
                                            have hcz78_6 : wc.cell? ⟨gb181, 6, none⟩ = some (.string a0_6) := (blk_cell BK181.out 6).trans rfl
                                            have hfz78_0 := blk_frozen BK181.out 0
                                            have hfz78_1 := blk_frozen BK181.out 1
                                            have hfz78_2 := blk_frozen BK181.out 2
                                            have hfz78_3 := blk_frozen BK181.out 3
                                            have hfz78_4 := blk_frozen BK181.out 4
                                            have hfz78_5 := blk_frozen BK181.out 5
                                            have hfz78_6 := blk_frozen BK181.out 6
                                            go_wp2
                                            go_ret2
                                            exact ⟨by first | rfl | exact My.ret_isEmpty _ | (simp [errW_none, errW_some] <;> rfl) | (simp only [← hji23]; first | rfl | (simp [errW_none, errW_some] <;> rfl)) | (simp [*, errW_none, errW_some] <;> rfl), by repeat (first | (with_reducible first | exact HB.out | apply below_alloc | apply pw_below_drewN | apply below_drew1 | refine below_set ?_ GE181.out) | exact HB.out)⟩
                                          · rw [if_neg c77] at H
                                            exact absurd H (by simp)
                                        · rw [if_neg c76] at H
                                          exact absurd H (by simp)
                                      · rw [if_neg c75] at H
                                        have c75b0 : (a0_0 == 3) = false := beq_eq_false_iff_ne.mpr c75
                                        have c75b1 : (a0_0 != 3) = true := bne_iff_ne.mpr c75
                                        replace H := Option.bind_eq_some_iff.mp H
                                        obtain ⟨t194, A790, H⟩ := H
                                        replace H : (if t194 = true then (if 1 + t190.size ≤ 9223372036854775807 then (if (rdOf ByteArray.empty t186 (ji23)).size + ((⟨#[32]⟩ : ByteArray) ++ t190).size ≤ 9223372036854775807 then (some ((rdOf ByteArray.empty t186 (ji23)) ++ ((⟨#[32]⟩ : ByteArray) ++ t190), true)) else (none)) else (none)) else (some ((rdOf ByteArray.empty t186 (ji23)), true))) = some (r1, r2) := H
                                        have A79 := Aside0.mk A790
                                        clear A790
                                        by_cases c80 : t194 = true
                                        · subst c80
                                          have H1 : (if 1 + t190.size ≤ 9223372036854775807 then (if (rdOf ByteArray.empty t186 (ji23)).size + ((⟨#[32]⟩ : ByteArray) ++ t190).size ≤ 9223372036854775807 then (some ((rdOf ByteArray.empty t186 (ji23)) ++ ((⟨#[32]⟩ : ByteArray) ++ t190), true)) else (none)) else (none)) = some (r1, r2) := by rw [if_pos rfl] at H; exact H
                                          clear H
                                          have H := H1
                                          clear H1
                                          by_cases c81 : 1 + t190.size ≤ 9223372036854775807
                                          · rw [if_pos c81] at H
                                            have c81b0 := eq_true c81
                                            have c81b1 : decide (1 + t190.size ≤ 9223372036854775807) = true := decide_eq_true c81
                                            try have c81b2 : (9223372036854775807 < 1 + t190.size) = False := eq_false (Nat.not_lt.2 c81)
                                            by_cases c82 : (rdOf ByteArray.empty t186 (ji23)).size + ((⟨#[32]⟩ : ByteArray) ++ t190).size ≤ 9223372036854775807
                                            · rw [if_pos c82] at H
                                              have c82b0 := eq_true c82
                                              have c82b1 : decide ((rdOf ByteArray.empty t186 (ji23)).size + ((⟨#[32]⟩ : ByteArray) ++ t190).size ≤ 9223372036854775807) = true := decide_eq_true c82
                                              have c82b7_ : (rdOf ByteArray.empty t186 (ji23)).size + (1 + t190.size) ≤ 9223372036854775807 := by have h_ := c82; have e0_ : (⟨#[32]⟩ : ByteArray).size = 1 := rfl; simp only [ByteArray.size_append] at h_; omega
                                              have c82b8 : decide ((rdOf ByteArray.empty t186 (ji23)).size + (1 + t190.size) ≤ 9223372036854775807) = true := decide_eq_true c82b7_
                                              have c82b9 : (9223372036854775807 < (rdOf ByteArray.empty t186 (ji23)).size + (1 + t190.size)) = False := eq_false (Nat.not_lt.2 c82b7_)
                                              have c82b7 := eq_true c82b7_
                                              clear c82b7_
                                              try have c82b2 : (9223372036854775807 < (rdOf ByteArray.empty t186 (ji23)).size + ((⟨#[32]⟩ : ByteArray) ++ t190).size) = False := eq_false (Nat.not_lt.2 c82)
                                              simp only [Option.some.injEq, Prod.mk.injEq] at H
                                              obtain ⟨rfl, rfl⟩ := H
                                              have hcz83_0 : wc.cell? ⟨gb181, 0, none⟩ = some (.int .i64 a0_0) := (blk_cell BK181.out 0).trans rfl
                                              have hcz83_1 : wc.cell? ⟨gb181, 1, none⟩ = some (.int .i64 a0_1) := (blk_cell BK181.out 1).trans rfl
                                              have hcz83_2 : wc.cell? ⟨gb181, 2, none⟩ = some (.int .i64 a0_2) := (blk_cell BK181.out 2).trans rfl
                                              have hcz83_3 : wc.cell? ⟨gb181, 3, none⟩ = some (.string a0_3) := (blk_cell BK181.out 3).trans rfl
                                              have hcz83_4 : wc.cell? ⟨gb181, 4, none⟩ = some (.int .i64 a0_4) := (blk_cell BK181.out 4).trans rfl
                                              have hcz83_5 : wc.cell? ⟨gb181, 5, none⟩ = some (.int .i64 a0_5) := (blk_cell BK181.out 5).trans rfl
                                              have hcz83_6 : wc.cell? ⟨gb181, 6, none⟩ = some (.string a0_6) := (blk_cell BK181.out 6).trans rfl
                                              have hfz83_0 := blk_frozen BK181.out 0
                                              have hfz83_1 := blk_frozen BK181.out 1
                                              have hfz83_2 := blk_frozen BK181.out 2
                                              have hfz83_3 := blk_frozen BK181.out 3
                                              have hfz83_4 := blk_frozen BK181.out 4
                                              have hfz83_5 := blk_frozen BK181.out 5
                                              have hfz83_6 := blk_frozen BK181.out 6
                                              go_wp2_with (first | (go_at_call 82; (with_reducible refine (impl_leads.calls kj47 a0_0 true _ A79.out).mono ?_); rintro e w84 ⟨rfl, hb⟩; have n0_ := Aside0.mk (blk_below (g := gb181) (o := .cells #[.int .i64 a0_0, .int .i64 a0_1, .int .i64 a0_2, .string a0_3, .int .i64 a0_4, .int .i64 a0_5, .string a0_6] 44 (0, 0)) (by (with_reducible repeat (first | refine blk_drewN ?_ _ | refine blk_drew ?_ | refine blk_alloc ?_ _)); exact BK181.out) hb); have n1_ := Aside0.mk (below_step (by repeat (first | (with_reducible first | exact HB.out | apply below_alloc | apply pw_below_drewN | apply below_drew1 | refine below_set ?_ GE181.out) | exact HB.out)) hb); clear BK181; clear HB; have BK181 := n0_; have HB := n1_; clear n0_ n1_; (try clear hb); (try clear hb2); (try clear hk); (try clear hi)))
                                              go_ret2
                                              exact ⟨by first | rfl | exact My.ret_isEmpty _ | (simp [errW_none, errW_some] <;> rfl) | (simp only [← hji23]; first | rfl | (simp [errW_none, errW_some] <;> rfl)) | (simp [*, errW_none, errW_some] <;> rfl), by repeat (first | (with_reducible first | exact HB.out | apply below_alloc | apply pw_below_drewN | apply below_drew1 | refine below_set ?_ GE181.out) | exact HB.out)⟩
                                            · rw [if_neg c82] at H
                                              exact absurd H (by simp)
                                          · rw [if_neg c81] at H
                                            exact absurd H (by simp)
                                        · replace c80 := Bool.eq_false_iff.mpr c80
                                          subst c80
                                          have H1 : (some ((rdOf ByteArray.empty t186 (ji23)), true)) = some (r1, r2) := by rw [if_neg (show ¬ (false = true) by decide)] at H; exact H
                                          clear H
                                          have H := H1
                                          clear H1
                                          simp only [Option.some.injEq, Prod.mk.injEq] at H
                                          obtain ⟨rfl, rfl⟩ := H
                                          have hcz85_0 : wc.cell? ⟨gb181, 0, none⟩ = some (.int .i64 a0_0) := (blk_cell BK181.out 0).trans rfl
                                          have hcz85_1 : wc.cell? ⟨gb181, 1, none⟩ = some (.int .i64 a0_1) := (blk_cell BK181.out 1).trans rfl
                                          have hcz85_2 : wc.cell? ⟨gb181, 2, none⟩ = some (.int .i64 a0_2) := (blk_cell BK181.out 2).trans rfl
                                          have hcz85_3 : wc.cell? ⟨gb181, 3, none⟩ = some (.string a0_3) := (blk_cell BK181.out 3).trans rfl
                                          have hcz85_4 : wc.cell? ⟨gb181, 4, none⟩ = some (.int .i64 a0_4) := (blk_cell BK181.out 4).trans rfl
                                          have hcz85_5 : wc.cell? ⟨gb181, 5, none⟩ = some (.int .i64 a0_5) := (blk_cell BK181.out 5).trans rfl
                                          have hcz85_6 : wc.cell? ⟨gb181, 6, none⟩ = some (.string a0_6) := (blk_cell BK181.out 6).trans rfl
                                          have hfz85_0 := blk_frozen BK181.out 0
                                          have hfz85_1 := blk_frozen BK181.out 1
                                          have hfz85_2 := blk_frozen BK181.out 2
                                          have hfz85_3 := blk_frozen BK181.out 3
                                          have hfz85_4 := blk_frozen BK181.out 4
                                          have hfz85_5 := blk_frozen BK181.out 5
                                          have hfz85_6 := blk_frozen BK181.out 6
                                          go_wp2_with (first | (go_at_call 82; (with_reducible refine (impl_leads.calls kj47 a0_0 false _ A79.out).mono ?_); rintro e w86 ⟨rfl, hb⟩; have n0_ := Aside0.mk (blk_below (g := gb181) (o := .cells #[.int .i64 a0_0, .int .i64 a0_1, .int .i64 a0_2, .string a0_3, .int .i64 a0_4, .int .i64 a0_5, .string a0_6] 44 (0, 0)) (by (with_reducible repeat (first | refine blk_drewN ?_ _ | refine blk_drew ?_ | refine blk_alloc ?_ _)); exact BK181.out) hb); have n1_ := Aside0.mk (below_step (by repeat (first | (with_reducible first | exact HB.out | apply below_alloc | apply pw_below_drewN | apply below_drew1 | refine below_set ?_ GE181.out) | exact HB.out)) hb); clear BK181; clear HB; have BK181 := n0_; have HB := n1_; clear n0_ n1_; (try clear hb); (try clear hb2); (try clear hk); (try clear hi)))
                                          go_ret2
                                          exact ⟨by first | rfl | exact My.ret_isEmpty _ | (simp [errW_none, errW_some] <;> rfl) | (simp only [← hji23]; first | rfl | (simp [errW_none, errW_some] <;> rfl)) | (simp [*, errW_none, errW_some] <;> rfl), by repeat (first | (with_reducible first | exact HB.out | apply below_alloc | apply pw_below_drewN | apply below_drew1 | refine below_set ?_ GE181.out) | exact HB.out)⟩
              · rw [if_neg c25] at H
                exact absurd H (by simp)
            · rw [if_neg c24] at H
              exact absurd H (by simp)

end Go.Proofs.YthclofmcinknlaaDoor.QFnExactInsText
