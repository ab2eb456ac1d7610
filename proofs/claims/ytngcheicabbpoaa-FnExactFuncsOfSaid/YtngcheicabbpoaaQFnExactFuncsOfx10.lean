/- Functions that the law uses, as Lean functions with the same answers, and the walks that show it: by this session's program, after the form of the kit's print. No condition. -/
import Derived.Test.YtngcheicabbpoaaQFnExactFuncsOfx0
import Derived.Test.YtngcheicabbpoaaQFnExactFuncsOfx8
import Derived.Test.YtngcheicabbpoaaQFnExactFuncsOfx9
namespace Go.Proofs.Ytngcheicabbpoaa.QFnExactFuncsOf
open Go.RowKit Go.Proofs.YtngcheicabbpoaaW.PrintWords Go.Proofs.YtngcheicabbpoaaW.PrintLast Go.Proofs.YtngcheicabbpoaaW.PrintMore
attribute [local go_sem] max2_int min2_int max_two min_two max_three min_three max_four min_four   -- for this text's walks alone
open Go.Proofs.Ytngcheicabbpoaa
attribute [local go_sem high] My.binOp_gtr_flip
set_option linter.unusedVariables false
set_option linter.unusedSimpArgs false

/-! ### impl_Node_fieldsOK: function 53 -/

def impl_Node_fieldsOK.keptL (a0 : Int) (n : Nat) : Nat := if a0 = 20 then n else 0
theorem impl_Node_fieldsOK.keptV_slice (a0 : Int) (A : Option Addr) (n c : Nat) : ∃ A' c', impl_Node_plain.keptV a0 (.slice A n c) = .slice A' (impl_Node_fieldsOK.keptL a0 n) c' := by
  unfold impl_Node_plain.keptV impl_Node_fieldsOK.keptL
  split
  · exact ⟨A, c, rfl⟩
  · exact ⟨none, 0, rfl⟩
/-- Has a node what its kind has no use for. -/
def impl_Node_fieldsOK.bad (a0 a1 : Int) (a2 : ByteArray) (n : Nat) : Bool := (impl_Node_plain.keptN a0 a1 != a1) || ((impl_Node_plain.keptT a0 a2).toList != a2.toList) || ((impl_Node_fieldsOK.keptL a0 n : Int) != (n : Int))
def impl_Node_fieldsOK.names (k : Nat) (l : List ByteArray) : Option Bool := if l.length ≤ 4611686018427387904 ∧ ∀ x ∈ l, (impl_identOK.f k x).isSome = true then some (l.all fun x => impl_identOK.f k x == some true) else none
theorem impl_Node_fieldsOK.names_mono (l : List ByteArray) (k : Nat) : LeO (impl_Node_fieldsOK.names k l) (impl_Node_fieldsOK.names (k + 1) l) := by
  intro r h
  unfold impl_Node_fieldsOK.names at h ⊢
  by_cases hc : l.length ≤ 4611686018427387904 ∧ ∀ x ∈ l, (impl_identOK.f k x).isSome = true
  · rw [if_pos hc] at h
    have e : ∀ x ∈ l, impl_identOK.f (k + 1) x = impl_identOK.f k x := fun x hx => by
      obtain ⟨v, hv⟩ := Option.isSome_iff_exists.1 (hc.2 x hx)
      rw [hv, impl_identOK.mono x k v hv]
    rw [if_pos ⟨hc.1, fun x hx => by rw [e x hx]; exact hc.2 x hx⟩, ← h]
    congr 1
    rw [Bool.eq_iff_iff, List.all_eq_true, List.all_eq_true]
    exact ⟨fun h x hx => by rw [← e x hx]; exact h x hx, fun h x hx => by rw [e x hx]; exact h x hx⟩
  · rw [if_neg hc] at h
    cases h
def impl_Node_fieldsOK.f (k : Nat) (a0_0 a0_1 : Int) (a0_2 : ByteArray) (l0_3 : List ByteArray) (l0_4 : List Int) : Option Bool :=
  if impl_Node_fieldsOK.bad a0_0 a0_1 a0_2 l0_3.length = true then some false
  else if a0_0 = 1 then some (decide (0 ≤ a0_1) && decide (a0_1 ≤ 2147483647))
  else if a0_0 = 3 then some (decide (0 ≤ a0_1) && decide (a0_1 ≤ 1))
  else if a0_0 = 2 then impl_wordText.f a0_2
  else if a0_0 = 6 then impl_isUnary.f a0_2
  else if a0_0 = 7 then impl_isBinary.f k a0_2
  else if a0_0 = 5 ∨ a0_0 = 10 ∨ a0_0 = 11 ∨ a0_0 = 12 ∨ a0_0 = 17 then impl_identOK.f k a0_2
  else if a0_0 = 20 then (impl_identOK.f k a0_2).bind fun b => if b = true then impl_Node_fieldsOK.names k l0_3 else some false
  else some (decide (4 ≤ a0_0 ∧ a0_0 ≤ 19))
theorem impl_Node_fieldsOK.mono : ∀ a0_0 a0_1 a0_2 l0_3 l0_4 k, LeO (impl_Node_fieldsOK.f k a0_0 a0_1 a0_2 l0_3 l0_4) (impl_Node_fieldsOK.f (k + 1) a0_0 a0_1 a0_2 l0_3 l0_4) := by
  intro a0_0 a0_1 a0_2 l0_3 l0_4 k
  unfold impl_Node_fieldsOK.f
  refine LeO.ite (LeO.refl _) (LeO.ite (LeO.refl _) (LeO.ite (LeO.refl _) (LeO.ite (LeO.refl _) (LeO.ite (LeO.refl _) (LeO.ite (impl_isBinary.mono _ _) (LeO.ite (impl_identOK.mono _ _) (LeO.ite (LeO.bind (impl_identOK.mono _ _) (fun b => LeO.ite (impl_Node_fieldsOK.names_mono _ _) (LeO.refl _))) (LeO.refl _))))))))
/-- The first place from a place on that meets a predicate: is there one. -/
theorem impl_Node_fieldsOK.from_any (p : ByteArray → Bool) (l : List ByteArray) : ∀ d (x : Nat), x + d = l.length → decide (0 ≤ slices_IndexFunc_string_string.from p l d (x : Int)) = (l.drop x).any p
  | 0, x, h => by
    rw [List.drop_eq_nil_iff.2 (by omega)]
    rfl
  | d + 1, x, h => by
    have hx : x < l.length := by omega
    unfold slices_IndexFunc_string_string.from
    rw [List.drop_eq_getElem_cons hx, List.any_cons]
    have e : rdOf ByteArray.empty l (x : Int) = l[x] := by
      unfold rdOf
      rw [Int.toNat_natCast, List.getD_eq_getElem?_getD, List.getElem?_eq_getElem hx]
      rfl
    rw [e]
    cases hp : p l[x] with
    | true =>
      rw [if_pos rfl, Bool.true_or]
      exact decide_eq_true (by omega)
    | false =>
      rw [if_neg (by decide), Bool.false_or]
      exact impl_Node_fieldsOK.from_any p l d (x + 1) (by omega)
set_option maxHeartbeats 4000000 in
set_option maxRecDepth 100000 in
theorem impl_Node_fieldsOK.calls (k : Nat) (a0_0 a0_1 : Int) (a0_2 : ByteArray) (A0_3 : Option Addr) (c0_3 : Nat) (l0_3 : List ByteArray) (A0_4 : Option Addr) (c0_4 : Nat) (l0_4 : List Int) (r : Bool) (w : World) (hr0_3 : Kd.C Kd.string w A0_3 l0_3.length l0_3) (hc0_3 : l0_3.length ≤ c0_3) (hr0_4 : Kd.C (Kd.int .i64) w A0_4 l0_4.length l0_4) (hc0_4 : l0_4.length ≤ c0_4) (h : impl_Node_fieldsOK.f k a0_0 a0_1 a0_2 l0_3 l0_4 = some r) :
    Calls Try.prog 53 #[.agg #[.int .i64 a0_0, .int .i64 a0_1, .string a0_2, .slice A0_3 l0_3.length c0_3, .slice A0_4 l0_4.length c0_4]] w fun e w' => e = .returned (.bool r) ∧ Below w.heap.size w w' := by
  have huN := Try.underlying52
  obtain ⟨A', c', hv⟩ := impl_Node_fieldsOK.keptV_slice a0_0 A0_3 l0_3.length c0_3
  have hp := fun w => impl_Node_plain.at a0_0 a0_1 a0_2 A0_3 l0_3.length c0_3 A0_4 l0_4.length c0_4 w
  rw [hv] at hp
  have HR := Lib.hid hr0_3
  have HC := Lib.hid hc0_3
  have HF := Lib.hid h
  clear hv hr0_3 hc0_3 hr0_4 hc0_4 h
  go_enter Try.func53, Try.ntmps53
  go_upto_region 1 with fail
  go_cut [3] from 4 to 5 (fun s3 wx => ∃ g : Nat, s3 = .pointer (some ⟨g, 0, none⟩) ∧ wx.heap[g]? = some (.cells #[.int .i64 a0_0, .int .i64 (impl_Node_plain.keptN a0_0 a0_1), .string (impl_Node_plain.keptT a0_0 a0_2), .slice A' (impl_Node_fieldsOK.keptL a0_0 l0_3.length) c', .slice A0_4 l0_4.length c0_4] 52 (0, 0)) ∧ wx.heap[w.heap.size]? = some (.cells #[.int .i64 a0_0, .int .i64 a0_1, .string a0_2, .slice A0_3 l0_3.length c0_3, .slice A0_4 l0_4.length c0_4] 52 (0, 0)) ∧ Below w.heap.size w wx)
  case first =>
    go_wp2_with (go_at_fn 71)
    refine (hp _).mono ?_
    rintro e w' ⟨rfl, hb⟩
    have hbox := blk_below (blk_new w (.cells #[.int .i64 a0_0, .int .i64 a0_1, .string a0_2, .slice A0_3 l0_3.length c0_3, .slice A0_4 l0_4.length c0_4] 52 (0, 0))) hb
    have HBX := Lib.hid hbox
    have HB := Lib.hid ((below_alloc (Below.refl _ _) _).trans (hb.mono (Nat.le_of_lt (by simp))))
    clear hb hbox hp
    go_wp2_with fail
    go_meet
    case rel => exact ⟨_, rfl, blk_new _ _, blk_alloc HBX.out _, HB.out.alloc HB.out.size _⟩
  case rest =>
    clear hp
    obtain ⟨g, rfl, hp, hn, hb⟩ := hcut
    have p1 := blk_cell hp 1
    have p2 := blk_cell hp 2
    have p3 := blk_cell hp 3
    have n1 := blk_cell hn 1
    have n2 := blk_cell hn 2
    have n3' := blk_cell hn 3
    have HB := Lib.hid hb
    have HN := Lib.hid hn
    clear hb hp hn
    obtain ⟨kn, ekn⟩ : ∃ x, x = impl_Node_plain.keptN a0_0 a0_1 := ⟨_, rfl⟩
    obtain ⟨kt, ekt⟩ : ∃ x, x = impl_Node_plain.keptT a0_0 a0_2 := ⟨_, rfl⟩
    obtain ⟨kl, ekl⟩ : ∃ x, x = impl_Node_fieldsOK.keptL a0_0 l0_3.length := ⟨_, rfl⟩
    rw [← ekn] at p1
    rw [← ekt] at p2
    rw [← ekl] at p3
    have HE := Lib.hid (show ((kn != a0_1) || (kt.toList != a0_2.toList) || ((kl : Int) != (l0_3.length : Int))) = impl_Node_fieldsOK.bad a0_0 a0_1 a0_2 l0_3.length by rw [ekn, ekt, ekl]; rfl)
    clear ekn ekt ekl
    go_upto_region 2 with fail
    obtain ⟨bv, ebv⟩ : ∃ x, x = ((kn != a0_1) || (kt.toList != a0_2.toList) || ((kl : Int) != (l0_3.length : Int))) := ⟨_, rfl⟩
    have HV := Lib.hid ebv
    clear ebv
    go_cut [26] from 6 to 25 (fun s wx => s = .bool bv ∧ wx = wc)
    case first =>
      clear HF HB HN HE HR HC
      go_wp2_with fail
      all_goals go_meet
      all_goals
        case rel =>
          refine ⟨?_, rfl⟩
          rw [HV.out]
          clear HV
          simp_all
    case rest =>
      obtain ⟨rfl, rfl⟩ := hcut
      have hf := HF.out
      unfold impl_Node_fieldsOK.f at hf
      rw [← HE.out, ← HV.out] at hf
      clear HE HV HF
      clear p1 p2 p3
      cases bv with
      | true =>
        rw [if_pos rfl] at hf
        obtain rfl := Option.some.inj hf
        clear hf
        go_wp2_with fail
        go_ret
        exact ⟨rfl, HB.out⟩
      | false =>
        rw [if_neg (by decide)] at hf
        have n0 := blk_cell HN.out 0
        by_cases h1 : a0_0 = 1
        · subst h1
          rw [if_pos rfl] at hf
          obtain rfl := Option.some.inj hf
          have hc := (impl_within.calls a0_1 0 2147483647 (decide (0 ≤ a0_1) && decide (a0_1 ≤ 2147483647)) wc (by unfold impl_within.f; by_cases h : (0 : Int) ≤ a0_1 <;> simp [h])).mono fun e w' h => And.intro h.1 h.2.below
          clear hf
          go_wp2_with (go_at_call 34; (with_reducible refine hc.mono ?_); rintro e w' ⟨rfl, hb⟩; have HB2 := Lib.hid hb; clear hb)
          go_ret
          exact ⟨rfl, HB.out.trans (HB2.out.mono HB.out.size)⟩
        rw [if_neg h1] at hf
        by_cases h3 : a0_0 = 3
        · subst h3
          rw [if_pos rfl] at hf
          obtain rfl := Option.some.inj hf
          have hc := (impl_within.calls a0_1 0 1 (decide (0 ≤ a0_1) && decide (a0_1 ≤ 1)) wc (by unfold impl_within.f; by_cases h : (0 : Int) ≤ a0_1 <;> simp [h])).mono fun e w' h => And.intro h.1 h.2.below
          clear hf
          go_wp2_with (go_at_call 34; (with_reducible refine hc.mono ?_); rintro e w' ⟨rfl, hb⟩; have HB2 := Lib.hid hb; clear hb)
          go_ret
          exact ⟨rfl, HB.out.trans (HB2.out.mono HB.out.size)⟩
        rw [if_neg h3] at hf
        by_cases h2 : a0_0 = 2
        · subst h2
          rw [if_pos rfl] at hf
          have hc := impl_wordText.calls a0_2 r wc hf
          clear hf
          go_wp2_with (go_at_call 72; (with_reducible refine hc.mono ?_); rintro e w' ⟨rfl, hb⟩; have HB2 := Lib.hid hb; clear hb)
          go_ret
          exact ⟨rfl, HB.out.trans (HB2.out.mono HB.out.size)⟩
        rw [if_neg h2] at hf
        by_cases h6 : a0_0 = 6
        · subst h6
          rw [if_pos rfl] at hf
          have hc := (impl_isUnary.calls a0_2 r wc hf).mono fun e w' h => And.intro h.1 h.2.below
          clear hf
          go_wp2_with (go_at_call 73; (with_reducible refine hc.mono ?_); rintro e w' ⟨rfl, hb⟩; have HB2 := Lib.hid hb; clear hb)
          go_ret
          exact ⟨rfl, HB.out.trans (HB2.out.mono HB.out.size)⟩
        rw [if_neg h6] at hf
        by_cases h7 : a0_0 = 7
        · subst h7
          rw [if_pos rfl] at hf
          have hc := impl_isBinary.calls k a0_2 r wc hf
          clear hf
          go_wp2_with (go_at_call 74; (with_reducible refine hc.mono ?_); rintro e w' ⟨rfl, hb⟩; have HB2 := Lib.hid hb; clear hb)
          go_ret
          exact ⟨rfl, HB.out.trans (HB2.out.mono HB.out.size)⟩
        rw [if_neg h7] at hf
        by_cases h5 : a0_0 = 5
        · subst h5
          rw [if_pos (by decide)] at hf
          have hc := impl_identOK.calls k a0_2 r wc hf
          clear hf
          go_wp2_with (go_at_call 75; (with_reducible refine hc.mono ?_); rintro e w' ⟨rfl, hb⟩; have HB2 := Lib.hid hb; clear hb)
          go_ret
          exact ⟨rfl, HB.out.trans (HB2.out.mono HB.out.size)⟩
        by_cases h10 : a0_0 = 10
        · subst h10
          rw [if_pos (by decide)] at hf
          have hc := impl_identOK.calls k a0_2 r wc hf
          clear hf
          go_wp2_with (go_at_call 75; (with_reducible refine hc.mono ?_); rintro e w' ⟨rfl, hb⟩; have HB2 := Lib.hid hb; clear hb)
          go_ret
          exact ⟨rfl, HB.out.trans (HB2.out.mono HB.out.size)⟩
        by_cases h11 : a0_0 = 11
        · subst h11
          rw [if_pos (by decide)] at hf
          have hc := impl_identOK.calls k a0_2 r wc hf
          clear hf
          go_wp2_with (go_at_call 75; (with_reducible refine hc.mono ?_); rintro e w' ⟨rfl, hb⟩; have HB2 := Lib.hid hb; clear hb)
          go_ret
          exact ⟨rfl, HB.out.trans (HB2.out.mono HB.out.size)⟩
        by_cases h12 : a0_0 = 12
        · subst h12
          rw [if_pos (by decide)] at hf
          have hc := impl_identOK.calls k a0_2 r wc hf
          clear hf
          go_wp2_with (go_at_call 75; (with_reducible refine hc.mono ?_); rintro e w' ⟨rfl, hb⟩; have HB2 := Lib.hid hb; clear hb)
          go_ret
          exact ⟨rfl, HB.out.trans (HB2.out.mono HB.out.size)⟩
        by_cases h17 : a0_0 = 17
        · subst h17
          rw [if_pos (by decide)] at hf
          have hc := impl_identOK.calls k a0_2 r wc hf
          clear hf
          go_wp2_with (go_at_call 75; (with_reducible refine hc.mono ?_); rintro e w' ⟨rfl, hb⟩; have HB2 := Lib.hid hb; clear hb)
          go_ret
          exact ⟨rfl, HB.out.trans (HB2.out.mono HB.out.size)⟩
        rw [if_neg (by rintro (h | h | h | h | h) <;> contradiction)] at hf
        by_cases h20 : a0_0 = 20
        · subst h20
          rw [if_pos rfl] at hf
          obtain ⟨b, hb, hf⟩ := Option.bind_eq_some_iff.1 hf
          have hc := impl_identOK.calls k a0_2 b wc hb
          clear hb
          cases b with
          | false =>
            rw [if_neg (by decide)] at hf
            obtain rfl := Option.some.inj hf
            clear hf
            go_wp2_with (go_at_call 75; (with_reducible refine hc.mono ?_); rintro e w' ⟨rfl, hb⟩; have HB2 := Lib.hid hb; clear hb)
            go_ret
            exact ⟨rfl, HB.out.trans (HB2.out.mono HB.out.size)⟩
          | true =>
            rw [if_pos rfl] at hf
            unfold impl_Node_fieldsOK.names at hf
            by_cases hall : l0_3.length ≤ 4611686018427387904 ∧ ∀ x ∈ l0_3, (impl_identOK.f k x).isSome = true
            case neg => rw [if_neg hall] at hf; cases hf
            rw [if_pos hall] at hf
            obtain rfl := Option.some.inj hf
            obtain ⟨hlen, hall⟩ := hall
            have hcon : ∀ w', Below wc.heap.size wc w' → Calls Try.prog 76 #[.slice A0_3 l0_3.length c0_3, .func (.func 77) #[] #[]] w' fun e w'' => e = .returned (.bool (!(l0_3.all fun x => impl_identOK.f k x == some true))) ∧ Below w'.heap.size w' w'' := fun w' hb => by
              have hb0 := HB.out.trans (hb.mono HB.out.size)
              have h2 := slices_ContainsFunc_string_string.go (fun x => !(impl_identOK.f k x == some true)) 77 A0_3 c0_3 l0_3 w' (Kd.C_below HR.out hb0) HC.out hlen (fun x W hx hbW => by
                obtain ⟨v, hv⟩ := Option.isSome_iff_exists.1 (hall x hx)
                rw [hv]
                have := impl_Node_fieldsOK_1.calls k x (!v) W (by unfold impl_Node_fieldsOK_1.f; rw [hv]; rfl)
                refine this.mono fun e w2 h => ⟨?_, below_step hbW h.2⟩
                rw [h.1]
                cases v <;> rfl) (enters_of Try.func77 (by kernel_rfl) rfl)
              have e := impl_Node_fieldsOK.from_any (fun x => !(impl_identOK.f k x == some true)) l0_3 l0_3.length 0 (by omega)
              rw [List.drop_zero] at e
              rw [show ((0 : Nat) : Int) = 0 from rfl] at e
              rw [e] at h2
              have e2 : (l0_3.any fun x => !(impl_identOK.f k x == some true)) = !(l0_3.all fun x => impl_identOK.f k x == some true) := by rw [List.not_all_eq_any_not]
              rw [e2] at h2
              exact h2
            have hz : ∀ w', Below wc.heap.size wc w' → w'.cell? ⟨w.heap.size, 3, none⟩ = some (.slice A0_3 l0_3.length c0_3) := fun w' hb => blk_cell (blk_below HN.out hb) 3
            obtain ⟨v, hv⟩ : ∃ v, v = (l0_3.all fun x => impl_identOK.f k x == some true) := ⟨_, rfl⟩
            rw [← hv] at hcon
            have HV := Lib.hid hv
            clear hall hlen hf n3' hv
            go_wp2_with (first | (go_at_call 75; (with_reducible refine hc.mono ?_); rintro e w' ⟨rfl, hb⟩; have HB2 := Lib.hid hb; have hz' := hz _ hb; clear hb) | go_at_fn 76)
            refine (hcon _ HB2.out).mono ?_
            rintro e w'' ⟨rfl, hb⟩
            have HB3 := Lib.hid hb
            clear hb hcon hz hc
            go_wp2_with fail
            go_ret
            exact ⟨by rw [← HV.out]; cases v <;> rfl, (HB.out.trans (HB2.out.mono HB.out.size)).trans (HB3.out.mono (HB.out.trans (HB2.out.mono HB.out.size)).size)⟩
        rw [if_neg h20] at hf
        obtain rfl := Option.some.inj hf
        clear hf n1 n2 n3'
        have q1 : (a0_0 == 1) = false := beq_eq_false_iff_ne.mpr h1
        have q2 : (a0_0 == 2) = false := beq_eq_false_iff_ne.mpr h2
        have q3 : (a0_0 == 3) = false := beq_eq_false_iff_ne.mpr h3
        have q5 : (a0_0 == 5) = false := beq_eq_false_iff_ne.mpr h5
        have q6 : (a0_0 == 6) = false := beq_eq_false_iff_ne.mpr h6
        have q7 : (a0_0 == 7) = false := beq_eq_false_iff_ne.mpr h7
        have q10 : (a0_0 == 10) = false := beq_eq_false_iff_ne.mpr h10
        have q11 : (a0_0 == 11) = false := beq_eq_false_iff_ne.mpr h11
        have q12 : (a0_0 == 12) = false := beq_eq_false_iff_ne.mpr h12
        have q17 : (a0_0 == 17) = false := beq_eq_false_iff_ne.mpr h17
        have q20 : (a0_0 == 20) = false := beq_eq_false_iff_ne.mpr h20
        clear h1 h2 h3 h5 h6 h7 h10 h11 h12 h17 h20
        have hc := (impl_within.calls a0_0 4 18 (decide (4 ≤ a0_0 ∧ a0_0 ≤ 18)) wc (by unfold impl_within.f; by_cases h : (4 : Int) ≤ a0_0 <;> simp [h])).mono fun e w' h => And.intro h.1 h.2.below
        have hz : ∀ w', Below wc.heap.size wc w' → w'.cell? ⟨w.heap.size, 0, none⟩ = some (.int .i64 a0_0) := fun w' hb => blk_cell (blk_below HN.out hb) 0
        cases hq : decide (4 ≤ a0_0 ∧ a0_0 ≤ 18) with
        | true =>
          rw [hq] at hc
          have HQ := Lib.hid (show true = decide (4 ≤ a0_0 ∧ a0_0 ≤ 19) from (decide_eq_true (by have := of_decide_eq_true hq; omega)).symm)
          clear hq
          go_wp2_with (go_at_call 34; (with_reducible refine hc.mono ?_); rintro e w' ⟨rfl, hb⟩; have HB2 := Lib.hid hb; have hz' := hz _ hb; clear hb)
          go_ret
          exact ⟨by rw [← HQ.out]; rfl, HB.out.trans (HB2.out.mono HB.out.size)⟩
        | false =>
          rw [hq] at hc
          have HQ := Lib.hid (show (a0_0 == 19) = decide (4 ≤ a0_0 ∧ a0_0 ≤ 19) from by
            have := of_decide_eq_false hq
            rw [Bool.eq_iff_iff, beq_iff_eq, decide_eq_true_iff]
            omega)
          clear hq
          go_wp2_with (go_at_call 34; (with_reducible refine hc.mono ?_); rintro e w' ⟨rfl, hb⟩; have HB2 := Lib.hid hb; have hz' := hz _ hb; clear hb)
          go_ret
          exact ⟨by rw [← HQ.out]; rfl, HB.out.trans (HB2.out.mono HB.out.size)⟩

-- NOT PRINTED: function 105 (bits_Mul32)

-- NOT PRINTED: function 106 (bits_Mul64)

-- NOT PRINTED: function 91 (bits_Mul)

/-! ### stringslite_HasPrefix: function 107 -/
def stringslite_HasPrefix.f (a0 : ByteArray) (a1 : ByteArray) : Option (Bool) := if (a0.size : Int) ≥ (a1.size : Int) then (if 0 ≤ (a1.size : Int) then (if (a1.size : Int) ≤ (a0.size : Int) then (some ((a0.extract 0 ((a1.size : Int) : Int).toNat).toList == a1.toList)) else (none)) else (none)) else (some false)
set_option maxHeartbeats 8000000 in
set_option maxRecDepth 100000 in
theorem stringslite_HasPrefix.calls (a0 : ByteArray) (a1 : ByteArray) (r : Bool) (w : World) (h : stringslite_HasPrefix.f a0 a1 = some r) :
    Calls Try.prog 107 #[.string a0, .string a1] w fun e w' => e = .returned (.bool r) ∧ Drawn0 w w' := by
  have H : (if (a0.size : Int) ≥ (a1.size : Int) then (if 0 ≤ (a1.size : Int) then (if (a1.size : Int) ≤ (a0.size : Int) then (some ((a0.extract 0 ((a1.size : Int) : Int).toNat).toList == a1.toList)) else (none)) else (none)) else (some false)) = some r := h
  clear h
  by_cases c3 : (a0.size : Int) ≥ (a1.size : Int)
  · rw [if_pos c3] at H
    have c3b0 : decide ((a1.size : Int) ≤ (a0.size : Int)) = true := decide_eq_true c3
    have c3b1 : decide (a1.size ≤ a0.size) = true := decide_eq_true (Int.ofNat_le.mp c3)
    clear c3
    by_cases c4 : 0 ≤ (a1.size : Int)
    · rw [if_pos c4] at H
      have c4b0 := eq_true c4
      have c4b1 : decide (0 ≤ (a1.size : Int)) = true := decide_eq_true c4
      clear c4
      by_cases c5 : (a1.size : Int) ≤ (a0.size : Int)
      · rw [if_pos c5] at H
        have c5b0 := eq_true c5
        have c5b1 : decide ((a1.size : Int) ≤ (a0.size : Int)) = true := decide_eq_true c5
        clear c5
        obtain rfl := Option.some.inj H
        go_enter Try.func107, Try.ntmps107
        go_wp2
        go_ret
        exact ⟨by first | rfl | (simp; done) | (simp [*]; done), by repeat (first | exact Drawn0.refl _ | apply Drawn0.step)⟩
      · rw [if_neg c5] at H
        exact absurd H (by simp)
    · rw [if_neg c4] at H
      exact absurd H (by simp)
  · rw [if_neg c3] at H
    have c3b0 : decide ((a1.size : Int) ≤ (a0.size : Int)) = false := decide_eq_false c3
    have c3b1 : decide (a1.size ≤ a0.size) = false := decide_eq_false (fun h => c3 (Int.ofNat_le.mpr h))
    clear c3
    obtain rfl := Option.some.inj H
    go_enter Try.func107, Try.ntmps107
    go_wp2
    go_ret
    exact ⟨by first | rfl | (simp; done) | (simp [*]; done), by repeat (first | exact Drawn0.refl _ | apply Drawn0.step)⟩

/-! ### strings_HasPrefix: function 92 -/
def strings_HasPrefix.f (a0 : ByteArray) (a1 : ByteArray) : Option (Bool) := (stringslite_HasPrefix.f a0 a1).bind fun t259 => (some t259)
set_option maxHeartbeats 8000000 in
set_option maxRecDepth 100000 in
theorem strings_HasPrefix.calls (a0 : ByteArray) (a1 : ByteArray) (r : Bool) (w : World) (h : strings_HasPrefix.f a0 a1 = some r) :
    Calls Try.prog 92 #[.string a0, .string a1] w fun e w' => e = .returned (.bool r) ∧ Drawn0 w w' := by
  have H : ((stringslite_HasPrefix.f a0 a1).bind fun t259 => (some t259)) = some r := h
  clear h
  replace H := Option.bind_eq_some_iff.mp H
  obtain ⟨t259, A30, H⟩ := H
  replace H : (some t259) = some r := H
  have A3 := Aside0.mk A30
  clear A30
  obtain rfl := Option.some.inj H
  go_enter Try.func92, Try.ntmps92
  go_wp2_with (first | ((with_reducible refine gate_callee (f := 107) rfl ?_); refine goesL_ (some 7) rfl rfl Try.func107 (by kernel_rfl) rfl #[.string a0, .string a1] rfl (by (try simp only [List.map_toArray, List.map_cons, List.map_nil]); first | done | rfl | (simp only [List.length_drop, List.length_take]; rfl)) ?_; (with_reducible refine (stringslite_HasPrefix.calls a0 a1 t259 _ A3.out).mono ?_); rintro e w' ⟨rfl, ⟨nd, rfl⟩⟩; refine ⟨_, rfl, ?_⟩))
  go_ret
  exact ⟨by first | rfl | (simp; done) | (simp [*]; done), by repeat (first | exact Drawn0.refl _ | apply Drawn0.step)⟩

-- NOT PRINTED: function 112 (abi_NoEscape)

-- NOT PRINTED: function 108 (strings_Builder_copyCheck)

-- NOT PRINTED: function 113 (bytealg_MakeNoZero)

-- NOT PRINTED: function 109 (strings_Builder_grow)

-- NOT PRINTED: function 93 (strings_Builder_Grow)

-- NOT PRINTED: function 94 (strings_Builder_WriteString)

-- NOT PRINTED: function 95 (strings_Builder_Len)

-- NOT PRINTED: function 96 (strings_Builder_String)

/-! ### strings_Repeat: function 78 -/
def strings_Repeat.f (a0 : ByteArray) (a1 : Int) : Option ByteArray := if 0 ≤ a1 ∧ a1 ≤ 9223372036854775807 ∧ a0.size * a1.toNat ≤ 140737488355328 then some ⟨(Lib.repeatL a0.data.toList a1.toNat).toArray⟩ else none
theorem strings_Repeat.calls (a0 : ByteArray) (a1 : Int) (r : ByteArray) (w : World) (h : strings_Repeat.f a0 a1 = some r) : Calls Try.prog 78 #[.string a0, .int .i64 a1] w fun e w' => e = .returned (.string r) ∧ Below w.heap.size w w' := by
  unfold strings_Repeat.f at h
  by_cases hs : 0 ≤ a1 ∧ a1 ≤ 9223372036854775807 ∧ a0.size * a1.toNat ≤ 140737488355328
  case neg => rw [if_neg hs] at h; cases h
  rw [if_pos hs] at h
  obtain rfl := Option.some.inj h
  obtain ⟨c, rfl⟩ : ∃ c : Nat, a1 = (c : Int) := ⟨a1.toNat, by omega⟩
  rw [Int.toNat_natCast] at hs ⊢
  exact My.repeated a0 c w (by omega) hs.2.2

/-! ### impl_kidKinds: function 54 -/
mutual
def impl_kidKinds.j0 : Nat → Int → Bool → Int → Int → ByteArray → List ByteArray → List Int → Option (ByteArray)
  | 0, _, _, _, _, _, _, _ => none
  | k + 1, x4, x5, x261000, x261001, x261002, x261003, x261004 => if x5 = true then (some (⟨#[101]⟩ : ByteArray)) else (if x4 = 7 then (impl_kidKinds.j1 k x4 (x4 == 7) x261000 x261001 x261002 x261003 x261004) else (if x4 = 8 then (impl_kidKinds.j1 k x4 (x4 == 8) x261000 x261001 x261002 x261003 x261004) else (impl_kidKinds.j1 k x4 (x4 == 9) x261000 x261001 x261002 x261003 x261004)))
def impl_kidKinds.j1 : Nat → Int → Bool → Int → Int → ByteArray → List ByteArray → List Int → Option (ByteArray)
  | 0, _, _, _, _, _, _, _ => none
  | k + 1, x4, x12, x261000, x261001, x261002, x261003, x261004 => if x12 = true then (some (⟨#[101, 101]⟩ : ByteArray)) else (if x4 = 10 then ((strings_Repeat.f (⟨#[101]⟩ : ByteArray) (x261004.length : Int)).bind fun t261 => (some t261)) else (if x4 = 13 then (if 0 ≤ (mn (mx (x261004.length : Int) 2) 3) then (if (mn (mx (x261004.length : Int) 2) 3) ≤ 3 then (some ((⟨#[101, 98, 98]⟩ : ByteArray).extract 0 ((mn (mx (x261004.length : Int) 2) 3) : Int).toNat)) else (none)) else (none)) else (if x4 = 14 then (some (⟨#[101, 98]⟩ : ByteArray)) else (if x4 = 17 then (some (⟨#[98, 98]⟩ : ByteArray)) else (if x4 = 18 then ((strings_Repeat.f (⟨#[115]⟩ : ByteArray) (x261004.length : Int)).bind fun t262 => (some t262)) else (if x4 = 20 then (some (⟨#[98]⟩ : ByteArray)) else (some (⟨#[]⟩ : ByteArray))))))))
end
def impl_kidKinds.f (k : Nat) (a0_0 : Int) (a0_1 : Int) (a0_2 : ByteArray) (l0_3 : List ByteArray) (l0_4 : List Int) : Option (ByteArray) := if a0_0 = 6 then (impl_kidKinds.j0 k a0_0 (a0_0 == 6) a0_0 a0_1 a0_2 l0_3 l0_4) else (if a0_0 = 11 then (impl_kidKinds.j0 k a0_0 (a0_0 == 11) a0_0 a0_1 a0_2 l0_3 l0_4) else (if a0_0 = 12 then (impl_kidKinds.j0 k a0_0 (a0_0 == 12) a0_0 a0_1 a0_2 l0_3 l0_4) else (if a0_0 = 15 then (impl_kidKinds.j0 k a0_0 (a0_0 == 15) a0_0 a0_1 a0_2 l0_3 l0_4) else (if a0_0 = 16 then (impl_kidKinds.j0 k a0_0 (a0_0 == 16) a0_0 a0_1 a0_2 l0_3 l0_4) else (impl_kidKinds.j0 k a0_0 (a0_0 == 19) a0_0 a0_1 a0_2 l0_3 l0_4)))))
theorem impl_kidKinds.mono_l : ∀ k, (∀ y0 y1 y2 y3 y4 y5 y6, LeO (impl_kidKinds.j0 k y0 y1 y2 y3 y4 y5 y6) (impl_kidKinds.j0 (k + 1) y0 y1 y2 y3 y4 y5 y6)) ∧ (∀ y0 y1 y2 y3 y4 y5 y6, LeO (impl_kidKinds.j1 k y0 y1 y2 y3 y4 y5 y6) (impl_kidKinds.j1 (k + 1) y0 y1 y2 y3 y4 y5 y6))
  | 0 => ⟨fun _ _ _ _ _ _ _ r h => by simp [impl_kidKinds.j0] at h, fun _ _ _ _ _ _ _ r h => by simp [impl_kidKinds.j1] at h⟩
  | k + 1 => by
    obtain ⟨ih0, ih1⟩ := impl_kidKinds.mono_l k
    refine ⟨?_, ?_⟩
    · intro y0 y1 y2 y3 y4 y5 y6
      unfold impl_kidKinds.j0
      repeat' first
      | (with_reducible exact ih0 _ _ _ _ _ _ _)
      | (with_reducible exact ih1 _ _ _ _ _ _ _)
      | (with_reducible exact LeO.refl _)
      | (with_reducible exact LeO.none _)
      | (with_reducible refine LeO.ite ?_ ?_)
      | (with_reducible refine LeO.bind ?_ (fun _ => ?_))
      | exact ih0 _ _ _ _ _ _ _
      | exact ih1 _ _ _ _ _ _ _
      | exact LeO.none _
      | refine LeO.ite ?_ ?_
      | refine LeO.bind ?_ (fun _ => ?_)
    · intro y0 y1 y2 y3 y4 y5 y6
      unfold impl_kidKinds.j1
      repeat' first
      | (with_reducible exact ih0 _ _ _ _ _ _ _)
      | (with_reducible exact ih1 _ _ _ _ _ _ _)
      | (with_reducible exact LeO.refl _)
      | (with_reducible exact LeO.none _)
      | (with_reducible refine LeO.ite ?_ ?_)
      | (with_reducible refine LeO.bind ?_ (fun _ => ?_))
      | exact ih0 _ _ _ _ _ _ _
      | exact ih1 _ _ _ _ _ _ _
      | exact LeO.none _
      | refine LeO.ite ?_ ?_
      | refine LeO.bind ?_ (fun _ => ?_)
theorem impl_kidKinds.mono : ∀ a0 a1 a2 a3 a4 k, LeO (impl_kidKinds.f k a0 a1 a2 a3 a4) (impl_kidKinds.f (k + 1) a0 a1 a2 a3 a4) := by
  intro a0 a1 a2 a3 a4 k
  obtain ⟨ih0, ih1⟩ := impl_kidKinds.mono_l k
  unfold impl_kidKinds.f
  repeat' first
      | (with_reducible exact ih0 _ _ _ _ _ _ _)
      | (with_reducible exact ih1 _ _ _ _ _ _ _)
      | (with_reducible exact LeO.refl _)
      | (with_reducible exact LeO.none _)
      | (with_reducible refine LeO.ite ?_ ?_)
      | (with_reducible refine LeO.bind ?_ (fun _ => ?_))
      | exact ih0 _ _ _ _ _ _ _
      | exact ih1 _ _ _ _ _ _ _
      | exact LeO.none _
      | refine LeO.ite ?_ ?_
      | refine LeO.bind ?_ (fun _ => ?_)
set_option maxHeartbeats 8000000 in
set_option maxRecDepth 100000 in
theorem impl_kidKinds.calls (k : Nat) (a0_0 : Int) (a0_1 : Int) (a0_2 : ByteArray) (A0_3 : Option Addr) (c0_3 : Nat) (l0_3 : List ByteArray) (A0_4 : Option Addr) (c0_4 : Nat) (l0_4 : List Int) (r : ByteArray) (w : World) (hr0_3 : Kd.C Kd.string w A0_3 l0_3.length l0_3) (hc0_3 : l0_3.length ≤ c0_3) (hr0_4 : Kd.C (Kd.int .i64) w A0_4 l0_4.length l0_4) (hc0_4 : l0_4.length ≤ c0_4) (h : impl_kidKinds.f k a0_0 a0_1 a0_2 l0_3 l0_4 = some r) :
    Calls Try.prog 54 #[.agg #[.int .i64 a0_0, .int .i64 a0_1, .string a0_2, .slice A0_3 l0_3.length c0_3, .slice A0_4 l0_4.length c0_4]] w fun e w' => e = .returned (.string r) ∧ Below w.heap.size w w' := by
  have hu52 := Try.underlying52
  have HR0_3 := Aside0.mk hr0_3
  have HC0_3 := Aside0.mk hc0_3
  clear hr0_3 hc0_3
  have HR0_4 := Aside0.mk hr0_4
  have HC0_4 := Aside0.mk hc0_4
  clear hr0_4 hc0_4
  have HB := Aside0.mk (Below.refl w.heap.size w)
  have H : (if a0_0 = 6 then (impl_kidKinds.j0 k a0_0 (a0_0 == 6) a0_0 a0_1 a0_2 l0_3 l0_4) else (if a0_0 = 11 then (impl_kidKinds.j0 k a0_0 (a0_0 == 11) a0_0 a0_1 a0_2 l0_3 l0_4) else (if a0_0 = 12 then (impl_kidKinds.j0 k a0_0 (a0_0 == 12) a0_0 a0_1 a0_2 l0_3 l0_4) else (if a0_0 = 15 then (impl_kidKinds.j0 k a0_0 (a0_0 == 15) a0_0 a0_1 a0_2 l0_3 l0_4) else (if a0_0 = 16 then (impl_kidKinds.j0 k a0_0 (a0_0 == 16) a0_0 a0_1 a0_2 l0_3 l0_4) else (impl_kidKinds.j0 k a0_0 (a0_0 == 19) a0_0 a0_1 a0_2 l0_3 l0_4)))))) = some r := h
  clear h
  have HC2 := Aside0.mk H
  clear H
  go_enter Try.func54, Try.ntmps54
  go_upto_if 5 with (first | ((with_reducible refine gate_dst (N := 1) rfl ?_); refine box_event ?hg (N := 1) ?hd (cs := #[.int .i64 a0_0, .int .i64 a0_1, .string a0_2, .slice A0_3 l0_3.length c0_3, .slice A0_4 l0_4.length c0_4]) (t := 52) ?hr ?_; (case hd => rfl); (case hg => rfl); (case hr => first | (go_simp; done) | (go_simp; rfl)); intro gb260 hg w3 hbox hb; have n0_ := Aside0.mk (below_step (by repeat (first | (with_reducible first | exact HB.out | apply below_alloc | apply pw_below_drewN | apply below_drew1) | exact HB.out)) hb); have n1_ := Aside0.mk (hbox); have n2_ := Aside0.mk ((by rw [hg]; exact (below_size (by repeat (first | (with_reducible first | exact HB.out | apply below_alloc | apply pw_below_drewN | apply below_drew1) | exact HB.out))) : w.heap.size ≤ gb260)); have n3_ := Aside0.mk ((by rw [hg]; exact (below_size (by repeat (first | (with_reducible first | exact HB.out | apply below_alloc | apply pw_below_drewN | apply below_drew1) | exact HB.out))) : w.heap.size ≤ gb260)); clear HB; have HB := n0_; have BK260 := n1_; have GW260 := n2_; have GE260 := n3_; clear n0_ n1_ n2_ n3_; clear hb hbox hg; have hcz4_0 : w3.cell? ⟨gb260, 0, none⟩ = some (.int .i64 a0_0) := (blk_cell BK260.out 0).trans rfl; have hcz4_1 : w3.cell? ⟨gb260, 1, none⟩ = some (.int .i64 a0_1) := (blk_cell BK260.out 1).trans rfl; have hcz4_2 : w3.cell? ⟨gb260, 2, none⟩ = some (.string a0_2) := (blk_cell BK260.out 2).trans rfl; have hcz4_3 : w3.cell? ⟨gb260, 3, none⟩ = some (.slice A0_3 l0_3.length c0_3) := (blk_cell BK260.out 3).trans rfl; have hcz4_4 : w3.cell? ⟨gb260, 4, none⟩ = some (.slice A0_4 l0_4.length c0_4) := (blk_cell BK260.out 4).trans rfl; have hfz4_0 := blk_frozen BK260.out 0; have hfz4_1 := blk_frozen BK260.out 1; have hfz4_2 := blk_frozen BK260.out 2; have hfz4_3 := blk_frozen BK260.out 3; have hfz4_4 := blk_frozen BK260.out 4))
  (try simp only [Act.put, List.setIfInBounds_toArray, List.set_cons_zero, List.set_cons_succ])
  go_cut [5] (fun v5 wc => ∃ (kq : Nat) (x5_1 : Bool), v5 = .bool x5_1 ∧ Aside0 (impl_kidKinds.j0 kq a0_0 x5_1 a0_0 a0_1 a0_2 l0_3 l0_4 = some r) ∧ Aside0 (kq ≤ k) ∧ Aside0 (wc.heap[gb260]? = some (.cells #[.int .i64 a0_0, .int .i64 a0_1, .string a0_2, (.slice A0_3 l0_3.length c0_3), (.slice A0_4 l0_4.length c0_4)] 52 (0, 0))) ∧ Aside0 (Below w.heap.size w wc))
  case first =>
    have H := HC2.out
    clear HC2
    by_cases c5 : a0_0 = 6
    · rw [if_pos c5] at H
      have c5b0 : (a0_0 == 6) = true := beq_iff_eq.mpr c5
      have c5b1 : (a0_0 != 6) = false := bne_eq_false_iff_eq.mpr c5
      clear c5
      (first | rw [c5b0] | (simp only [i64_w, i32_w]; rw [c5b0]) | skip)
      have H' := Aside0.mk H
      clear H
      go_wp2
      go_meet
      case rel => exact ⟨_, ((a0_0 == 6)), (by first | rfl | (simp; done) | (simp [*]; done)), H', ⟨by first | omega | exact Nat.le_refl _⟩, ⟨by (with_reducible repeat (first | refine blk_drewN ?_ _ | refine blk_drew ?_ | refine blk_alloc ?_ _)); exact BK260.out⟩, ⟨by repeat (first | (with_reducible first | exact HB.out | apply below_alloc | apply pw_below_drewN | apply below_drew1 | refine below_set ?_ GE260.out) | exact HB.out)⟩⟩
    · rw [if_neg c5] at H
      have c5b0 : (a0_0 == 6) = false := beq_eq_false_iff_ne.mpr c5
      have c5b1 : (a0_0 != 6) = true := bne_iff_ne.mpr c5
      (first | rw [c5b0] | (simp only [i64_w, i32_w]; rw [c5b0]) | skip)
      by_cases c6 : a0_0 = 11
      · rw [if_pos c6] at H
        have c6b0 : (a0_0 == 11) = true := beq_iff_eq.mpr c6
        have c6b1 : (a0_0 != 11) = false := bne_eq_false_iff_eq.mpr c6
        clear c6
        have H' := Aside0.mk H
        clear H
        go_wp2
        go_meet
        case rel => exact ⟨_, ((a0_0 == 11)), (by first | rfl | (simp; done) | (simp [*]; done)), H', ⟨by first | omega | exact Nat.le_refl _⟩, ⟨by (with_reducible repeat (first | refine blk_drewN ?_ _ | refine blk_drew ?_ | refine blk_alloc ?_ _)); exact BK260.out⟩, ⟨by repeat (first | (with_reducible first | exact HB.out | apply below_alloc | apply pw_below_drewN | apply below_drew1 | refine below_set ?_ GE260.out) | exact HB.out)⟩⟩
      · rw [if_neg c6] at H
        have c6b0 : (a0_0 == 11) = false := beq_eq_false_iff_ne.mpr c6
        have c6b1 : (a0_0 != 11) = true := bne_iff_ne.mpr c6
        by_cases c7 : a0_0 = 12
        · rw [if_pos c7] at H
          have c7b0 : (a0_0 == 12) = true := beq_iff_eq.mpr c7
          have c7b1 : (a0_0 != 12) = false := bne_eq_false_iff_eq.mpr c7
          clear c7
          have H' := Aside0.mk H
          clear H
          go_wp2
          go_meet
          case rel => exact ⟨_, ((a0_0 == 12)), (by first | rfl | (simp; done) | (simp [*]; done)), H', ⟨by first | omega | exact Nat.le_refl _⟩, ⟨by (with_reducible repeat (first | refine blk_drewN ?_ _ | refine blk_drew ?_ | refine blk_alloc ?_ _)); exact BK260.out⟩, ⟨by repeat (first | (with_reducible first | exact HB.out | apply below_alloc | apply pw_below_drewN | apply below_drew1 | refine below_set ?_ GE260.out) | exact HB.out)⟩⟩
        · rw [if_neg c7] at H
          have c7b0 : (a0_0 == 12) = false := beq_eq_false_iff_ne.mpr c7
          have c7b1 : (a0_0 != 12) = true := bne_iff_ne.mpr c7
          by_cases c8 : a0_0 = 15
          · rw [if_pos c8] at H
            have c8b0 : (a0_0 == 15) = true := beq_iff_eq.mpr c8
            have c8b1 : (a0_0 != 15) = false := bne_eq_false_iff_eq.mpr c8
            clear c8
            have H' := Aside0.mk H
            clear H
            go_wp2
            go_meet
            case rel => exact ⟨_, ((a0_0 == 15)), (by first | rfl | (simp; done) | (simp [*]; done)), H', ⟨by first | omega | exact Nat.le_refl _⟩, ⟨by (with_reducible repeat (first | refine blk_drewN ?_ _ | refine blk_drew ?_ | refine blk_alloc ?_ _)); exact BK260.out⟩, ⟨by repeat (first | (with_reducible first | exact HB.out | apply below_alloc | apply pw_below_drewN | apply below_drew1 | refine below_set ?_ GE260.out) | exact HB.out)⟩⟩
          · rw [if_neg c8] at H
            have c8b0 : (a0_0 == 15) = false := beq_eq_false_iff_ne.mpr c8
            have c8b1 : (a0_0 != 15) = true := bne_iff_ne.mpr c8
            by_cases c9 : a0_0 = 16
            · rw [if_pos c9] at H
              have c9b0 : (a0_0 == 16) = true := beq_iff_eq.mpr c9
              have c9b1 : (a0_0 != 16) = false := bne_eq_false_iff_eq.mpr c9
              clear c9
              have H' := Aside0.mk H
              clear H
              go_wp2
              go_meet
              case rel => exact ⟨_, ((a0_0 == 16)), (by first | rfl | (simp; done) | (simp [*]; done)), H', ⟨by first | omega | exact Nat.le_refl _⟩, ⟨by (with_reducible repeat (first | refine blk_drewN ?_ _ | refine blk_drew ?_ | refine blk_alloc ?_ _)); exact BK260.out⟩, ⟨by repeat (first | (with_reducible first | exact HB.out | apply below_alloc | apply pw_below_drewN | apply below_drew1 | refine below_set ?_ GE260.out) | exact HB.out)⟩⟩
            · rw [if_neg c9] at H
              have c9b0 : (a0_0 == 16) = false := beq_eq_false_iff_ne.mpr c9
              have c9b1 : (a0_0 != 16) = true := bne_iff_ne.mpr c9
              have H' := Aside0.mk H
              clear H
              go_wp2
              go_meet
              case rel => exact ⟨_, ((a0_0 == 19)), (by first | rfl | (simp; done) | (simp [*]; done)), H', ⟨by first | omega | exact Nat.le_refl _⟩, ⟨by (with_reducible repeat (first | refine blk_drewN ?_ _ | refine blk_drew ?_ | refine blk_alloc ?_ _)); exact BK260.out⟩, ⟨by repeat (first | (with_reducible first | exact HB.out | apply below_alloc | apply pw_below_drewN | apply below_drew1 | refine below_set ?_ GE260.out) | exact HB.out)⟩⟩
  case rest =>
    clear HC2
    try clear p2
    try clear c5
    try clear c5b0
    try clear c5b1
    try clear c6
    try clear c6b0
    try clear c6b1
    try clear c7
    try clear c7b0
    try clear c7b1
    try clear c8
    try clear c8b0
    try clear c8b1
    try clear c9
    try clear c9b0
    try clear c9b1
    try clear hcz4_0
    try clear hcz4_1
    try clear hcz4_2
    try clear hcz4_3
    try clear hcz4_4
    try clear hfz4_0
    try clear hfz4_1
    try clear hfz4_2
    try clear hfz4_3
    try clear hfz4_4
    obtain ⟨kq, x5_1, rfl, HA, HJ1, BK260, HB⟩ := hcut
    cases kq with
    | zero => exact absurd HA.out (by simp [impl_kidKinds.j0])
    | succ kj1 =>
      have H := HA.out
      clear HA
      simp only [impl_kidKinds.j0] at H
      by_cases c10 : x5_1 = true
      · subst c10
        have H1 : (some (⟨#[101]⟩ : ByteArray)) = some r := by rw [if_pos rfl] at H; exact H
        clear H
        have H := H1
        clear H1
        obtain rfl := Option.some.inj H
        go_wp2
        go_ret
        exact ⟨by first | rfl | exact My.ret_isEmpty _ | (simp [errW_none, errW_some] <;> rfl) | (simp [*, errW_none, errW_some] <;> rfl), by repeat (first | (with_reducible first | exact HB.out | apply below_alloc | apply pw_below_drewN | apply below_drew1 | refine below_set ?_ GE260.out) | exact HB.out)⟩
      · replace c10 := Bool.eq_false_iff.mpr c10
        subst c10
        have H1 : (if a0_0 = 7 then (impl_kidKinds.j1 kj1 a0_0 (a0_0 == 7) a0_0 a0_1 a0_2 l0_3 l0_4) else (if a0_0 = 8 then (impl_kidKinds.j1 kj1 a0_0 (a0_0 == 8) a0_0 a0_1 a0_2 l0_3 l0_4) else (impl_kidKinds.j1 kj1 a0_0 (a0_0 == 9) a0_0 a0_1 a0_2 l0_3 l0_4))) = some r := by rw [if_neg (show ¬ (false = true) by decide)] at H; exact H
        clear H
        have H := H1
        clear H1
        have HC11 := Aside0.mk H
        clear H
        go_upto_if 12 with (fail)
        go_cut [12] (fun v12 wc => ∃ (kq : Nat) (x12_10 : Bool), v12 = .bool x12_10 ∧ Aside0 (impl_kidKinds.j1 kq a0_0 x12_10 a0_0 a0_1 a0_2 l0_3 l0_4 = some r) ∧ Aside0 (kq ≤ kj1) ∧ Aside0 (wc.heap[gb260]? = some (.cells #[.int .i64 a0_0, .int .i64 a0_1, .string a0_2, (.slice A0_3 l0_3.length c0_3), (.slice A0_4 l0_4.length c0_4)] 52 (0, 0))) ∧ Aside0 (Below w.heap.size w wc))
        case first =>
          have H := HC11.out
          clear HC11
          by_cases c12 : a0_0 = 7
          · rw [if_pos c12] at H
            have c12b0 : (a0_0 == 7) = true := beq_iff_eq.mpr c12
            have c12b1 : (a0_0 != 7) = false := bne_eq_false_iff_eq.mpr c12
            clear c12
            (first | rw [c12b0] | (simp only [i64_w, i32_w]; rw [c12b0]) | skip)
            have H' := Aside0.mk H
            clear H
            go_wp2
            go_meet
            case rel => exact ⟨_, ((a0_0 == 7)), (by first | rfl | (simp; done) | (simp [*]; done)), H', ⟨by have := HJ1.out; first | omega | exact Nat.le_refl _⟩, ⟨by (with_reducible repeat (first | refine blk_drewN ?_ _ | refine blk_drew ?_ | refine blk_alloc ?_ _)); exact BK260.out⟩, ⟨by repeat (first | (with_reducible first | exact HB.out | apply below_alloc | apply pw_below_drewN | apply below_drew1 | refine below_set ?_ GE260.out) | exact HB.out)⟩⟩
          · rw [if_neg c12] at H
            have c12b0 : (a0_0 == 7) = false := beq_eq_false_iff_ne.mpr c12
            have c12b1 : (a0_0 != 7) = true := bne_iff_ne.mpr c12
            (first | rw [c12b0] | (simp only [i64_w, i32_w]; rw [c12b0]) | skip)
            by_cases c13 : a0_0 = 8
            · rw [if_pos c13] at H
              have c13b0 : (a0_0 == 8) = true := beq_iff_eq.mpr c13
              have c13b1 : (a0_0 != 8) = false := bne_eq_false_iff_eq.mpr c13
              clear c13
              have H' := Aside0.mk H
              clear H
              go_wp2
              go_meet
              case rel => exact ⟨_, ((a0_0 == 8)), (by first | rfl | (simp; done) | (simp [*]; done)), H', ⟨by have := HJ1.out; first | omega | exact Nat.le_refl _⟩, ⟨by (with_reducible repeat (first | refine blk_drewN ?_ _ | refine blk_drew ?_ | refine blk_alloc ?_ _)); exact BK260.out⟩, ⟨by repeat (first | (with_reducible first | exact HB.out | apply below_alloc | apply pw_below_drewN | apply below_drew1 | refine below_set ?_ GE260.out) | exact HB.out)⟩⟩
            · rw [if_neg c13] at H
              have c13b0 : (a0_0 == 8) = false := beq_eq_false_iff_ne.mpr c13
              have c13b1 : (a0_0 != 8) = true := bne_iff_ne.mpr c13
              have H' := Aside0.mk H
              clear H
              go_wp2
              go_meet
              case rel => exact ⟨_, ((a0_0 == 9)), (by first | rfl | (simp; done) | (simp [*]; done)), H', ⟨by have := HJ1.out; first | omega | exact Nat.le_refl _⟩, ⟨by (with_reducible repeat (first | refine blk_drewN ?_ _ | refine blk_drew ?_ | refine blk_alloc ?_ _)); exact BK260.out⟩, ⟨by repeat (first | (with_reducible first | exact HB.out | apply below_alloc | apply pw_below_drewN | apply below_drew1 | refine below_set ?_ GE260.out) | exact HB.out)⟩⟩
        case rest =>
          clear HC11
          try clear c1
          try clear p2
          try clear c5
          try clear c5b0
          try clear c5b1
          try clear c6
          try clear c6b0
          try clear c6b1
          try clear c7
          try clear c7b0
          try clear c7b1
          try clear c8
          try clear c8b0
          try clear c8b1
          try clear c9
          try clear c9b0
          try clear c9b1
          try clear c10
          try clear c12
          try clear c12b0
          try clear c12b1
          try clear c13
          try clear c13b0
          try clear c13b1
          try clear hcz4_0
          try clear hcz4_1
          try clear hcz4_2
          try clear hcz4_3
          try clear hcz4_4
          try clear hfz4_0
          try clear hfz4_1
          try clear hfz4_2
          try clear hfz4_3
          try clear hfz4_4
          try clear p2
          obtain ⟨kq, x12_10, rfl, HA, HJ10, BK260, HB⟩ := hcut
          cases kq with
          | zero => exact absurd HA.out (by simp [impl_kidKinds.j1])
          | succ kj10 =>
            have H := HA.out
            clear HA
            simp only [impl_kidKinds.j1] at H
            by_cases c14 : x12_10 = true
            · subst c14
              have H1 : (some (⟨#[101, 101]⟩ : ByteArray)) = some r := by rw [if_pos rfl] at H; exact H
              clear H
              have H := H1
              clear H1
              obtain rfl := Option.some.inj H
              go_wp2
              go_ret
              exact ⟨by first | rfl | exact My.ret_isEmpty _ | (simp [errW_none, errW_some] <;> rfl) | (simp [*, errW_none, errW_some] <;> rfl), by repeat (first | (with_reducible first | exact HB.out | apply below_alloc | apply pw_below_drewN | apply below_drew1 | refine below_set ?_ GE260.out) | exact HB.out)⟩
            · replace c14 := Bool.eq_false_iff.mpr c14
              subst c14
              have H1 : (if a0_0 = 10 then ((strings_Repeat.f (⟨#[101]⟩ : ByteArray) (l0_4.length : Int)).bind fun t261 => (some t261)) else (if a0_0 = 13 then (if 0 ≤ (mn (mx (l0_4.length : Int) 2) 3) then (if (mn (mx (l0_4.length : Int) 2) 3) ≤ 3 then (some ((⟨#[101, 98, 98]⟩ : ByteArray).extract 0 ((mn (mx (l0_4.length : Int) 2) 3) : Int).toNat)) else (none)) else (none)) else (if a0_0 = 14 then (some (⟨#[101, 98]⟩ : ByteArray)) else (if a0_0 = 17 then (some (⟨#[98, 98]⟩ : ByteArray)) else (if a0_0 = 18 then ((strings_Repeat.f (⟨#[115]⟩ : ByteArray) (l0_4.length : Int)).bind fun t262 => (some t262)) else (if a0_0 = 20 then (some (⟨#[98]⟩ : ByteArray)) else (some (⟨#[]⟩ : ByteArray)))))))) = some r := by rw [if_neg (show ¬ (false = true) by decide)] at H; exact H
              clear H
              have H := H1
              clear H1
              by_cases c15 : a0_0 = 10
              · rw [if_pos c15] at H
                have c15b0 : (a0_0 == 10) = true := beq_iff_eq.mpr c15
                have c15b1 : (a0_0 != 10) = false := bne_eq_false_iff_eq.mpr c15
                clear c15
                replace H := Option.bind_eq_some_iff.mp H
                obtain ⟨t261, A160, H⟩ := H
                replace H : (some t261) = some r := H
                have A16 := Aside0.mk A160
                clear A160
                obtain rfl := Option.some.inj H
                have hcz17_0 : wc.cell? ⟨gb260, 0, none⟩ = some (.int .i64 a0_0) := (blk_cell BK260.out 0).trans rfl
                have hcz17_1 : wc.cell? ⟨gb260, 1, none⟩ = some (.int .i64 a0_1) := (blk_cell BK260.out 1).trans rfl
                have hcz17_2 : wc.cell? ⟨gb260, 2, none⟩ = some (.string a0_2) := (blk_cell BK260.out 2).trans rfl
                have hcz17_3 : wc.cell? ⟨gb260, 3, none⟩ = some (.slice A0_3 l0_3.length c0_3) := (blk_cell BK260.out 3).trans rfl
                have hcz17_4 : wc.cell? ⟨gb260, 4, none⟩ = some (.slice A0_4 l0_4.length c0_4) := (blk_cell BK260.out 4).trans rfl
                have hfz17_0 := blk_frozen BK260.out 0
                have hfz17_1 := blk_frozen BK260.out 1
                have hfz17_2 := blk_frozen BK260.out 2
                have hfz17_3 := blk_frozen BK260.out 3
                have hfz17_4 := blk_frozen BK260.out 4
                go_wp2_with (first | ((with_reducible refine gate_callee (f := 78) rfl ?_); refine goesL_ (some 21) rfl rfl Try.func78 (by kernel_rfl) rfl #[.string (⟨#[101]⟩ : ByteArray), .int .i64 (l0_4.length : Int)] rfl (by (try simp only [List.map_toArray, List.map_cons, List.map_nil]); first | done | rfl | (simp only [List.length_drop, List.length_take]; rfl)) ?_; (with_reducible refine (strings_Repeat.calls (⟨#[101]⟩ : ByteArray) (l0_4.length : Int) t261 _ A16.out).mono ?_); rintro e w18 ⟨rfl, hb⟩; refine ⟨_, rfl, ?_⟩; have n0_ := Aside0.mk (blk_below (g := gb260) (o := .cells #[.int .i64 a0_0, .int .i64 a0_1, .string a0_2, .slice A0_3 l0_3.length c0_3, .slice A0_4 l0_4.length c0_4] 52 (0, 0)) (by (with_reducible repeat (first | refine blk_drewN ?_ _ | refine blk_drew ?_ | refine blk_alloc ?_ _)); exact BK260.out) hb); have n1_ := Aside0.mk (below_step (by repeat (first | (with_reducible first | exact HB.out | apply below_alloc | apply pw_below_drewN | apply below_drew1 | refine below_set ?_ GE260.out) | exact HB.out)) hb); clear BK260; clear HB; have BK260 := n0_; have HB := n1_; clear n0_ n1_; (try clear hb); (try clear hb2); (try clear hk); (try clear hi)))
                go_ret
                exact ⟨by first | rfl | exact My.ret_isEmpty _ | (simp [errW_none, errW_some] <;> rfl) | (simp [*, errW_none, errW_some] <;> rfl), by repeat (first | (with_reducible first | exact HB.out | apply below_alloc | apply pw_below_drewN | apply below_drew1 | refine below_set ?_ GE260.out) | exact HB.out)⟩
              · rw [if_neg c15] at H
                have c15b0 : (a0_0 == 10) = false := beq_eq_false_iff_ne.mpr c15
                have c15b1 : (a0_0 != 10) = true := bne_iff_ne.mpr c15
                by_cases c19 : a0_0 = 13
                · rw [if_pos c19] at H
                  have c19b0 : (a0_0 == 13) = true := beq_iff_eq.mpr c19
                  have c19b1 : (a0_0 != 13) = false := bne_eq_false_iff_eq.mpr c19
                  clear c19
                  obtain ⟨ji20, hji20⟩ : ∃ j_ : Int, (mx (l0_4.length : Int) 2) = j_ := ⟨_, rfl⟩
                  replace H : (if 0 ≤ (mn (ji20) 3) then (if (mn (ji20) 3) ≤ 3 then (some ((⟨#[101, 98, 98]⟩ : ByteArray).extract 0 ((mn (ji20) 3) : Int).toNat)) else (none)) else (none)) = some r := by first | (rw [hji20] at H; exact H) | (simp only [hji20] at H ⊢; exact H)
                  have hji20_ : (if (l0_4.length : Int) < 2 then 2 else (l0_4.length : Int)) = ji20 := hji20
                  obtain ⟨ji21, hji21⟩ : ∃ j_ : Int, (mn (ji20) 3) = j_ := ⟨_, rfl⟩
                  replace H : (if 0 ≤ (ji21) then (if (ji21) ≤ 3 then (some ((⟨#[101, 98, 98]⟩ : ByteArray).extract 0 ((ji21) : Int).toNat)) else (none)) else (none)) = some r := by first | (rw [hji21] at H; exact H) | (simp only [hji21] at H ⊢; exact H)
                  have hji21_ : (if 3 < (ji20) then 3 else (ji20)) = ji21 := hji21
                  by_cases c22 : 0 ≤ (ji21)
                  · rw [if_pos c22] at H
                    have c22b0 := eq_true c22
                    have c22b1 : decide (0 ≤ (ji21)) = true := decide_eq_true c22
                    clear c22
                    by_cases c23 : (ji21) ≤ 3
                    · rw [if_pos c23] at H
                      have c23b0 := eq_true c23
                      have c23b1 : decide ((ji21) ≤ 3) = true := decide_eq_true c23
                      clear c23
                      obtain rfl := Option.some.inj H
                      have hcz24_0 : wc.cell? ⟨gb260, 0, none⟩ = some (.int .i64 a0_0) := (blk_cell BK260.out 0).trans rfl
                      have hcz24_1 : wc.cell? ⟨gb260, 1, none⟩ = some (.int .i64 a0_1) := (blk_cell BK260.out 1).trans rfl
                      have hcz24_2 : wc.cell? ⟨gb260, 2, none⟩ = some (.string a0_2) := (blk_cell BK260.out 2).trans rfl
                      have hcz24_3 : wc.cell? ⟨gb260, 3, none⟩ = some (.slice A0_3 l0_3.length c0_3) := (blk_cell BK260.out 3).trans rfl
                      have hcz24_4 : wc.cell? ⟨gb260, 4, none⟩ = some (.slice A0_4 l0_4.length c0_4) := (blk_cell BK260.out 4).trans rfl
                      have hfz24_0 := blk_frozen BK260.out 0
                      have hfz24_1 := blk_frozen BK260.out 1
                      have hfz24_2 := blk_frozen BK260.out 2
                      have hfz24_3 := blk_frozen BK260.out 3
                      have hfz24_4 := blk_frozen BK260.out 4
                      go_wp2
                      go_ret
                      exact ⟨by first | rfl | exact My.ret_isEmpty _ | (simp [errW_none, errW_some] <;> rfl) | (simp only [← hji20, ← hji21]; first | rfl | (simp [errW_none, errW_some] <;> rfl)) | (simp [*, errW_none, errW_some] <;> rfl), by repeat (first | (with_reducible first | exact HB.out | apply below_alloc | apply pw_below_drewN | apply below_drew1 | refine below_set ?_ GE260.out) | exact HB.out)⟩
                    · rw [if_neg c23] at H
                      exact absurd H (by simp)
                  · rw [if_neg c22] at H
                    exact absurd H (by simp)
                · rw [if_neg c19] at H
                  have c19b0 : (a0_0 == 13) = false := beq_eq_false_iff_ne.mpr c19
                  have c19b1 : (a0_0 != 13) = true := bne_iff_ne.mpr c19
                  by_cases c25 : a0_0 = 14
                  · rw [if_pos c25] at H
                    have c25b0 : (a0_0 == 14) = true := beq_iff_eq.mpr c25
                    have c25b1 : (a0_0 != 14) = false := bne_eq_false_iff_eq.mpr c25
                    clear c25
                    obtain rfl := Option.some.inj H
                    go_wp2
                    go_ret
                    exact ⟨by first | rfl | exact My.ret_isEmpty _ | (simp [errW_none, errW_some] <;> rfl) | (simp [*, errW_none, errW_some] <;> rfl), by repeat (first | (with_reducible first | exact HB.out | apply below_alloc | apply pw_below_drewN | apply below_drew1 | refine below_set ?_ GE260.out) | exact HB.out)⟩
                  · rw [if_neg c25] at H
                    have c25b0 : (a0_0 == 14) = false := beq_eq_false_iff_ne.mpr c25
                    have c25b1 : (a0_0 != 14) = true := bne_iff_ne.mpr c25
                    by_cases c26 : a0_0 = 17
                    · rw [if_pos c26] at H
                      have c26b0 : (a0_0 == 17) = true := beq_iff_eq.mpr c26
                      have c26b1 : (a0_0 != 17) = false := bne_eq_false_iff_eq.mpr c26
                      clear c26
                      obtain rfl := Option.some.inj H
                      go_wp2
                      go_ret
                      exact ⟨by first | rfl | exact My.ret_isEmpty _ | (simp [errW_none, errW_some] <;> rfl) | (simp [*, errW_none, errW_some] <;> rfl), by repeat (first | (with_reducible first | exact HB.out | apply below_alloc | apply pw_below_drewN | apply below_drew1 | refine below_set ?_ GE260.out) | exact HB.out)⟩
                    · rw [if_neg c26] at H
                      have c26b0 : (a0_0 == 17) = false := beq_eq_false_iff_ne.mpr c26
                      have c26b1 : (a0_0 != 17) = true := bne_iff_ne.mpr c26
                      by_cases c27 : a0_0 = 18
                      · rw [if_pos c27] at H
                        have c27b0 : (a0_0 == 18) = true := beq_iff_eq.mpr c27
                        have c27b1 : (a0_0 != 18) = false := bne_eq_false_iff_eq.mpr c27
                        clear c27
                        replace H := Option.bind_eq_some_iff.mp H
                        obtain ⟨t262, A280, H⟩ := H
                        replace H : (some t262) = some r := H
                        have A28 := Aside0.mk A280
                        clear A280
                        obtain rfl := Option.some.inj H
                        have hcz29_0 : wc.cell? ⟨gb260, 0, none⟩ = some (.int .i64 a0_0) := (blk_cell BK260.out 0).trans rfl
                        have hcz29_1 : wc.cell? ⟨gb260, 1, none⟩ = some (.int .i64 a0_1) := (blk_cell BK260.out 1).trans rfl
                        have hcz29_2 : wc.cell? ⟨gb260, 2, none⟩ = some (.string a0_2) := (blk_cell BK260.out 2).trans rfl
                        have hcz29_3 : wc.cell? ⟨gb260, 3, none⟩ = some (.slice A0_3 l0_3.length c0_3) := (blk_cell BK260.out 3).trans rfl
                        have hcz29_4 : wc.cell? ⟨gb260, 4, none⟩ = some (.slice A0_4 l0_4.length c0_4) := (blk_cell BK260.out 4).trans rfl
                        have hfz29_0 := blk_frozen BK260.out 0
                        have hfz29_1 := blk_frozen BK260.out 1
                        have hfz29_2 := blk_frozen BK260.out 2
                        have hfz29_3 := blk_frozen BK260.out 3
                        have hfz29_4 := blk_frozen BK260.out 4
                        go_wp2_with (first | ((with_reducible refine gate_callee (f := 78) rfl ?_); refine goesL_ (some 39) rfl rfl Try.func78 (by kernel_rfl) rfl #[.string (⟨#[115]⟩ : ByteArray), .int .i64 (l0_4.length : Int)] rfl (by (try simp only [List.map_toArray, List.map_cons, List.map_nil]); first | done | rfl | (simp only [List.length_drop, List.length_take]; rfl)) ?_; (with_reducible refine (strings_Repeat.calls (⟨#[115]⟩ : ByteArray) (l0_4.length : Int) t262 _ A28.out).mono ?_); rintro e w30 ⟨rfl, hb⟩; refine ⟨_, rfl, ?_⟩; have n0_ := Aside0.mk (blk_below (g := gb260) (o := .cells #[.int .i64 a0_0, .int .i64 a0_1, .string a0_2, .slice A0_3 l0_3.length c0_3, .slice A0_4 l0_4.length c0_4] 52 (0, 0)) (by (with_reducible repeat (first | refine blk_drewN ?_ _ | refine blk_drew ?_ | refine blk_alloc ?_ _)); exact BK260.out) hb); have n1_ := Aside0.mk (below_step (by repeat (first | (with_reducible first | exact HB.out | apply below_alloc | apply pw_below_drewN | apply below_drew1 | refine below_set ?_ GE260.out) | exact HB.out)) hb); clear BK260; clear HB; have BK260 := n0_; have HB := n1_; clear n0_ n1_; (try clear hb); (try clear hb2); (try clear hk); (try clear hi)))
                        go_ret
                        exact ⟨by first | rfl | exact My.ret_isEmpty _ | (simp [errW_none, errW_some] <;> rfl) | (simp [*, errW_none, errW_some] <;> rfl), by repeat (first | (with_reducible first | exact HB.out | apply below_alloc | apply pw_below_drewN | apply below_drew1 | refine below_set ?_ GE260.out) | exact HB.out)⟩
                      · rw [if_neg c27] at H
                        have c27b0 : (a0_0 == 18) = false := beq_eq_false_iff_ne.mpr c27
                        have c27b1 : (a0_0 != 18) = true := bne_iff_ne.mpr c27
                        by_cases c31 : a0_0 = 20
                        · rw [if_pos c31] at H
                          have c31b0 : (a0_0 == 20) = true := beq_iff_eq.mpr c31
                          have c31b1 : (a0_0 != 20) = false := bne_eq_false_iff_eq.mpr c31
                          clear c31
                          obtain rfl := Option.some.inj H
                          go_wp2
                          go_ret
                          exact ⟨by first | rfl | exact My.ret_isEmpty _ | (simp [errW_none, errW_some] <;> rfl) | (simp [*, errW_none, errW_some] <;> rfl), by repeat (first | (with_reducible first | exact HB.out | apply below_alloc | apply pw_below_drewN | apply below_drew1 | refine below_set ?_ GE260.out) | exact HB.out)⟩
                        · rw [if_neg c31] at H
                          have c31b0 : (a0_0 == 20) = false := beq_eq_false_iff_ne.mpr c31
                          have c31b1 : (a0_0 != 20) = true := bne_iff_ne.mpr c31
                          obtain rfl := Option.some.inj H
                          go_wp2
                          go_ret
                          exact ⟨by first | rfl | exact My.ret_isEmpty _ | (simp [errW_none, errW_some] <;> rfl) | (simp [*, errW_none, errW_some] <;> rfl), by repeat (first | (with_reducible first | exact HB.out | apply below_alloc | apply pw_below_drewN | apply below_drew1 | refine below_set ?_ GE260.out) | exact HB.out)⟩

/-! ### impl_isExpression: function 79 -/
def impl_isExpression.f (a0 : Int) : Option (Bool) := (impl_within.f a0 1 10).bind fun t263 => (some t263)
set_option maxHeartbeats 8000000 in
set_option maxRecDepth 100000 in
theorem impl_isExpression.calls (a0 : Int) (r : Bool) (w : World) (h : impl_isExpression.f a0 = some r) :
    Calls Try.prog 79 #[.int .i64 a0] w fun e w' => e = .returned (.bool r) ∧ Drawn0 w w' := by
  have H : ((impl_within.f a0 1 10).bind fun t263 => (some t263)) = some r := h
  clear h
  replace H := Option.bind_eq_some_iff.mp H
  obtain ⟨t263, A20, H⟩ := H
  replace H : (some t263) = some r := H
  have A2 := Aside0.mk A20
  clear A20
  obtain rfl := Option.some.inj H
  go_enter Try.func79, Try.ntmps79
  go_wp2_with (first | ((with_reducible refine gate_callee (f := 34) rfl ?_); refine goesL_ (some 4) rfl rfl Try.func34 (by kernel_rfl) rfl #[.int .i64 a0, .int .i64 1, .int .i64 10] rfl (by (try simp only [List.map_toArray, List.map_cons, List.map_nil]); first | done | rfl | (simp only [List.length_drop, List.length_take]; rfl)) ?_; (with_reducible refine (impl_within.calls a0 1 10 t263 _ A2.out).mono ?_); rintro e w' ⟨rfl, ⟨nd, rfl⟩⟩; refine ⟨_, rfl, ?_⟩))
  go_ret
  exact ⟨by first | rfl | (simp; done) | (simp [*]; done), by repeat (first | exact Drawn0.refl _ | apply Drawn0.step)⟩

end Go.Proofs.Ytngcheicabbpoaa.QFnExactFuncsOf
