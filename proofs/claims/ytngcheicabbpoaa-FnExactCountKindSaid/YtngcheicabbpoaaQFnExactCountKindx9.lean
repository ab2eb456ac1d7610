/- Functions that the law uses, as Lean functions with the same answers, and the walks that show it: by this session's program, after the form of the kit's print. No condition. -/
import Derived.Test.YtngcheicabbpoaaQFnExactCountKindx0
import Derived.Test.YtngcheicabbpoaaQFnExactCountKindx7
import Derived.Test.YtngcheicabbpoaaQFnExactCountKindx8
namespace Go.Proofs.Ytngcheicabbpoaa.QFnExactCountKind
open Go.RowKit Go.Proofs.YtngcheicabbpoaaW.PrintWords Go.Proofs.YtngcheicabbpoaaW.PrintLast Go.Proofs.YtngcheicabbpoaaW.PrintMore
attribute [local go_sem] max2_int min2_int max_two min_two max_three min_three max_four min_four   -- for this text's walks alone
open Go.Proofs.Ytngcheicabbpoaa
attribute [local go_sem high] My.binOp_gtr_flip
set_option linter.unusedVariables false
set_option linter.unusedSimpArgs false

/-! ### impl_WordOK: function 89 -/
def impl_WordOK.f (k : Nat) (a0 : ByteArray) : Option (Bool) := (impl_sourceWords.f).bind fun t241 => ((slices_Contains_string_string.f k t241 a0).bind fun t244 => (some t244))
theorem impl_WordOK.mono : ∀ a0 k, LeO (impl_WordOK.f k a0) (impl_WordOK.f (k + 1) a0) := by
  intro a0 k
  unfold impl_WordOK.f
  repeat' first
      | (with_reducible exact slices_Contains_string_string.mono _ _ _)
      | (with_reducible exact LeO.refl _)
      | (with_reducible exact LeO.none _)
      | (with_reducible refine LeO.ite ?_ ?_)
      | (with_reducible refine LeO.bind ?_ (fun _ => ?_))
      | exact slices_Contains_string_string.mono _ _ _
      | exact LeO.none _
      | refine LeO.ite ?_ ?_
      | refine LeO.bind ?_ (fun _ => ?_)
set_option maxHeartbeats 8000000 in
set_option maxRecDepth 100000 in
theorem impl_WordOK.calls (k : Nat) (a0 : ByteArray) (r : Bool) (w : World) (h : impl_WordOK.f k a0 = some r) :
    Calls Try.prog 89 #[.string a0] w fun e w' => e = .returned (.bool r) ∧ Below w.heap.size w w' := by
  have HB := Aside0.mk (Below.refl w.heap.size w)
  have H : ((impl_sourceWords.f).bind fun t241 => ((slices_Contains_string_string.f k t241 a0).bind fun t244 => (some t244))) = some r := h
  clear h
  replace H := Option.bind_eq_some_iff.mp H
  obtain ⟨t241, A20, H⟩ := H
  replace H : ((slices_Contains_string_string.f k t241 a0).bind fun t244 => (some t244)) = some r := H
  have A2 := Aside0.mk A20
  clear A20
  replace H := Option.bind_eq_some_iff.mp H
  obtain ⟨t244, A30, H⟩ := H
  replace H : (some t244) = some r := H
  have A3 := Aside0.mk A30
  clear A30
  obtain rfl := Option.some.inj H
  go_enter Try.func89, Try.ntmps89
  go_wp2_with (first | ((with_reducible refine gate_callee (f := 104) rfl ?_); refine goesL_ (some 3) rfl rfl Try.func104 (by kernel_rfl) rfl #[] rfl (by (try simp only [List.map_toArray, List.map_cons, List.map_nil]); first | done | rfl | (simp only [List.length_drop, List.length_take]; rfl)) ?_; (with_reducible refine (impl_sourceWords.calls  t241 _ A2.out).mono ?_); rintro e w4 ⟨v242, rfl, ho0, hb⟩; refine ⟨_, rfl, ?_⟩; have n0_ := Aside0.mk (Kd.R_lower ho0 (below_size (by repeat (first | (with_reducible first | exact HB.out | apply below_alloc | apply pw_below_drewN | apply below_drew1) | exact HB.out)))); have n1_ := Aside0.mk (below_step (by repeat (first | (with_reducible first | exact HB.out | apply below_alloc | apply pw_below_drewN | apply below_drew1) | exact HB.out)) hb); clear HB; have HO243 := n0_; have HB := n1_; clear n0_ n1_; (try clear hb); (try clear hb2); (try clear hk); (try clear hi); (try clear ho0); obtain ⟨Ao5, co5, eo5⟩ := Kd.R_slice HO243.out; subst eo5) | ((with_reducible refine gate_callee (f := 87) rfl ?_); refine goesL_ (some 5) rfl rfl Try.func87 (by kernel_rfl) rfl #[.slice Ao5 t241.length co5, .string a0] rfl (by (try simp only [List.map_toArray, List.map_cons, List.map_nil]); first | done | rfl | (simp only [List.length_drop, List.length_take]; rfl)) ?_; (with_reducible refine (slices_Contains_string_string.calls k _ _ t241 a0 t244 _ ?side1 ?side2 A3.out).mono ?_); (case side1 => repeat (first | exact (Kd.R_reads' HO243.out).2.2 | (with_reducible refine Kd.C_alloc ?_ _) | (with_reducible refine Kd.C_drewN ?_ _) | (with_reducible refine Kd.C_drew ?_))); (case side2 => exact (Kd.R_reads' HO243.out).2.1); rintro e w' ⟨rfl, ⟨nd, rfl⟩⟩; refine ⟨_, rfl, ?_⟩))
  go_ret
  exact ⟨by first | rfl | exact My.ret_isEmpty _ | (simp [errW_none, errW_some] <;> rfl) | (simp [*, errW_none, errW_some] <;> rfl), by repeat (first | (with_reducible first | exact HB.out | apply below_alloc | apply pw_below_drewN | apply below_drew1) | exact HB.out)⟩

/-! ### impl_identOK: function 75 -/
def impl_identOK.f (k : Nat) (a0 : ByteArray) : Option (Bool) := (impl_NameOK.f k a0).bind fun t245 => (if t245 = true then (if (a0.size : Int) ≤ 20 then ((impl_WordOK.f k a0).bind fun t246 => (some (!t246))) else (some false)) else (some false))
theorem impl_identOK.mono : ∀ a0 k, LeO (impl_identOK.f k a0) (impl_identOK.f (k + 1) a0) := by
  intro a0 k
  unfold impl_identOK.f
  repeat' first
      | (with_reducible exact impl_NameOK.mono _ _)
      | (with_reducible exact impl_WordOK.mono _ _)
      | (with_reducible exact LeO.refl _)
      | (with_reducible exact LeO.none _)
      | (with_reducible refine LeO.ite ?_ ?_)
      | (with_reducible refine LeO.bind ?_ (fun _ => ?_))
      | exact impl_NameOK.mono _ _
      | exact impl_WordOK.mono _ _
      | exact LeO.none _
      | refine LeO.ite ?_ ?_
      | refine LeO.bind ?_ (fun _ => ?_)
set_option maxHeartbeats 8000000 in
set_option maxRecDepth 100000 in
theorem impl_identOK.calls (k : Nat) (a0 : ByteArray) (r : Bool) (w : World) (h : impl_identOK.f k a0 = some r) :
    Calls Try.prog 75 #[.string a0] w fun e w' => e = .returned (.bool r) ∧ Below w.heap.size w w' := by
  have HB := Aside0.mk (Below.refl w.heap.size w)
  have H : ((impl_NameOK.f k a0).bind fun t245 => (if t245 = true then (if (a0.size : Int) ≤ 20 then ((impl_WordOK.f k a0).bind fun t246 => (some (!t246))) else (some false)) else (some false))) = some r := h
  clear h
  replace H := Option.bind_eq_some_iff.mp H
  obtain ⟨t245, A20, H⟩ := H
  replace H : (if t245 = true then (if (a0.size : Int) ≤ 20 then ((impl_WordOK.f k a0).bind fun t246 => (some (!t246))) else (some false)) else (some false)) = some r := H
  have A2 := Aside0.mk A20
  clear A20
  by_cases c3 : t245 = true
  · subst c3
    have H1 : (if (a0.size : Int) ≤ 20 then ((impl_WordOK.f k a0).bind fun t246 => (some (!t246))) else (some false)) = some r := by rw [if_pos rfl] at H; exact H
    clear H
    have H := H1
    clear H1
    by_cases c4 : (a0.size : Int) ≤ 20
    · rw [if_pos c4] at H
      have c4b0 : decide ((a0.size : Int) ≤ 20) = true := decide_eq_true c4
      have c4b1 : decide (a0.size ≤ 20) = true := decide_eq_true (by omega)
      clear c4
      replace H := Option.bind_eq_some_iff.mp H
      obtain ⟨t246, A50, H⟩ := H
      replace H : (some (!t246)) = some r := H
      have A5 := Aside0.mk A50
      clear A50
      obtain rfl := Option.some.inj H
      go_enter Try.func75, Try.ntmps75
      go_wp2_with (first | ((with_reducible refine gate_callee (f := 88) rfl ?_); refine goesL_ (some 4) rfl rfl Try.func88 (by kernel_rfl) rfl #[.string a0] rfl (by (try simp only [List.map_toArray, List.map_cons, List.map_nil]); first | done | rfl | (simp only [List.length_drop, List.length_take]; rfl)) ?_; (with_reducible refine (impl_NameOK.calls k a0 true _ A2.out).mono ?_); rintro e w' ⟨rfl, ⟨nd, rfl⟩⟩; refine ⟨_, rfl, ?_⟩) | (go_at_call 89; (with_reducible refine (impl_WordOK.calls k a0 t246 _ A5.out).mono ?_); rintro e w6 ⟨rfl, hb⟩; have n0_ := Aside0.mk (below_step (by repeat (first | (with_reducible first | exact HB.out | apply below_alloc | apply pw_below_drewN | apply below_drew1) | exact HB.out)) hb); clear HB; have HB := n0_; clear n0_; (try clear hb); (try clear hb2); (try clear hk); (try clear hi)))
      go_ret
      exact ⟨by first | rfl | exact My.ret_isEmpty _ | (simp [errW_none, errW_some] <;> rfl) | (simp [*, errW_none, errW_some] <;> rfl), by repeat (first | (with_reducible first | exact HB.out | apply below_alloc | apply pw_below_drewN | apply below_drew1) | exact HB.out)⟩
    · rw [if_neg c4] at H
      have c4b0 : decide ((a0.size : Int) ≤ 20) = false := decide_eq_false c4
      have c4b1 : decide (a0.size ≤ 20) = false := decide_eq_false (by omega)
      clear c4
      obtain rfl := Option.some.inj H
      go_enter Try.func75, Try.ntmps75
      go_wp2_with (first | ((with_reducible refine gate_callee (f := 88) rfl ?_); refine goesL_ (some 4) rfl rfl Try.func88 (by kernel_rfl) rfl #[.string a0] rfl (by (try simp only [List.map_toArray, List.map_cons, List.map_nil]); first | done | rfl | (simp only [List.length_drop, List.length_take]; rfl)) ?_; (with_reducible refine (impl_NameOK.calls k a0 true _ A2.out).mono ?_); rintro e w' ⟨rfl, ⟨nd, rfl⟩⟩; refine ⟨_, rfl, ?_⟩))
      go_ret
      exact ⟨by first | rfl | exact My.ret_isEmpty _ | (simp [errW_none, errW_some] <;> rfl) | (simp [*, errW_none, errW_some] <;> rfl), by repeat (first | (with_reducible first | exact HB.out | apply below_alloc | apply pw_below_drewN | apply below_drew1) | exact HB.out)⟩
  · replace c3 := Bool.eq_false_iff.mpr c3
    subst c3
    have H1 : (some false) = some r := by rw [if_neg (show ¬ (false = true) by decide)] at H; exact H
    clear H
    have H := H1
    clear H1
    obtain rfl := Option.some.inj H
    go_enter Try.func75, Try.ntmps75
    go_wp2_with (first | ((with_reducible refine gate_callee (f := 88) rfl ?_); refine goesL_ (some 4) rfl rfl Try.func88 (by kernel_rfl) rfl #[.string a0] rfl (by (try simp only [List.map_toArray, List.map_cons, List.map_nil]); first | done | rfl | (simp only [List.length_drop, List.length_take]; rfl)) ?_; (with_reducible refine (impl_NameOK.calls k a0 false _ A2.out).mono ?_); rintro e w' ⟨rfl, ⟨nd, rfl⟩⟩; refine ⟨_, rfl, ?_⟩))
    go_ret
    exact ⟨by first | rfl | exact My.ret_isEmpty _ | (simp [errW_none, errW_some] <;> rfl) | (simp [*, errW_none, errW_some] <;> rfl), by repeat (first | (with_reducible first | exact HB.out | apply below_alloc | apply pw_below_drewN | apply below_drew1) | exact HB.out)⟩

/-! ### slices_IndexFunc_string_string: function 90 -/
/-- The first place from a place on whose element meets a predicate, or -1. -/
def slices_IndexFunc_string_string.from (p : ByteArray → Bool) (l : List ByteArray) : Nat → Int → Int
  | 0, _ => -1
  | d + 1, x => if p (rdOf ByteArray.empty l x) = true then x else slices_IndexFunc_string_string.from p l d (x + 1)
set_option maxHeartbeats 2000000 in
set_option maxRecDepth 100000 in
theorem slices_IndexFunc_string_string.go (p : ByteArray → Bool) (g : Nat) (A0 : Option Addr) (c0 : Nat) (l0 : List ByteArray) (w : World) (hr0 : Kd.C Kd.string w A0 l0.length l0) (hc0 : l0.length ≤ c0) (hl : l0.length ≤ 4611686018427387904)
    (hp : ∀ (x : ByteArray) (W : World), x ∈ l0 → Below w.heap.size w W → Calls Try.prog g #[.string x] W fun e w' => e = .returned (.bool (p x)) ∧ Below w.heap.size w w')
    (eg : ∀ args w, (callFunc g args).run Try.prog w = .ok (.enter g args) w) :
    Calls Try.prog 90 #[.slice A0 l0.length c0, .func (.func g) #[] #[]] w fun e w' => e = .returned (.int .i64 (slices_IndexFunc_string_string.from p l0 l0.length 0)) ∧ Below w.heap.size w w' := by
  have HR0 := Aside0.mk hr0
  have HC0 := Aside0.mk hc0
  have HP := Aside0.mk hp
  clear hr0 hc0 hp
  go_enter Try.func90, Try.ntmps90
  go_wp2
  go_loopw [5, 8] (fun _ i wr => ∃ x : Int, 0 ≤ x ∧ x ≤ l0.length ∧ i = .int .i64 x ∧ Aside0 (slices_IndexFunc_string_string.from p l0 l0.length 0 = slices_IndexFunc_string_string.from p l0 (l0.length - x.toNat) x) ∧ Aside0 (Below w.heap.size w wr)) (fun _ i _ => l0.length - (intOf i).toNat)
  case atStart => exact ⟨0, Int.le_refl _, by omega, rfl, ⟨rfl⟩, ⟨Below.refl _ _⟩⟩
  case round =>
    obtain ⟨x, hx0, hx1, rfl, HA, HB⟩ := hrel
    by_cases hlt : x < (l0.length : Int)
    · obtain ⟨ad, e, ha⟩ := Kd.at_string HR0.out x hx0 hlt
      cases e
      replace ha := (HB.out.cell (World.block_lt_of_cell? w _ ha)).trans ha
      have hcall := fun W h => HP.out (rdOf ByteArray.empty l0 x) W (by
        have hx : x.toNat < l0.length := by omega
        unfold rdOf
        rw [List.getD_eq_getElem?_getD, List.getElem?_eq_getElem hx]
        exact List.getElem_mem hx) h
      have HR := Aside0.mk (show slices_IndexFunc_string_string.from p l0 (l0.length - x.toNat) x = if p (rdOf ByteArray.empty l0 x) = true then x else slices_IndexFunc_string_string.from p l0 (l0.length - (x + 1).toNat) (x + 1) by
        rw [show l0.length - x.toNat = (l0.length - (x + 1).toNat) + 1 by omega]
        rfl)
      have HW := Aside0.mk (show wrap64 (x + 1) = x + 1 by unfold wrap64; omega)
      have HX := Aside0.mk (And.intro hx0 (And.intro hx1 hlt))
      have b0 : decide (x < (l0.length : Int)) = true := decide_eq_true hlt
      have b1 := eq_true hx0
      have b2 := eq_true hlt
      clear hx0 hx1 hlt
      cases hq : p (rdOf ByteArray.empty l0 x) with
      | true =>
        rw [hq] at hcall
        have HQ := Aside0.mk hq
        clear hq
        go_wp2_with (go_at_fn g; refine (hcall _ HB.out).mono ?_; rintro e w' ⟨rfl, hb2⟩)
        go_ret
        refine ⟨?_, hb2⟩
        rw [HA.out, HR.out, if_pos HQ.out]
        try rfl
      | false =>
        rw [hq] at hcall
        have HQ := Aside0.mk hq
        clear hq
        go_wp2_with (go_at_fn g; refine (hcall _ HB.out).mono ?_; rintro e w' ⟨rfl, hb2⟩)
        go_roundw
        case rel => exact ⟨x + 1, by have := HX.out; omega, by have := HX.out; omega, by rw [HW.out], ⟨by rw [HA.out, HR.out, if_neg (by rw [HQ.out]; decide)]⟩, ⟨hb2⟩⟩
        case measure => have := HX.out; rw [HW.out]; simp only [intOf]; omega
    · have HX := Aside0.mk hlt
      have b0 : decide (x < (l0.length : Int)) = false := decide_eq_false hlt
      clear hlt
      go_wp2
      go_ret
      refine ⟨?_, HB.out⟩
      rw [HA.out, show l0.length - x.toNat = 0 by have := HX.out; omega]
      rfl

/-! ### slices_ContainsFunc_string_string: function 76 -/
set_option maxHeartbeats 2000000 in
set_option maxRecDepth 100000 in
theorem slices_ContainsFunc_string_string.go (p : ByteArray → Bool) (g : Nat) (A0 : Option Addr) (c0 : Nat) (l0 : List ByteArray) (w : World) (hr0 : Kd.C Kd.string w A0 l0.length l0) (hc0 : l0.length ≤ c0) (hl : l0.length ≤ 4611686018427387904)
    (hp : ∀ (x : ByteArray) (W : World), x ∈ l0 → Below w.heap.size w W → Calls Try.prog g #[.string x] W fun e w' => e = .returned (.bool (p x)) ∧ Below w.heap.size w w')
    (eg : ∀ args w, (callFunc g args).run Try.prog w = .ok (.enter g args) w) :
    Calls Try.prog 76 #[.slice A0 l0.length c0, .func (.func g) #[] #[]] w fun e w' => e = .returned (.bool (decide (0 ≤ slices_IndexFunc_string_string.from p l0 l0.length 0))) ∧ Below w.heap.size w w' := by
  have hcall := slices_IndexFunc_string_string.go p g A0 c0 l0 w hr0 hc0 hl hp eg
  clear hr0 hc0 hp hl
  go_enter Try.func76, Try.ntmps76
  go_wp2_with (go_at_fn 90)
  refine hcall.mono ?_
  rintro e w' ⟨rfl, hb⟩
  go_wp2
  go_ret
  exact ⟨rfl, hb⟩

/-! ### impl_Node_fieldsOK_1: function 77 -/
def impl_Node_fieldsOK_1.f (k : Nat) (a0 : ByteArray) : Option (Bool) := (impl_identOK.f k a0).bind fun t247 => (some (!t247))
theorem impl_Node_fieldsOK_1.mono : ∀ a0 k, LeO (impl_Node_fieldsOK_1.f k a0) (impl_Node_fieldsOK_1.f (k + 1) a0) := by
  intro a0 k
  unfold impl_Node_fieldsOK_1.f
  repeat' first
      | (with_reducible exact impl_identOK.mono _ _)
      | (with_reducible exact LeO.refl _)
      | (with_reducible exact LeO.none _)
      | (with_reducible refine LeO.ite ?_ ?_)
      | (with_reducible refine LeO.bind ?_ (fun _ => ?_))
      | exact impl_identOK.mono _ _
      | exact LeO.none _
      | refine LeO.ite ?_ ?_
      | refine LeO.bind ?_ (fun _ => ?_)
set_option maxHeartbeats 8000000 in
set_option maxRecDepth 100000 in
theorem impl_Node_fieldsOK_1.calls (k : Nat) (a0 : ByteArray) (r : Bool) (w : World) (h : impl_Node_fieldsOK_1.f k a0 = some r) :
    Calls Try.prog 77 #[.string a0] w fun e w' => e = .returned (.bool r) ∧ Below w.heap.size w w' := by
  have HB := Aside0.mk (Below.refl w.heap.size w)
  have H : ((impl_identOK.f k a0).bind fun t247 => (some (!t247))) = some r := h
  clear h
  replace H := Option.bind_eq_some_iff.mp H
  obtain ⟨t247, A20, H⟩ := H
  replace H : (some (!t247)) = some r := H
  have A2 := Aside0.mk A20
  clear A20
  obtain rfl := Option.some.inj H
  go_enter Try.func77, Try.ntmps77
  go_wp2_with (first | ((with_reducible refine gate_callee (f := 75) rfl ?_); refine goesL_ (some 4) rfl rfl Try.func75 (by kernel_rfl) rfl #[.string a0] rfl (by (try simp only [List.map_toArray, List.map_cons, List.map_nil]); first | done | rfl | (simp only [List.length_drop, List.length_take]; rfl)) ?_; (with_reducible refine (impl_identOK.calls k a0 t247 _ A2.out).mono ?_); rintro e w3 ⟨rfl, hb⟩; refine ⟨_, rfl, ?_⟩; have n0_ := Aside0.mk (below_step (by repeat (first | (with_reducible first | exact HB.out | apply below_alloc | apply pw_below_drewN | apply below_drew1) | exact HB.out)) hb); clear HB; have HB := n0_; clear n0_; (try clear hb); (try clear hb2); (try clear hk); (try clear hi)))
  go_ret
  exact ⟨by first | rfl | exact My.ret_isEmpty _ | (simp [errW_none, errW_some] <;> rfl) | (simp [*, errW_none, errW_some] <;> rfl), by repeat (first | (with_reducible first | exact HB.out | apply below_alloc | apply pw_below_drewN | apply below_drew1) | exact HB.out)⟩

/-! ### impl_Node_fieldsOK: function 53 -/

def impl_Node_fieldsOK.keptL (a0 : Int) (n : Nat) : Nat := if a0 = 20 then n else 0
theorem impl_Node_fieldsOK.keptV_slice (a0 : Int) (A : Option Addr) (n c : Nat) : ∃ A' c', impl_Node_plain.keptV a0 (.slice A n c) = .slice A' (impl_Node_fieldsOK.keptL a0 n) c' := by
  unfold impl_Node_plain.keptV impl_Node_fieldsOK.keptL
  split
  · exact ⟨A, c, rfl⟩
  · exact ⟨none, 0, rfl⟩
/-- Has a node what its kind has no use for. -/
def impl_Node_fieldsOK.bad (a0 a1 : Int) (a2 : ByteArray) (n : Nat) : Bool := (impl_Node_plain.keptN a0 a1 != a1) || ((impl_Node_plain.keptT a0 a2).toList != a2.toList) || ((impl_Node_fieldsOK.keptL a0 n : Int) != (n : Int))
def impl_Node_fieldsOK.names (k : Nat) (l : List ByteArray) : Option Bool := if l.length ≤ 4611686018427387904 ∧ ∀ x ∈ l, (impl_identOK.f k x).isSome = true then some (l.all fun x => impl_identOK.f k x == some true) else none
theorem impl_Node_fieldsOK.names_mono (l : List ByteArray) (k : Nat) : LeO (impl_Node_fieldsOK.names k l) (impl_Node_fieldsOK.names (k + 1) l) := by
  intro r h
  unfold impl_Node_fieldsOK.names at h ⊢
  by_cases hc : l.length ≤ 4611686018427387904 ∧ ∀ x ∈ l, (impl_identOK.f k x).isSome = true
  · rw [if_pos hc] at h
    have e : ∀ x ∈ l, impl_identOK.f (k + 1) x = impl_identOK.f k x := fun x hx => by
      obtain ⟨v, hv⟩ := Option.isSome_iff_exists.1 (hc.2 x hx)
      rw [hv, impl_identOK.mono x k v hv]
    rw [if_pos ⟨hc.1, fun x hx => by rw [e x hx]; exact hc.2 x hx⟩, ← h]
    congr 1
    rw [Bool.eq_iff_iff, List.all_eq_true, List.all_eq_true]
    exact ⟨fun h x hx => by rw [← e x hx]; exact h x hx, fun h x hx => by rw [e x hx]; exact h x hx⟩
  · rw [if_neg hc] at h
    cases h
def impl_Node_fieldsOK.f (k : Nat) (a0_0 a0_1 : Int) (a0_2 : ByteArray) (l0_3 : List ByteArray) (l0_4 : List Int) : Option Bool :=
  if impl_Node_fieldsOK.bad a0_0 a0_1 a0_2 l0_3.length = true then some false
  else if a0_0 = 1 then some (decide (0 ≤ a0_1) && decide (a0_1 ≤ 2147483647))
  else if a0_0 = 3 then some (decide (0 ≤ a0_1) && decide (a0_1 ≤ 1))
  else if a0_0 = 2 then impl_wordText.f a0_2
  else if a0_0 = 6 then impl_isUnary.f a0_2
  else if a0_0 = 7 then impl_isBinary.f k a0_2
  else if a0_0 = 5 ∨ a0_0 = 10 ∨ a0_0 = 11 ∨ a0_0 = 12 ∨ a0_0 = 17 then impl_identOK.f k a0_2
  else if a0_0 = 20 then (impl_identOK.f k a0_2).bind fun b => if b = true then impl_Node_fieldsOK.names k l0_3 else some false
  else some (decide (4 ≤ a0_0 ∧ a0_0 ≤ 19))
theorem impl_Node_fieldsOK.mono : ∀ a0_0 a0_1 a0_2 l0_3 l0_4 k, LeO (impl_Node_fieldsOK.f k a0_0 a0_1 a0_2 l0_3 l0_4) (impl_Node_fieldsOK.f (k + 1) a0_0 a0_1 a0_2 l0_3 l0_4) := by
  intro a0_0 a0_1 a0_2 l0_3 l0_4 k
  unfold impl_Node_fieldsOK.f
  refine LeO.ite (LeO.refl _) (LeO.ite (LeO.refl _) (LeO.ite (LeO.refl _) (LeO.ite (LeO.refl _) (LeO.ite (LeO.refl _) (LeO.ite (impl_isBinary.mono _ _) (LeO.ite (impl_identOK.mono _ _) (LeO.ite (LeO.bind (impl_identOK.mono _ _) (fun b => LeO.ite (impl_Node_fieldsOK.names_mono _ _) (LeO.refl _))) (LeO.refl _))))))))
/-- The first place from a place on that meets a predicate: is there one. -/
theorem impl_Node_fieldsOK.from_any (p : ByteArray → Bool) (l : List ByteArray) : ∀ d (x : Nat), x + d = l.length → decide (0 ≤ slices_IndexFunc_string_string.from p l d (x : Int)) = (l.drop x).any p
  | 0, x, h => by
    rw [List.drop_eq_nil_iff.2 (by omega)]
    rfl
  | d + 1, x, h => by
    have hx : x < l.length := by omega
    unfold slices_IndexFunc_string_string.from
    rw [List.drop_eq_getElem_cons hx, List.any_cons]
    have e : rdOf ByteArray.empty l (x : Int) = l[x] := by
      unfold rdOf
      rw [Int.toNat_natCast, List.getD_eq_getElem?_getD, List.getElem?_eq_getElem hx]
      rfl
    rw [e]
    cases hp : p l[x] with
    | true =>
      rw [if_pos rfl, Bool.true_or]
      exact decide_eq_true (by omega)
    | false =>
      rw [if_neg (by decide), Bool.false_or]
      exact impl_Node_fieldsOK.from_any p l d (x + 1) (by omega)
set_option maxHeartbeats 4000000 in
set_option maxRecDepth 100000 in
theorem impl_Node_fieldsOK.calls (k : Nat) (a0_0 a0_1 : Int) (a0_2 : ByteArray) (A0_3 : Option Addr) (c0_3 : Nat) (l0_3 : List ByteArray) (A0_4 : Option Addr) (c0_4 : Nat) (l0_4 : List Int) (r : Bool) (w : World) (hr0_3 : Kd.C Kd.string w A0_3 l0_3.length l0_3) (hc0_3 : l0_3.length ≤ c0_3) (hr0_4 : Kd.C (Kd.int .i64) w A0_4 l0_4.length l0_4) (hc0_4 : l0_4.length ≤ c0_4) (h : impl_Node_fieldsOK.f k a0_0 a0_1 a0_2 l0_3 l0_4 = some r) :
    Calls Try.prog 53 #[.agg #[.int .i64 a0_0, .int .i64 a0_1, .string a0_2, .slice A0_3 l0_3.length c0_3, .slice A0_4 l0_4.length c0_4]] w fun e w' => e = .returned (.bool r) ∧ Below w.heap.size w w' := by
  have huN := Try.underlying52
  obtain ⟨A', c', hv⟩ := impl_Node_fieldsOK.keptV_slice a0_0 A0_3 l0_3.length c0_3
  have hp := fun w => impl_Node_plain.at a0_0 a0_1 a0_2 A0_3 l0_3.length c0_3 A0_4 l0_4.length c0_4 w
  rw [hv] at hp
  have HR := Lib.hid hr0_3
  have HC := Lib.hid hc0_3
  have HF := Lib.hid h
  clear hv hr0_3 hc0_3 hr0_4 hc0_4 h
  go_enter Try.func53, Try.ntmps53
  go_upto_region 1 with fail
  go_cut [3] from 4 to 5 (fun s3 wx => ∃ g : Nat, s3 = .pointer (some ⟨g, 0, none⟩) ∧ wx.heap[g]? = some (.cells #[.int .i64 a0_0, .int .i64 (impl_Node_plain.keptN a0_0 a0_1), .string (impl_Node_plain.keptT a0_0 a0_2), .slice A' (impl_Node_fieldsOK.keptL a0_0 l0_3.length) c', .slice A0_4 l0_4.length c0_4] 52 (0, 0)) ∧ wx.heap[w.heap.size]? = some (.cells #[.int .i64 a0_0, .int .i64 a0_1, .string a0_2, .slice A0_3 l0_3.length c0_3, .slice A0_4 l0_4.length c0_4] 52 (0, 0)) ∧ Below w.heap.size w wx)
  case first =>
    go_wp2_with (go_at_fn 71)
    refine (hp _).mono ?_
    rintro e w' ⟨rfl, hb⟩
    have hbox := blk_below (blk_new w (.cells #[.int .i64 a0_0, .int .i64 a0_1, .string a0_2, .slice A0_3 l0_3.length c0_3, .slice A0_4 l0_4.length c0_4] 52 (0, 0))) hb
    have HBX := Lib.hid hbox
    have HB := Lib.hid ((below_alloc (Below.refl _ _) _).trans (hb.mono (Nat.le_of_lt (by simp))))
    clear hb hbox hp
    go_wp2_with fail
    go_meet
    case rel => exact ⟨_, rfl, blk_new _ _, blk_alloc HBX.out _, HB.out.alloc HB.out.size _⟩
  case rest =>
    clear hp
    obtain ⟨g, rfl, hp, hn, hb⟩ := hcut
    have p1 := blk_cell hp 1
    have p2 := blk_cell hp 2
    have p3 := blk_cell hp 3
    have n1 := blk_cell hn 1
    have n2 := blk_cell hn 2
    have n3' := blk_cell hn 3
    have HB := Lib.hid hb
    have HN := Lib.hid hn
    clear hb hp hn
    obtain ⟨kn, ekn⟩ : ∃ x, x = impl_Node_plain.keptN a0_0 a0_1 := ⟨_, rfl⟩
    obtain ⟨kt, ekt⟩ : ∃ x, x = impl_Node_plain.keptT a0_0 a0_2 := ⟨_, rfl⟩
    obtain ⟨kl, ekl⟩ : ∃ x, x = impl_Node_fieldsOK.keptL a0_0 l0_3.length := ⟨_, rfl⟩
    rw [← ekn] at p1
    rw [← ekt] at p2
    rw [← ekl] at p3
    have HE := Lib.hid (show ((kn != a0_1) || (kt.toList != a0_2.toList) || ((kl : Int) != (l0_3.length : Int))) = impl_Node_fieldsOK.bad a0_0 a0_1 a0_2 l0_3.length by rw [ekn, ekt, ekl]; rfl)
    clear ekn ekt ekl
    go_upto_region 2 with fail
    obtain ⟨bv, ebv⟩ : ∃ x, x = ((kn != a0_1) || (kt.toList != a0_2.toList) || ((kl : Int) != (l0_3.length : Int))) := ⟨_, rfl⟩
    have HV := Lib.hid ebv
    clear ebv
    go_cut [26] from 6 to 25 (fun s wx => s = .bool bv ∧ wx = wc)
    case first =>
      clear HF HB HN HE HR HC
      go_wp2_with fail
      all_goals go_meet
      all_goals
        case rel =>
          refine ⟨?_, rfl⟩
          rw [HV.out]
          clear HV
          simp_all
    case rest =>
      obtain ⟨rfl, rfl⟩ := hcut
      have hf := HF.out
      unfold impl_Node_fieldsOK.f at hf
      rw [← HE.out, ← HV.out] at hf
      clear HE HV HF
      clear p1 p2 p3
      cases bv with
      | true =>
        rw [if_pos rfl] at hf
        obtain rfl := Option.some.inj hf
        clear hf
        go_wp2_with fail
        go_ret
        exact ⟨rfl, HB.out⟩
      | false =>
        rw [if_neg (by decide)] at hf
        have n0 := blk_cell HN.out 0
        by_cases h1 : a0_0 = 1
        · subst h1
          rw [if_pos rfl] at hf
          obtain rfl := Option.some.inj hf
          have hc := (impl_within.calls a0_1 0 2147483647 (decide (0 ≤ a0_1) && decide (a0_1 ≤ 2147483647)) wc (by unfold impl_within.f; by_cases h : (0 : Int) ≤ a0_1 <;> simp [h])).mono fun e w' h => And.intro h.1 h.2.below
          clear hf
          go_wp2_with (go_at_call 34; (with_reducible refine hc.mono ?_); rintro e w' ⟨rfl, hb⟩; have HB2 := Lib.hid hb; clear hb)
          go_ret
          exact ⟨rfl, HB.out.trans (HB2.out.mono HB.out.size)⟩
        rw [if_neg h1] at hf
        by_cases h3 : a0_0 = 3
        · subst h3
          rw [if_pos rfl] at hf
          obtain rfl := Option.some.inj hf
          have hc := (impl_within.calls a0_1 0 1 (decide (0 ≤ a0_1) && decide (a0_1 ≤ 1)) wc (by unfold impl_within.f; by_cases h : (0 : Int) ≤ a0_1 <;> simp [h])).mono fun e w' h => And.intro h.1 h.2.below
          clear hf
          go_wp2_with (go_at_call 34; (with_reducible refine hc.mono ?_); rintro e w' ⟨rfl, hb⟩; have HB2 := Lib.hid hb; clear hb)
          go_ret
          exact ⟨rfl, HB.out.trans (HB2.out.mono HB.out.size)⟩
        rw [if_neg h3] at hf
        by_cases h2 : a0_0 = 2
        · subst h2
          rw [if_pos rfl] at hf
          have hc := impl_wordText.calls a0_2 r wc hf
          clear hf
          go_wp2_with (go_at_call 72; (with_reducible refine hc.mono ?_); rintro e w' ⟨rfl, hb⟩; have HB2 := Lib.hid hb; clear hb)
          go_ret
          exact ⟨rfl, HB.out.trans (HB2.out.mono HB.out.size)⟩
        rw [if_neg h2] at hf
        by_cases h6 : a0_0 = 6
        · subst h6
          rw [if_pos rfl] at hf
          have hc := (impl_isUnary.calls a0_2 r wc hf).mono fun e w' h => And.intro h.1 h.2.below
          clear hf
          go_wp2_with (go_at_call 73; (with_reducible refine hc.mono ?_); rintro e w' ⟨rfl, hb⟩; have HB2 := Lib.hid hb; clear hb)
          go_ret
          exact ⟨rfl, HB.out.trans (HB2.out.mono HB.out.size)⟩
        rw [if_neg h6] at hf
        by_cases h7 : a0_0 = 7
        · subst h7
          rw [if_pos rfl] at hf
          have hc := impl_isBinary.calls k a0_2 r wc hf
          clear hf
          go_wp2_with (go_at_call 74; (with_reducible refine hc.mono ?_); rintro e w' ⟨rfl, hb⟩; have HB2 := Lib.hid hb; clear hb)
          go_ret
          exact ⟨rfl, HB.out.trans (HB2.out.mono HB.out.size)⟩
        rw [if_neg h7] at hf
        by_cases h5 : a0_0 = 5
        · subst h5
          rw [if_pos (by decide)] at hf
          have hc := impl_identOK.calls k a0_2 r wc hf
          clear hf
          go_wp2_with (go_at_call 75; (with_reducible refine hc.mono ?_); rintro e w' ⟨rfl, hb⟩; have HB2 := Lib.hid hb; clear hb)
          go_ret
          exact ⟨rfl, HB.out.trans (HB2.out.mono HB.out.size)⟩
        by_cases h10 : a0_0 = 10
        · subst h10
          rw [if_pos (by decide)] at hf
          have hc := impl_identOK.calls k a0_2 r wc hf
          clear hf
          go_wp2_with (go_at_call 75; (with_reducible refine hc.mono ?_); rintro e w' ⟨rfl, hb⟩; have HB2 := Lib.hid hb; clear hb)
          go_ret
          exact ⟨rfl, HB.out.trans (HB2.out.mono HB.out.size)⟩
        by_cases h11 : a0_0 = 11
        · subst h11
          rw [if_pos (by decide)] at hf
          have hc := impl_identOK.calls k a0_2 r wc hf
          clear hf
          go_wp2_with (go_at_call 75; (with_reducible refine hc.mono ?_); rintro e w' ⟨rfl, hb⟩; have HB2 := Lib.hid hb; clear hb)
          go_ret
          exact ⟨rfl, HB.out.trans (HB2.out.mono HB.out.size)⟩
        by_cases h12 : a0_0 = 12
        · subst h12
          rw [if_pos (by decide)] at hf
          have hc := impl_identOK.calls k a0_2 r wc hf
          clear hf
          go_wp2_with (go_at_call 75; (with_reducible refine hc.mono ?_); rintro e w' ⟨rfl, hb⟩; have HB2 := Lib.hid hb; clear hb)
          go_ret
          exact ⟨rfl, HB.out.trans (HB2.out.mono HB.out.size)⟩
        by_cases h17 : a0_0 = 17
        · subst h17
          rw [if_pos (by decide)] at hf
          have hc := impl_identOK.calls k a0_2 r wc hf
          clear hf
          go_wp2_with (go_at_call 75; (with_reducible refine hc.mono ?_); rintro e w' ⟨rfl, hb⟩; have HB2 := Lib.hid hb; clear hb)
          go_ret
          exact ⟨rfl, HB.out.trans (HB2.out.mono HB.out.size)⟩
        rw [if_neg (by rintro (h | h | h | h | h) <;> contradiction)] at hf
        by_cases h20 : a0_0 = 20
        · subst h20
          rw [if_pos rfl] at hf
          obtain ⟨b, hb, hf⟩ := Option.bind_eq_some_iff.1 hf
          have hc := impl_identOK.calls k a0_2 b wc hb
          clear hb
          cases b with
          | false =>
            rw [if_neg (by decide)] at hf
            obtain rfl := Option.some.inj hf
            clear hf
            go_wp2_with (go_at_call 75; (with_reducible refine hc.mono ?_); rintro e w' ⟨rfl, hb⟩; have HB2 := Lib.hid hb; clear hb)
            go_ret
            exact ⟨rfl, HB.out.trans (HB2.out.mono HB.out.size)⟩
          | true =>
            rw [if_pos rfl] at hf
            unfold impl_Node_fieldsOK.names at hf
            by_cases hall : l0_3.length ≤ 4611686018427387904 ∧ ∀ x ∈ l0_3, (impl_identOK.f k x).isSome = true
            case neg => rw [if_neg hall] at hf; cases hf
            rw [if_pos hall] at hf
            obtain rfl := Option.some.inj hf
            obtain ⟨hlen, hall⟩ := hall
            have hcon : ∀ w', Below wc.heap.size wc w' → Calls Try.prog 76 #[.slice A0_3 l0_3.length c0_3, .func (.func 77) #[] #[]] w' fun e w'' => e = .returned (.bool (!(l0_3.all fun x => impl_identOK.f k x == some true))) ∧ Below w'.heap.size w' w'' := fun w' hb => by
              have hb0 := HB.out.trans (hb.mono HB.out.size)
              have h2 := slices_ContainsFunc_string_string.go (fun x => !(impl_identOK.f k x == some true)) 77 A0_3 c0_3 l0_3 w' (Kd.C_below HR.out hb0) HC.out hlen (fun x W hx hbW => by
                obtain ⟨v, hv⟩ := Option.isSome_iff_exists.1 (hall x hx)
                rw [hv]
                have := impl_Node_fieldsOK_1.calls k x (!v) W (by unfold impl_Node_fieldsOK_1.f; rw [hv]; rfl)
                refine this.mono fun e w2 h => ⟨?_, below_step hbW h.2⟩
                rw [h.1]
                cases v <;> rfl) (enters_of Try.func77 (by kernel_rfl) rfl)
              have e := impl_Node_fieldsOK.from_any (fun x => !(impl_identOK.f k x == some true)) l0_3 l0_3.length 0 (by omega)
              rw [List.drop_zero] at e
              rw [show ((0 : Nat) : Int) = 0 from rfl] at e
              rw [e] at h2
              have e2 : (l0_3.any fun x => !(impl_identOK.f k x == some true)) = !(l0_3.all fun x => impl_identOK.f k x == some true) := by rw [List.not_all_eq_any_not]
              rw [e2] at h2
              exact h2
            have hz : ∀ w', Below wc.heap.size wc w' → w'.cell? ⟨w.heap.size, 3, none⟩ = some (.slice A0_3 l0_3.length c0_3) := fun w' hb => blk_cell (blk_below HN.out hb) 3
            obtain ⟨v, hv⟩ : ∃ v, v = (l0_3.all fun x => impl_identOK.f k x == some true) := ⟨_, rfl⟩
            rw [← hv] at hcon
            have HV := Lib.hid hv
            clear hall hlen hf n3' hv
            go_wp2_with (first | (go_at_call 75; (with_reducible refine hc.mono ?_); rintro e w' ⟨rfl, hb⟩; have HB2 := Lib.hid hb; have hz' := hz _ hb; clear hb) | go_at_fn 76)
            refine (hcon _ HB2.out).mono ?_
            rintro e w'' ⟨rfl, hb⟩
            have HB3 := Lib.hid hb
            clear hb hcon hz hc
            go_wp2_with fail
            go_ret
            exact ⟨by rw [← HV.out]; cases v <;> rfl, (HB.out.trans (HB2.out.mono HB.out.size)).trans (HB3.out.mono (HB.out.trans (HB2.out.mono HB.out.size)).size)⟩
        rw [if_neg h20] at hf
        obtain rfl := Option.some.inj hf
        clear hf n1 n2 n3'
        have q1 : (a0_0 == 1) = false := beq_eq_false_iff_ne.mpr h1
        have q2 : (a0_0 == 2) = false := beq_eq_false_iff_ne.mpr h2
        have q3 : (a0_0 == 3) = false := beq_eq_false_iff_ne.mpr h3
        have q5 : (a0_0 == 5) = false := beq_eq_false_iff_ne.mpr h5
        have q6 : (a0_0 == 6) = false := beq_eq_false_iff_ne.mpr h6
        have q7 : (a0_0 == 7) = false := beq_eq_false_iff_ne.mpr h7
        have q10 : (a0_0 == 10) = false := beq_eq_false_iff_ne.mpr h10
        have q11 : (a0_0 == 11) = false := beq_eq_false_iff_ne.mpr h11
        have q12 : (a0_0 == 12) = false := beq_eq_false_iff_ne.mpr h12
        have q17 : (a0_0 == 17) = false := beq_eq_false_iff_ne.mpr h17
        have q20 : (a0_0 == 20) = false := beq_eq_false_iff_ne.mpr h20
        clear h1 h2 h3 h5 h6 h7 h10 h11 h12 h17 h20
        have hc := (impl_within.calls a0_0 4 18 (decide (4 ≤ a0_0 ∧ a0_0 ≤ 18)) wc (by unfold impl_within.f; by_cases h : (4 : Int) ≤ a0_0 <;> simp [h])).mono fun e w' h => And.intro h.1 h.2.below
        have hz : ∀ w', Below wc.heap.size wc w' → w'.cell? ⟨w.heap.size, 0, none⟩ = some (.int .i64 a0_0) := fun w' hb => blk_cell (blk_below HN.out hb) 0
        cases hq : decide (4 ≤ a0_0 ∧ a0_0 ≤ 18) with
        | true =>
          rw [hq] at hc
          have HQ := Lib.hid (show true = decide (4 ≤ a0_0 ∧ a0_0 ≤ 19) from (decide_eq_true (by have := of_decide_eq_true hq; omega)).symm)
          clear hq
          go_wp2_with (go_at_call 34; (with_reducible refine hc.mono ?_); rintro e w' ⟨rfl, hb⟩; have HB2 := Lib.hid hb; have hz' := hz _ hb; clear hb)
          go_ret
          exact ⟨by rw [← HQ.out]; rfl, HB.out.trans (HB2.out.mono HB.out.size)⟩
        | false =>
          rw [hq] at hc
          have HQ := Lib.hid (show (a0_0 == 19) = decide (4 ≤ a0_0 ∧ a0_0 ≤ 19) from by
            have := of_decide_eq_false hq
            rw [Bool.eq_iff_iff, beq_iff_eq, decide_eq_true_iff]
            omega)
          clear hq
          go_wp2_with (go_at_call 34; (with_reducible refine hc.mono ?_); rintro e w' ⟨rfl, hb⟩; have HB2 := Lib.hid hb; have hz' := hz _ hb; clear hb)
          go_ret
          exact ⟨by rw [← HQ.out]; rfl, HB.out.trans (HB2.out.mono HB.out.size)⟩

-- NOT PRINTED: function 105 (bits_Mul32)

-- NOT PRINTED: function 106 (bits_Mul64)

-- NOT PRINTED: function 91 (bits_Mul)

/-! ### stringslite_HasPrefix: function 107 -/
def stringslite_HasPrefix.f (a0 : ByteArray) (a1 : ByteArray) : Option (Bool) := if (a0.size : Int) ≥ (a1.size : Int) then (if 0 ≤ (a1.size : Int) then (if (a1.size : Int) ≤ (a0.size : Int) then (some ((a0.extract 0 ((a1.size : Int) : Int).toNat).toList == a1.toList)) else (none)) else (none)) else (some false)
set_option maxHeartbeats 8000000 in
set_option maxRecDepth 100000 in
theorem stringslite_HasPrefix.calls (a0 : ByteArray) (a1 : ByteArray) (r : Bool) (w : World) (h : stringslite_HasPrefix.f a0 a1 = some r) :
    Calls Try.prog 107 #[.string a0, .string a1] w fun e w' => e = .returned (.bool r) ∧ Drawn0 w w' := by
  have H : (if (a0.size : Int) ≥ (a1.size : Int) then (if 0 ≤ (a1.size : Int) then (if (a1.size : Int) ≤ (a0.size : Int) then (some ((a0.extract 0 ((a1.size : Int) : Int).toNat).toList == a1.toList)) else (none)) else (none)) else (some false)) = some r := h
  clear h
  by_cases c3 : (a0.size : Int) ≥ (a1.size : Int)
  · rw [if_pos c3] at H
    have c3b0 : decide ((a1.size : Int) ≤ (a0.size : Int)) = true := decide_eq_true c3
    have c3b1 : decide (a1.size ≤ a0.size) = true := decide_eq_true (Int.ofNat_le.mp c3)
    clear c3
    by_cases c4 : 0 ≤ (a1.size : Int)
    · rw [if_pos c4] at H
      have c4b0 := eq_true c4
      have c4b1 : decide (0 ≤ (a1.size : Int)) = true := decide_eq_true c4
      clear c4
      by_cases c5 : (a1.size : Int) ≤ (a0.size : Int)
      · rw [if_pos c5] at H
        have c5b0 := eq_true c5
        have c5b1 : decide ((a1.size : Int) ≤ (a0.size : Int)) = true := decide_eq_true c5
        clear c5
        obtain rfl := Option.some.inj H
        go_enter Try.func107, Try.ntmps107
        go_wp2
        go_ret
        exact ⟨by first | rfl | (simp; done) | (simp [*]; done), by repeat (first | exact Drawn0.refl _ | apply Drawn0.step)⟩
      · rw [if_neg c5] at H
        exact absurd H (by simp)
    · rw [if_neg c4] at H
      exact absurd H (by simp)
  · rw [if_neg c3] at H
    have c3b0 : decide ((a1.size : Int) ≤ (a0.size : Int)) = false := decide_eq_false c3
    have c3b1 : decide (a1.size ≤ a0.size) = false := decide_eq_false (fun h => c3 (Int.ofNat_le.mpr h))
    clear c3
    obtain rfl := Option.some.inj H
    go_enter Try.func107, Try.ntmps107
    go_wp2
    go_ret
    exact ⟨by first | rfl | (simp; done) | (simp [*]; done), by repeat (first | exact Drawn0.refl _ | apply Drawn0.step)⟩

/-! ### strings_HasPrefix: function 92 -/
def strings_HasPrefix.f (a0 : ByteArray) (a1 : ByteArray) : Option (Bool) := (stringslite_HasPrefix.f a0 a1).bind fun t248 => (some t248)
set_option maxHeartbeats 8000000 in
set_option maxRecDepth 100000 in
theorem strings_HasPrefix.calls (a0 : ByteArray) (a1 : ByteArray) (r : Bool) (w : World) (h : strings_HasPrefix.f a0 a1 = some r) :
    Calls Try.prog 92 #[.string a0, .string a1] w fun e w' => e = .returned (.bool r) ∧ Drawn0 w w' := by
  have H : ((stringslite_HasPrefix.f a0 a1).bind fun t248 => (some t248)) = some r := h
  clear h
  replace H := Option.bind_eq_some_iff.mp H
  obtain ⟨t248, A30, H⟩ := H
  replace H : (some t248) = some r := H
  have A3 := Aside0.mk A30
  clear A30
  obtain rfl := Option.some.inj H
  go_enter Try.func92, Try.ntmps92
  go_wp2_with (first | ((with_reducible refine gate_callee (f := 107) rfl ?_); refine goesL_ (some 7) rfl rfl Try.func107 (by kernel_rfl) rfl #[.string a0, .string a1] rfl (by (try simp only [List.map_toArray, List.map_cons, List.map_nil]); first | done | rfl | (simp only [List.length_drop, List.length_take]; rfl)) ?_; (with_reducible refine (stringslite_HasPrefix.calls a0 a1 t248 _ A3.out).mono ?_); rintro e w' ⟨rfl, ⟨nd, rfl⟩⟩; refine ⟨_, rfl, ?_⟩))
  go_ret
  exact ⟨by first | rfl | (simp; done) | (simp [*]; done), by repeat (first | exact Drawn0.refl _ | apply Drawn0.step)⟩

-- NOT PRINTED: function 112 (abi_NoEscape)

-- NOT PRINTED: function 108 (strings_Builder_copyCheck)

-- NOT PRINTED: function 113 (bytealg_MakeNoZero)

-- NOT PRINTED: function 109 (strings_Builder_grow)

-- NOT PRINTED: function 93 (strings_Builder_Grow)

-- NOT PRINTED: function 94 (strings_Builder_WriteString)

-- NOT PRINTED: function 95 (strings_Builder_Len)

-- NOT PRINTED: function 96 (strings_Builder_String)

/-! ### strings_Repeat: function 78 -/
def strings_Repeat.f (a0 : ByteArray) (a1 : Int) : Option ByteArray := if 0 ≤ a1 ∧ a1 ≤ 9223372036854775807 ∧ a0.size * a1.toNat ≤ 140737488355328 then some ⟨(Lib.repeatL a0.data.toList a1.toNat).toArray⟩ else none
theorem strings_Repeat.calls (a0 : ByteArray) (a1 : Int) (r : ByteArray) (w : World) (h : strings_Repeat.f a0 a1 = some r) : Calls Try.prog 78 #[.string a0, .int .i64 a1] w fun e w' => e = .returned (.string r) ∧ Below w.heap.size w w' := by
  unfold strings_Repeat.f at h
  by_cases hs : 0 ≤ a1 ∧ a1 ≤ 9223372036854775807 ∧ a0.size * a1.toNat ≤ 140737488355328
  case neg => rw [if_neg hs] at h; cases h
  rw [if_pos hs] at h
  obtain rfl := Option.some.inj h
  obtain ⟨c, rfl⟩ : ∃ c : Nat, a1 = (c : Int) := ⟨a1.toNat, by omega⟩
  rw [Int.toNat_natCast] at hs ⊢
  exact My.repeated a0 c w (by omega) hs.2.2

end Go.Proofs.Ytngcheicabbpoaa.QFnExactCountKind
