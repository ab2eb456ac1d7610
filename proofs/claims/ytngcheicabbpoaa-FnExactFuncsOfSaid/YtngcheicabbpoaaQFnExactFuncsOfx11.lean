/- Functions that the law uses, as Lean functions with the same answers, and the walks that show it: by this session's program, after the form of the kit's print. No condition. -/
import Derived.Test.YtngcheicabbpoaaQFnExactFuncsOfx0
import Derived.Test.YtngcheicabbpoaaQFnExactFuncsOfx8
import Derived.Test.YtngcheicabbpoaaQFnExactFuncsOfx10
namespace Go.Proofs.Ytngcheicabbpoaa.QFnExactFuncsOf
open Go.RowKit Go.Proofs.YtngcheicabbpoaaW.PrintWords Go.Proofs.YtngcheicabbpoaaW.PrintLast Go.Proofs.YtngcheicabbpoaaW.PrintMore
attribute [local go_sem] max2_int min2_int max_two min_two max_three min_three max_four min_four   -- for this text's walks alone
open Go.Proofs.Ytngcheicabbpoaa
attribute [local go_sem high] My.binOp_gtr_flip
set_option linter.unusedVariables false
set_option linter.unusedSimpArgs false

/-! ### impl_isStatement: function 80 -/
def impl_isStatement.f (a0 : Int) (a1 : Bool) : Option (Bool) := (impl_within.f a0 11 19).bind fun t264 => (if t264 = true then (some true) else (if a1 = true then (some (a0 == 20)) else (some false)))
set_option maxHeartbeats 8000000 in
set_option maxRecDepth 100000 in
theorem impl_isStatement.calls (a0 : Int) (a1 : Bool) (r : Bool) (w : World) (h : impl_isStatement.f a0 a1 = some r) :
    Calls Try.prog 80 #[.int .i64 a0, .bool a1] w fun e w' => e = .returned (.bool r) ∧ Drawn0 w w' := by
  have H : ((impl_within.f a0 11 19).bind fun t264 => (if t264 = true then (some true) else (if a1 = true then (some (a0 == 20)) else (some false)))) = some r := h
  clear h
  replace H := Option.bind_eq_some_iff.mp H
  obtain ⟨t264, A30, H⟩ := H
  replace H : (if t264 = true then (some true) else (if a1 = true then (some (a0 == 20)) else (some false))) = some r := H
  have A3 := Aside0.mk A30
  clear A30
  by_cases c4 : t264 = true
  · subst c4
    have H1 : (some true) = some r := by rw [if_pos rfl] at H; exact H
    clear H
    have H := H1
    clear H1
    obtain rfl := Option.some.inj H
    go_enter Try.func80, Try.ntmps80
    go_wp2_with (first | ((with_reducible refine gate_callee (f := 34) rfl ?_); refine goesL_ (some 6) rfl rfl Try.func34 (by kernel_rfl) rfl #[.int .i64 a0, .int .i64 11, .int .i64 19] rfl (by (try simp only [List.map_toArray, List.map_cons, List.map_nil]); first | done | rfl | (simp only [List.length_drop, List.length_take]; rfl)) ?_; (with_reducible refine (impl_within.calls a0 11 19 true _ A3.out).mono ?_); rintro e w' ⟨rfl, ⟨nd, rfl⟩⟩; refine ⟨_, rfl, ?_⟩))
    go_ret
    exact ⟨by first | rfl | (simp; done) | (simp [*]; done), by repeat (first | exact Drawn0.refl _ | apply Drawn0.step)⟩
  · replace c4 := Bool.eq_false_iff.mpr c4
    subst c4
    have H1 : (if a1 = true then (some (a0 == 20)) else (some false)) = some r := by rw [if_neg (show ¬ (false = true) by decide)] at H; exact H
    clear H
    have H := H1
    clear H1
    by_cases c5 : a1 = true
    · subst c5
      have H1 : (some (a0 == 20)) = some r := by rw [if_pos rfl] at H; exact H
      clear H
      have H := H1
      clear H1
      obtain rfl := Option.some.inj H
      go_enter Try.func80, Try.ntmps80
      go_wp2_with (first | ((with_reducible refine gate_callee (f := 34) rfl ?_); refine goesL_ (some 6) rfl rfl Try.func34 (by kernel_rfl) rfl #[.int .i64 a0, .int .i64 11, .int .i64 19] rfl (by (try simp only [List.map_toArray, List.map_cons, List.map_nil]); first | done | rfl | (simp only [List.length_drop, List.length_take]; rfl)) ?_; (with_reducible refine (impl_within.calls a0 11 19 false _ A3.out).mono ?_); rintro e w' ⟨rfl, ⟨nd, rfl⟩⟩; refine ⟨_, rfl, ?_⟩))
      go_ret
      exact ⟨by first | rfl | (simp; done) | (simp [*]; done), by repeat (first | exact Drawn0.refl _ | apply Drawn0.step)⟩
    · replace c5 := Bool.eq_false_iff.mpr c5
      subst c5
      have H1 : (some false) = some r := by rw [if_neg (show ¬ (false = true) by decide)] at H; exact H
      clear H
      have H := H1
      clear H1
      obtain rfl := Option.some.inj H
      go_enter Try.func80, Try.ntmps80
      go_wp2_with (first | ((with_reducible refine gate_callee (f := 34) rfl ?_); refine goesL_ (some 6) rfl rfl Try.func34 (by kernel_rfl) rfl #[.int .i64 a0, .int .i64 11, .int .i64 19] rfl (by (try simp only [List.map_toArray, List.map_cons, List.map_nil]); first | done | rfl | (simp only [List.length_drop, List.length_take]; rfl)) ?_; (with_reducible refine (impl_within.calls a0 11 19 false _ A3.out).mono ?_); rintro e w' ⟨rfl, ⟨nd, rfl⟩⟩; refine ⟨_, rfl, ?_⟩))
      go_ret
      exact ⟨by first | rfl | (simp; done) | (simp [*]; done), by repeat (first | exact Drawn0.refl _ | apply Drawn0.step)⟩

-- NOT PRINTED: function 55 (impl_checker_fits)

/-! ### impl_checker_walk: function 35 -/
open Hd
theorem impl_checker_walk.mixed : Try.prog.follows Departure.mixedOrders = true := by kernel_rfl
/-- Where the state lies. -/
structure impl_checker_walk.At (g b : Nat) (A0 : Option Addr) (c0 cb : Nat) (n : Nat) (root : Int) (seen : List Bool) (w : World) : Prop where
  st : w.heap[g]? = some (.cells #[.slice A0 n c0, .int .i64 root, .slice (some ⟨b, 0, none⟩) n cb] 55 (0, 0))
  row : w.heap[b]? = some (.cells (bools seen).toArray 4 (0, 0))
  len : seen.length = n
theorem impl_checker_walk.At.below {g b : Nat} {A0 : Option Addr} {c0 cb n : Nat} {root : Int} {seen : List Bool} {w w' : World} (h : impl_checker_walk.At g b A0 c0 cb n root seen w) (hb : Below w.heap.size w w') : impl_checker_walk.At g b A0 c0 cb n root seen w' :=
  ⟨blk_below h.st hb, blk_below h.row hb, h.len⟩
theorem impl_checker_walk.At.ne {g b : Nat} {A0 : Option Addr} {c0 cb n : Nat} {root : Int} {seen : List Bool} {w : World} (h : impl_checker_walk.At g b A0 c0 cb n root seen w) : g ≠ b := blk_ne h.st h.row (by decide)
theorem impl_checker_walk.At.cells {g b : Nat} {A0 : Option Addr} {c0 cb n : Nat} {root : Int} {seen : List Bool} {w : World} (h : impl_checker_walk.At g b A0 c0 cb n root seen w) :
    w.cell? ⟨g, 0, none⟩ = some (.slice A0 n c0) ∧ w.cell? ⟨g, 1, none⟩ = some (.int .i64 root) ∧ w.cell? ⟨g, 2, none⟩ = some (.slice (some ⟨b, 0, none⟩) n cb) :=
  ⟨blk_cell h.st 0, blk_cell h.st 1, blk_cell h.st 2⟩
theorem impl_checker_walk.At.mark {g b : Nat} {A0 : Option Addr} {c0 cb n : Nat} {root : Int} {seen : List Bool} {w : World} (h : impl_checker_walk.At g b A0 c0 cb n root seen w) (k : Nat) : impl_checker_walk.At g b A0 c0 cb n root (seen.set k true) (w.setCell ⟨b, k, none⟩ (.bool true)) :=
  ⟨blk_far h.st h.ne _, row_set h.row k true, by rw [List.length_set]; exact h.len⟩
/-- Is a kind of what it must be. -/
def impl_checker_walk.fits (a c : Int) (top : Bool) : Bool := if c = 101 then decide (1 ≤ a) && decide (a ≤ 10) else if c = 98 then a == 18 else (decide (11 ≤ a) && decide (a ≤ 19)) || (top && a == 20)
set_option maxRecDepth 100000 in
theorem impl_checker_walk.within (a b c : Int) (w : World) : Calls Try.prog 34 #[.int .i64 a, .int .i64 b, .int .i64 c] w fun e w' => e = .returned (.bool (decide (b ≤ a) && decide (a ≤ c))) ∧ w' = w := by
  cases h : decide (b ≤ a) with
  | true =>
    go_enter Try.func34, Try.ntmps34
    go_wp2_with fail
    go_ret
    exact ⟨rfl, rfl⟩
  | false =>
    go_enter Try.func34, Try.ntmps34
    go_wp2_with fail
    go_ret
    exact ⟨rfl, rfl⟩
set_option maxRecDepth 100000 in
theorem impl_checker_walk.expression (a : Int) (w : World) : Calls Try.prog 79 #[.int .i64 a] w fun e w' => e = .returned (.bool (decide (1 ≤ a) && decide (a ≤ 10))) ∧ w' = w := by
  have hc := impl_checker_walk.within a 1 10 w
  generalize (decide (1 ≤ a) && decide (a ≤ 10)) = v at *
  go_enter Try.func79, Try.ntmps79
  go_wp2_with (go_at_call 34; (with_reducible refine hc.mono ?_); rintro e w' ⟨rfl, rfl⟩)
  go_ret
  exact ⟨rfl, rfl⟩
set_option maxRecDepth 100000 in
theorem impl_checker_walk.statement (a : Int) (top : Bool) (w : World) : Calls Try.prog 80 #[.int .i64 a, .bool top] w fun e w' => e = .returned (.bool ((decide (11 ≤ a) && decide (a ≤ 19)) || (top && a == 20))) ∧ w' = w := by
  have hc := impl_checker_walk.within a 11 19 w
  generalize (decide (11 ≤ a) && decide (a ≤ 19)) = v at *
  cases v with
  | true =>
    go_enter Try.func80, Try.ntmps80
    go_wp2_with (go_at_call 34; (with_reducible refine hc.mono ?_); rintro e w' ⟨rfl, rfl⟩)
    go_ret
    exact ⟨rfl, rfl⟩
  | false =>
    cases top with
    | true =>
      go_enter Try.func80, Try.ntmps80
      go_wp2_with (go_at_call 34; (with_reducible refine hc.mono ?_); rintro e w' ⟨rfl, rfl⟩)
      go_ret
      exact ⟨rfl, rfl⟩
    | false =>
      go_enter Try.func80, Try.ntmps80
      go_wp2_with (go_at_call 34; (with_reducible refine hc.mono ?_); rintro e w' ⟨rfl, rfl⟩)
      go_ret
      exact ⟨rfl, rfl⟩
set_option maxHeartbeats 2000000 in
set_option maxRecDepth 100000 in
theorem impl_checker_walk.fits_calls (w0 : World) (g b : Nat) (A0 : Option Addr) (c0 cb : Nat) (l : List S52) (root : Int) (seen : List Bool) (k c : Int) (top : Bool) (w : World) (hr : Kd.C k52 w0 A0 l.length l) (hw : Below w0.heap.size w0 w) (h : impl_checker_walk.At g b A0 c0 cb l.length root seen w) (k0 : 0 ≤ k) (k1 : k < (l.length : Int)) :
    Calls Try.prog 55 #[.pointer (some ⟨g, 0, none⟩), .int .i64 k, .int .u8 c, .bool top] w fun e w' => e = .returned (.bool (impl_checker_walk.fits (rd_T52 l k).f0 c top)) ∧ w' = w := by
  have h0 := h.cells.1
  have b0 : decide (0 ≤ k) = true := decide_eq_true k0
  have b1 : decide (k < (l.length : Int)) = true := decide_eq_true k1
  obtain ⟨ad, A3, c3, A4, c4, e, X⟩ := at_T52 hr k k0 (by omega)
  subst e
  have x0 := pw_cell_below hw X.1
  have he := impl_checker_walk.expression (rd_T52 l k).f0 w
  have hs := impl_checker_walk.statement (rd_T52 l k).f0 top w
  clear X h hr hw b0 b1
  replace k0 := eq_true k0
  replace k1 := eq_true k1
  have hcc : True := trivial
  generalize (rd_T52 l k).f0 = a at *
  by_cases h1 : c = 101
  · subst h1
    have e9 := Lib.hid (show impl_checker_walk.fits a 101 top = (decide (1 ≤ a) && decide (a ≤ 10)) from rfl)
    clear hs
    generalize (decide (1 ≤ a) && decide (a ≤ 10)) = v at *
    go_enter Try.func55, Try.ntmps55
    go_wp2_with (go_at_call 79; (with_reducible refine he.mono ?_); rintro e w' ⟨rfl, rfl⟩)
    go_ret
    exact ⟨by rw [e9.out]; rfl, rfl⟩
  · by_cases h2 : c = 98
    · subst h2
      have e9 := Lib.hid (show impl_checker_walk.fits a 98 top = (a == 18) from rfl)
      clear hs he h1
      go_enter Try.func55, Try.ntmps55
      go_wp2_with fail
      go_ret
      exact ⟨by rw [e9.out]; rfl, rfl⟩
    · have e9 := Lib.hid (show impl_checker_walk.fits a c top = ((decide (11 ≤ a) && decide (a ≤ 19)) || (top && a == 20)) by unfold impl_checker_walk.fits; rw [if_neg h1, if_neg h2])
      have q1 : (c == 101) = false := beq_eq_false_iff_ne.mpr h1
      have q2 : (c == 98) = false := beq_eq_false_iff_ne.mpr h2
      clear he h1 h2
      generalize ((decide (11 ≤ a) && decide (a ≤ 19)) || (top && a == 20)) = v at *
      go_enter Try.func55, Try.ntmps55
      go_wp2_with (go_at_call 80; (with_reducible refine hs.mono ?_); rintro e w' ⟨rfl, rfl⟩)
      go_ret
      exact ⟨by rw [e9.out]; rfl, rfl⟩
/-- The kids of a node with what they must be. -/
def impl_checker_walk.kids (kinds : ByteArray) (l : List Int) : List (Int × Int) := l.zip (bytesOf kinds)
/-- The kids, one behind the other; false where one does not fit. -/
def impl_checker_walk.fold (l : List S52) (top : Bool) (g : List Bool → Int → Option (List Bool × Bool)) : List (Int × Int) → List Bool → Option (List Bool × Bool)
  | [], seen => some (seen, true)
  | p :: t, seen =>
    if 0 ≤ p.1 ∧ p.1 < (l.length : Int) then
      if impl_checker_walk.fits (rd_T52 l p.1).f0 p.2 top = true then
        (g seen p.1).bind fun res => if res.2 = true then impl_checker_walk.fold l top g t res.1 else some (res.1, false)
      else some (seen, false)
    else some (seen, false)
/-- The walk: what is seen, is all right. -/
def impl_checker_walk.W (l : List S52) (root : Int) : Nat → List Bool → Int → Int → Option (List Bool × Bool)
  | 0, _, _, _ => none
  | r + 1, seen, k, d =>
    if 0 ≤ k ∧ k < (l.length : Int) then
      if rdOf false seen k = false ∧ d ≤ 200 then
        (impl_Node_fieldsOK.f r (rd_T52 l k).f0 (rd_T52 l k).f1 (rd_T52 l k).f2 (rd_T52 l k).f3 (rd_T52 l k).f4).bind fun q =>
          if q = true then
            (impl_kidKinds.f r (rd_T52 l k).f0 (rd_T52 l k).f1 (rd_T52 l k).f2 (rd_T52 l k).f3 (rd_T52 l k).f4).bind fun kinds =>
              if kinds.size = (rd_T52 l k).f4.length then
                impl_checker_walk.fold l (k == root) (fun seen k => impl_checker_walk.W l root r seen k (d + 1)) (impl_checker_walk.kids kinds (rd_T52 l k).f4) (seen.set k.toNat true)
              else some (seen.set k.toNat true, false)
          else some (seen, false)
      else some (seen, false)
    else none
def impl_checker_walk.box (x : S52) (A3 : Option Addr) (c3 : Nat) (A4 : Option Addr) (c4 : Nat) : Obj := .cells #[.int .i64 x.f0, .int .i64 x.f1, .string x.f2, .slice A3 x.f3.length c3, .slice A4 x.f4.length c4] 52 (0, 0)
theorem impl_checker_walk.kids_drop (kinds : ByteArray) (l : List Int) (x : Nat) (hl : kinds.size = l.length) (hx : x < l.length) :
    (impl_checker_walk.kids kinds l).drop x = (rd l (x : Int), bt kinds (x : Int)) :: (impl_checker_walk.kids kinds l).drop (x + 1) := by
  have hb : (bytesOf kinds).length = kinds.size := bytesOf_length _
  have h1 : x < (impl_checker_walk.kids kinds l).length := by unfold impl_checker_walk.kids; rw [List.length_zip]; omega
  rw [List.drop_eq_getElem_cons h1]
  congr 1
  have h2 : (impl_checker_walk.kids kinds l)[x]? = some (impl_checker_walk.kids kinds l)[x] := List.getElem?_eq_getElem h1
  generalize (impl_checker_walk.kids kinds l)[x] = v at h2
  unfold impl_checker_walk.kids at h2
  rw [List.getElem?_zip_eq_some] at h2
  obtain ⟨e1, e2⟩ := h2
  rw [← rd_bytesOf]
  unfold rd
  rw [Int.toNat_natCast, List.getD_eq_getElem?_getD, List.getD_eq_getElem?_getD, e1, e2]
  rfl
theorem impl_checker_walk.kids_end (kinds : ByteArray) (l : List Int) (x : Nat) (hx : l.length ≤ x) : (impl_checker_walk.kids kinds l).drop x = [] := by
  rw [List.drop_eq_nil_iff]
  unfold impl_checker_walk.kids
  rw [List.length_zip]
  omega
set_option maxHeartbeats 4000000 in
set_option maxRecDepth 100000 in
/-- A node that was seen, lies too deep, or is not right by itself. -/
theorem impl_checker_walk.at_no (w0 : World) (g b : Nat) (A0 : Option Addr) (c0 cb : Nat) (l : List S52) (root : Int) (seen : List Bool) (k d : Int) (w : World) (hr : Kd.C k52 w0 A0 l.length l) (hg : w0.heap.size ≤ g) (hb0 : w0.heap.size ≤ b) (hw : Below w0.heap.size w0 w)
    (h : impl_checker_walk.At g b A0 c0 cb l.length root seen w) (hcb : l.length ≤ cb) (k0 : 0 ≤ k) (k1 : k < (l.length : Int))
    (hno : (rdOf false seen k = true ∨ 200 < d) ∨ (rdOf false seen k = false ∧ d ≤ 200 ∧ ∃ r, impl_Node_fieldsOK.f r (rd_T52 l k).f0 (rd_T52 l k).f1 (rd_T52 l k).f2 (rd_T52 l k).f3 (rd_T52 l k).f4 = some false)) :
    Calls Try.prog 35 #[.pointer (some ⟨g, 0, none⟩), .int .i64 k, .int .i64 d] w fun e w' => e = .returned (.bool false) ∧ impl_checker_walk.At g b A0 c0 cb l.length root seen w' ∧ Moved b b w w' := by
  have h0 := h.cells.1
  obtain ⟨ad, A3, c3, A4, c4, e, X⟩ := at_T52 hr k k0 (by omega)
  subst e
  have x0 := pw_cell_below hw X.1
  have x1 := pw_cell_below hw X.2.1
  have x2 := pw_cell_below hw X.2.2.1
  have x3 := pw_cell_below hw X.2.2.2.1
  have x4 := pw_cell_below hw X.2.2.2.2.1
  have HX := Lib.hid X.2.2.2.2.2
  have H := Lib.hid h
  have HW := Lib.hid hw
  have hcb' : k.toNat < cb := by omega
  have hrow := row_cell h.row k (by have := h.len; omega)
  have hu := Try.underlying52
  have HK := Lib.hid (And.intro k0 k1)
  have HNO := Lib.hid hno
  clear X hr hg hb0 hw h hno hcb
  replace k0 := eq_true k0
  replace k1 := eq_true k1
  go_enter Try.func35, Try.ntmps35
  go_upto_region 1 with fail
  go_cut [7] from 11 to 18 (fun s7 wx => ∃ g4 : Nat, s7 = .pointer (some ⟨g4, 0, none⟩) ∧ wx.heap[g4]? = some (impl_checker_walk.box (rd_T52 l k) A3 c3 A4 c4) ∧ Below w.heap.size w wx)
  case first =>
    go_wp2_with fail
    go_meet
    case rel => exact ⟨_, rfl, blk_new _ _, below_alloc (Below.refl _ _) _⟩
  case rest =>
    obtain ⟨g4, rfl, hbox, hb⟩ := hcut
    clear x0 x1 x2 x3 x4 h0
    have h2 := (H.out.below hb).cells.2.2
    have hrow' := pw_cell_below hb hrow
    have x0 := blk_cell hbox 0
    have x1 := blk_cell hbox 1
    have x2 := blk_cell hbox 2
    have x3 := blk_cell hbox 3
    have x4 := blk_cell hbox 4
    have HB := Lib.hid hb
    have HO := Lib.hid hbox
    clear hrow hb hbox
    cases hq : rdOf false seen k with
    | true =>
      rw [hq] at hrow'
      clear hq
      go_wp2_with fail
      go_ret
      exact ⟨rfl, H.out.below HB.out, Moved.of_below HB.out⟩
    | false =>
      rw [hq] at hrow'
      by_cases hd : 200 < d
      · have b2 : decide (200 < d) = true := decide_eq_true hd
        clear hd hq
        go_wp2_with fail
        go_ret
        exact ⟨rfl, H.out.below HB.out, Moved.of_below HB.out⟩
      · have b2 : decide (200 < d) = false := decide_eq_false hd
        rcases HNO.out with h | ⟨_, _, r, hf⟩
        · rw [hq] at h
          rcases h with h | h
          · cases h
          · exact absurd h hd
        have hb' := HW.out.trans (HB.out.mono HW.out.size)
        have hc := impl_Node_fieldsOK.calls r _ _ _ A3 c3 _ A4 c4 _ false wc (Kd.C_below HX.out.2.1 hb') HX.out.1 (Kd.C_below HX.out.2.2.2 hb') HX.out.2.2.1 hf
        clear hd hq hf hb'
        go_wp2_with (go_at_call 53; (with_reducible refine hc.mono ?_); rintro e w' ⟨rfl, hb⟩; have HB2 := Lib.hid hb; clear hb)
        go_ret
        exact ⟨rfl, (H.out.below HB.out).below HB2.out, Moved.of_below (HB.out.trans (HB2.out.mono HB.out.size))⟩
set_option maxHeartbeats 4000000 in
set_option maxRecDepth 100000 in
theorem impl_checker_walk.at_in (w0 : World) (g b : Nat) (A0 : Option Addr) (c0 cb : Nat) (l : List S52) (root : Int) (seen : List Bool) (k d : Int) (w : World) (hr : Kd.C k52 w0 A0 l.length l) (hg : w0.heap.size ≤ g) (hb0 : w0.heap.size ≤ b) (hw : Below w0.heap.size w0 w)
    (h : impl_checker_walk.At g b A0 c0 cb l.length root seen w) (hn : l.length ≤ 200) (hcb : l.length ≤ cb) (k0 : 0 ≤ k) (k1 : k < (l.length : Int)) (hs : rdOf false seen k = false) (hd : d ≤ 200) (hd0 : 0 ≤ d)
    (r : Nat) (kinds : ByteArray) (hkinds : impl_kidKinds.f r (rd_T52 l k).f0 (rd_T52 l k).f1 (rd_T52 l k).f2 (rd_T52 l k).f3 (rd_T52 l k).f4 = some kinds) (hq : impl_Node_fieldsOK.f r (rd_T52 l k).f0 (rd_T52 l k).f1 (rd_T52 l k).f2 (rd_T52 l k).f3 (rd_T52 l k).f4 = some true)
    (res : List Bool × Bool) (hres : (if kinds.size = (rd_T52 l k).f4.length then
                impl_checker_walk.fold l (k == root) (fun seen k => impl_checker_walk.W l root r seen k (d + 1)) (impl_checker_walk.kids kinds (rd_T52 l k).f4) (seen.set k.toNat true)
              else some (seen.set k.toNat true, false)) = some res)
    (ih : ∀ (seen : List Bool) (k : Int) (res : List Bool × Bool) (w : World), impl_checker_walk.W l root r seen k (d + 1) = some res → Below w0.heap.size w0 w → impl_checker_walk.At g b A0 c0 cb l.length root seen w →
      Calls Try.prog 35 #[.pointer (some ⟨g, 0, none⟩), .int .i64 k, .int .i64 (d + 1)] w fun e w' => e = .returned (.bool res.2) ∧ impl_checker_walk.At g b A0 c0 cb l.length root res.1 w' ∧ Moved b b w w') :
    Calls Try.prog 35 #[.pointer (some ⟨g, 0, none⟩), .int .i64 k, .int .i64 d] w fun e w' => e = .returned (.bool res.2) ∧ impl_checker_walk.At g b A0 c0 cb l.length root res.1 w' ∧ Moved b b w w' := by
  have IH := Lib.hid ih
  have HKINDS := Lib.hid hkinds
  have HQ := Lib.hid hq
  have HRES := Lib.hid hres
  have h0 := h.cells.1
  obtain ⟨ad, A3, c3, A4, c4, e, X⟩ := at_T52 hr k k0 (by omega)
  subst e
  have x0 := pw_cell_below hw X.1
  have x1 := pw_cell_below hw X.2.1
  have x2 := pw_cell_below hw X.2.2.1
  have x3 := pw_cell_below hw X.2.2.2.1
  have x4 := pw_cell_below hw X.2.2.2.2.1
  have HX := Lib.hid X.2.2.2.2.2
  have H := Lib.hid h
  have HW := Lib.hid hw
  have hcb' : k.toNat < cb := by omega
  have hrow := row_cell h.row k (by have := h.len; omega)
  rw [hs] at hrow
  have hu := Try.underlying52
  have HK := Lib.hid (And.intro k0 k1)
  have HD := Lib.hid (And.intro hd0 hd)
  have HG := Lib.hid (And.intro hg hb0)
  have HR := Lib.hid hr
  have b2 : decide (200 < d) = false := decide_eq_false (by omega)
  clear X hr hg hb0 hw h hcb ih hkinds hq hres hs hd hd0
  replace k0 := eq_true k0
  replace k1 := eq_true k1
  go_enter Try.func35, Try.ntmps35
  go_upto_region 1 with fail
  go_cut [7] from 11 to 18 (fun s7 wx => ∃ g4 : Nat, s7 = .pointer (some ⟨g4, 0, none⟩) ∧ wx.heap[g4]? = some (impl_checker_walk.box (rd_T52 l k) A3 c3 A4 c4) ∧ Below w.heap.size w wx)
  case first =>
    go_wp2_with fail
    go_meet
    case rel => exact ⟨_, rfl, blk_new _ _, below_alloc (Below.refl _ _) _⟩
  case rest =>
    obtain ⟨g4, rfl, hbox, hb⟩ := hcut
    clear x0 x1 x2 x3 x4 h0
    have h2 := (H.out.below hb).cells.2.2
    have hrow' := pw_cell_below hb hrow
    have x0 := blk_cell hbox 0
    have x1 := blk_cell hbox 1
    have x2 := blk_cell hbox 2
    have x3 := blk_cell hbox 3
    have x4 := blk_cell hbox 4
    have HA := Lib.hid (H.out.below hb)
    have HM := Lib.hid (Moved.of_below (g := b) (b := b) hb)
    have HO := Lib.hid hbox
    have hb' := HW.out.trans (hb.mono HW.out.size)
    have hc := impl_Node_fieldsOK.calls r _ _ _ A3 c3 _ A4 c4 _ true wc (Kd.C_below HX.out.2.1 hb') HX.out.1 (Kd.C_below HX.out.2.2.2 hb') HX.out.2.2.1 HQ.out
    clear hrow hb hbox H hb'
    go_upto_region 4 with (go_at_call 53; (with_reducible refine hc.mono ?_); rintro e w' ⟨rfl, hb⟩; have HB2 := Lib.hid hb; clear hb)
    clear hc h2 hrow' x0 x1 x2 x3 x4 b2
    have h2 := (HA.out.below HB2.out).cells.2.2
    have f2 := blk_frozen (HA.out.below HB2.out).row k.toNat
    have hrow' := row_cell (HA.out.below HB2.out).row k (by have := HA.out.len; have := HK.out; omega)
    go_cut [] from 35 to 40 (fun wx => impl_checker_walk.At g b (some ad) c0 cb l.length root (seen.set k.toNat true) wx ∧ Moved b b w wx ∧ wx.heap[g4]? = some (impl_checker_walk.box (rd_T52 l k) A3 c3 A4 c4))
    case first =>
      go_wp2_with fail
      go_meet
      case rel => exact ⟨(HA.out.below HB2.out).mark _, (HM.out.step HB2.out).set _ _ (.inl rfl), blk_far (blk_below HO.out HB2.out) (blk_ne (show wc.heap[g4]? = some (.cells _ 52 (0, 0)) from HO.out) HA.out.row (by decide)) _⟩
    clear h2 f2 hrow' HA HM HO HB2
    case rest =>
      obtain ⟨ha, hm, hbox⟩ := hcut
      have x0 := blk_cell hbox 0
      have x1 := blk_cell hbox 1
      have x2 := blk_cell hbox 2
      have x3 := blk_cell hbox 3
      have x4 := blk_cell hbox 4
      have HB := Lib.hid (hm.below HW.out HW.out.size HG.out.2 HG.out.2)
      have hc := impl_kidKinds.calls r _ _ _ A3 c3 _ A4 c4 _ kinds wc (Kd.C_below HX.out.2.1 HB.out) HX.out.1 (Kd.C_below HX.out.2.2.2 HB.out) HX.out.2.2.1 HKINDS.out
      have HA := Lib.hid ha
      have HM := Lib.hid hm
      have HO := Lib.hid hbox
      clear ha hm hbox
      go_upto_region 6 with (go_at_call 54; (with_reducible refine hc.mono ?_); rintro e w' ⟨rfl, hb⟩; have HB2 := Lib.hid hb; clear hb)
      clear hc x0 x1 x2 x3 x4
      have x4 := blk_cell (blk_below HO.out HB2.out) 4
      have HA' := Lib.hid (HA.out.below HB2.out)
      have HM' := Lib.hid (HM.out.step HB2.out)
      have HO' := Lib.hid (blk_below HO.out HB2.out)
      by_cases hlen : kinds.size = (rd_T52 l k).f4.length
      case neg =>
        have e := HRES.out
        rw [if_neg hlen] at e
        obtain rfl := Option.some.inj e
        have bl : ((kinds.size : Int) != ((rd_T52 l k).f4.length : Int)) = true := bne_iff_ne.mpr (by omega)
        have bl' : (kinds.size != (rd_T52 l k).f4.length) = true := bne_iff_ne.mpr hlen
        clear e hlen
        go_wp2_with fail
        go_ret
        exact ⟨rfl, HA'.out, HM'.out⟩
      case pos =>
        have e := HRES.out
        rw [if_pos hlen] at e
        have bl : ((kinds.size : Int) != ((rd_T52 l k).f4.length : Int)) = false := by rw [hlen]; exact bne_self_eq_false _
        have bl' : (kinds.size != (rd_T52 l k).f4.length) = false := by rw [hlen]; exact bne_self_eq_false _
        obtain ⟨top, htop⟩ : ∃ t, t = (k == root) := ⟨_, rfl⟩
        rw [← htop] at e
        have HF := Lib.hid e
        have HTOP := Lib.hid htop
        have HLEN := Lib.hid hlen
        clear e hlen htop HRES HA HM HO
        go_upto_region 8 with fail
        clear bl bl'
        go_wp2_with fail
        go_loopw [9, 10, 52] (fun _ _ i wr => ∃ (x : Nat) (sn : List Bool), x ≤ (rd_T52 l k).f4.length ∧ i = .int .i64 x ∧ Aside0 (impl_checker_walk.fold l top (fun seen k => impl_checker_walk.W l root r seen k (d + 1)) ((impl_checker_walk.kids kinds (rd_T52 l k).f4).drop x) sn = some res) ∧ Aside0 (impl_checker_walk.At g b (some ad) c0 cb l.length root sn wr) ∧ Aside0 (Moved b b w wr)) (fun _ _ i _ => (rd_T52 l k).f4.length - (intOf i).toNat)
        case atStart => exact ⟨0, _, Nat.zero_le _, rfl, ⟨HF.out⟩, ⟨HA'.out⟩, ⟨HM'.out⟩⟩
        clear HA' HM' HO' HF HB HB2 x4 k0 k1
        case round =>
          obtain ⟨x, sn, hx, rfl, AF, AA, AM⟩ := hrel
          have HBr := Lib.hid (AM.out.below HW.out HW.out.size HG.out.2 HG.out.2)
          by_cases hlt : x < (rd_T52 l k).f4.length
          · have hf := AF.out
            rw [impl_checker_walk.kids_drop _ _ _ HLEN.out hlt] at hf
            obtain ⟨aK, e, hk⟩ := Kd.at_int (Kd.C_below HX.out.2.2.2 HBr.out) (x : Int) (by omega) (by omega)
            cases e
            rw [Int.toNat_natCast] at hk
            have h0 := AA.out.cells.1
            have h1 := AA.out.cells.2.1
            have b1 : decide (x < (rd_T52 l k).f4.length) = true := decide_eq_true hlt
            have b2 : decide ((x : Int) < ((rd_T52 l k).f4.length : Int)) = true := decide_eq_true (by omega)
            have hc4 : x < c4 := by have := HX.out.2.2.1; omega
            have hks : x < kinds.size := by have := HLEN.out; omega
            have hbt := bt_at kinds (x : Int) (by omega)
            have hd0 := HD.out.1
            have hd1 := HD.out.2
            have HLT := Lib.hid hlt
            have HX1 := Lib.hid (show wrap64 ((x : Int) + 1) = ((x + 1 : Nat) : Int) by have := (Kd.C_below HX.out.2.2.2 HBr.out).2.1; unfold wrap64; omega)
            have hin := fun w => impl_checker_walk.within (rd (rd_T52 l k).f4 (x : Int)) 0 ((l.length : Int) - 1) w
            have hat : ∀ w', Below wr.heap.size wr w' → Hid (impl_checker_walk.At g b (some ad) c0 cb l.length root sn w' ∧ Moved b b w w') := fun w' hb => ⟨AA.out.below hb, AM.out.step hb⟩
            have hm := impl_checker_walk.mixed
            go_upto_region 11 with fail
            obtain ⟨kid, ekid⟩ : ∃ z, z = rd (rd_T52 l k).f4 (x : Int) := ⟨_, rfl⟩
            rw [← ekid]
            have HEK := Lib.hid ekid
            clear ekid
            go_cut [90] from 57 to 89 (fun s wx => ∃ (v : Bool) (sn' : List Bool), s = .bool (!v) ∧ impl_checker_walk.At g b (some ad) c0 cb l.length root sn' wx ∧ Moved b b w wx ∧ (v = true → impl_checker_walk.fold l top (fun seen k => impl_checker_walk.W l root r seen k (d + 1)) ((impl_checker_walk.kids kinds (rd_T52 l k).f4).drop (x + 1)) sn' = some res) ∧ (v = false → res = (sn', false)))
            case first =>
              clear hx b1 b2 hc4 hk hu
              unfold impl_checker_walk.fold at hf
              have ekid := HEK.out
              clear HEK
              obtain ⟨ck, eck⟩ : ∃ z, z = bt kinds (x : Int) := ⟨_, rfl⟩
              rw [← ekid] at hf hin
              rw [← eck] at hf hbt
              have hbt' : ((kinds[x]'hks).toNat : Int) = ck := by simpa using hbt
              clear ekid eck hbt
              have htop : (k == root) = top := HTOP.out.symm
              clear hat hm
              have HWR := Lib.hid (show IntKind.i64.wrap ((l.length : Int) - 1) = (l.length : Int) - 1 from IntWalk.i64_in _ (by omega))
              by_cases hw1 : 0 ≤ kid ∧ kid < (l.length : Int)
              · have q0 : (decide (0 ≤ kid) && decide (kid ≤ (l.length : Int) - 1)) = true := by rw [decide_eq_true hw1.1, decide_eq_true (by omega)]; rfl
                rw [q0] at hin
                have hin' : Calls Try.prog 34 #[.int .i64 kid, .int .i64 0, .int .i64 (IntKind.i64.wrap ((l.length : Int) - 1))] wr.drew fun e w' => e = .returned (.bool true) ∧ w' = wr.drew := by rw [HWR.out]; exact hin _
                clear hin
                rw [if_pos hw1] at hf
                have hfits := impl_checker_walk.fits_calls w0 g b (some ad) c0 cb l root sn kid ck top wr.drew HR.out (below_drew HBr.out) ⟨AA.out.st, AA.out.row, AA.out.len⟩ hw1.1 hw1.2
                cases hv : impl_checker_walk.fits (rd_T52 l kid).f0 ck top with
                | false =>
                  rw [hv] at hfits
                  rw [hv, if_neg (by decide)] at hf
                  have HF := Lib.hid (Option.some.inj hf)
                  clear hf hv hw1 q0
                  refine wp_region_still_tail 31 impl_checker_walk.mixed (by kernel_rfl) ?_
                  simp only [List.take_succ_cons, List.take_zero, List.drop_succ_cons, List.drop_zero]
                  repeat with_reducible still_step
                  still_call hin'
                  repeat with_reducible still_step
                  still_call hfits
                  repeat with_reducible still_step
                  (with_reducible refine wpStill_nil ?_)
                  change wpList _ _ _ _ _ wr.drew
                  go_wp2_with fail
                  go_meet
                  case rel => exact ⟨false, sn, rfl, ⟨AA.out.st, AA.out.row, AA.out.len⟩, AM.out.drew, fun h => Bool.noConfusion h, fun _ => HF.out.symm⟩
                | true =>
                  rw [hv] at hfits
                  rw [hv, if_pos rfl] at hf
                  obtain ⟨res', h3, h4⟩ := Option.bind_eq_some_iff.1 hf
                  have ih := IH.out sn kid res' wr.drew h3 (below_drew HBr.out) ⟨AA.out.st, AA.out.row, AA.out.len⟩
                  have HF := Lib.hid h4
                  clear hf hv hw1 q0 h3 h4
                  refine wp_region_still_tail 31 impl_checker_walk.mixed (by kernel_rfl) ?_
                  simp only [List.take_succ_cons, List.take_zero, List.drop_succ_cons, List.drop_zero]
                  repeat with_reducible still_step
                  still_call hin'
                  repeat with_reducible still_step
                  still_call hfits
                  repeat with_reducible still_step
                  (with_reducible refine wpStill_nil ?_)
                  change wpList _ _ _ _ _ wr.drew
                  go_wp2_with (go_at_call 35; (with_reducible refine ih.mono ?_); rintro e w' ⟨rfl, ha, hm'⟩; have HA := Lib.hid ha; have HM := Lib.hid (AM.out.drew.trans hm'); clear ha hm')
                  go_meet
                  case rel =>
                    refine ⟨res'.2, res'.1, rfl, HA.out, HM.out, fun h => ?_, fun h => ?_⟩
                    · have := HF.out
                      rw [if_pos h] at this
                      exact this
                    · have := HF.out
                      rw [h, if_neg (by decide)] at this
                      exact (Option.some.inj this).symm
              · have q0 : (decide (0 ≤ kid) && decide (kid ≤ (l.length : Int) - 1)) = false := by
                  rw [← Bool.decide_and]
                  exact decide_eq_false (by omega)
                rw [q0] at hin
                have hin' : Calls Try.prog 34 #[.int .i64 kid, .int .i64 0, .int .i64 (IntKind.i64.wrap ((l.length : Int) - 1))] wr.drew fun e w' => e = .returned (.bool false) ∧ w' = wr.drew := by rw [HWR.out]; exact hin _
                clear hin
                rw [if_neg hw1] at hf
                have HF := Lib.hid (Option.some.inj hf)
                clear hf hw1 q0
                refine wp_region_still_tail 31 impl_checker_walk.mixed (by kernel_rfl) ?_
                simp only [List.take_succ_cons, List.take_zero, List.drop_succ_cons, List.drop_zero]
                repeat with_reducible still_step
                still_call hin'
                repeat with_reducible still_step
                (with_reducible refine wpStill_nil ?_)
                change wpList _ _ _ _ _ wr.drew
                go_wp2_with fail
                go_meet
                case rel => exact ⟨false, sn, rfl, ⟨AA.out.st, AA.out.row, AA.out.len⟩, AM.out.drew, fun h => Bool.noConfusion h, fun _ => HF.out.symm⟩
            case rest =>
              obtain ⟨v, sn', rfl, ha, hm', hv1, hv2⟩ := hcut
              have HA := Lib.hid ha
              have HM := Lib.hid hm'
              have H1 := Lib.hid hv1
              have H2 := Lib.hid hv2
              clear ha hm' hv1 hv2 hin hat hf
              cases v with
              | true =>
                go_wp2_with fail
                go_roundw
                case rel => exact ⟨x + 1, sn', HLT.out, by rw [HX1.out], ⟨H1.out rfl⟩, ⟨HA.out⟩, ⟨HM.out⟩⟩
                case measure => have := HLT.out; rw [HX1.out]; simp only [intOf]; omega
              | false =>
                have e := H2.out rfl
                have HE := Lib.hid e
                clear e
                go_wp2_with fail
                go_ret
                exact ⟨by rw [HE.out]; rfl, by rw [HE.out]; exact HA.out, HM.out⟩
          · have hf := AF.out
            rw [impl_checker_walk.kids_end _ _ _ (by omega)] at hf
            have b1 : decide (x < (rd_T52 l k).f4.length) = false := decide_eq_false hlt
            have b2 : decide ((x : Int) < ((rd_T52 l k).f4.length : Int)) = false := decide_eq_false (by omega)
            have e : (sn, true) = res := Option.some.inj hf
            have HE := Lib.hid e
            clear hf hlt e
            go_wp2_with fail
            go_ret
            exact ⟨by rw [← HE.out]; rfl, by rw [← HE.out]; exact AA.out, AM.out⟩

theorem impl_checker_walk.calls (w0 : World) (g b : Nat) (A0 : Option Addr) (c0 cb : Nat) (l : List S52) (root : Int) (hr : Kd.C k52 w0 A0 l.length l) (hg : w0.heap.size ≤ g) (hb0 : w0.heap.size ≤ b) (hn : l.length ≤ 200) (hcb : l.length ≤ cb) :
    ∀ (r : Nat) (seen : List Bool) (k d : Int) (res : List Bool × Bool) (w : World), 0 ≤ d → impl_checker_walk.W l root r seen k d = some res → Below w0.heap.size w0 w → impl_checker_walk.At g b A0 c0 cb l.length root seen w →
      Calls Try.prog 35 #[.pointer (some ⟨g, 0, none⟩), .int .i64 k, .int .i64 d] w fun e w' => e = .returned (.bool res.2) ∧ impl_checker_walk.At g b A0 c0 cb l.length root res.1 w' ∧ Moved b b w w' := by
  intro r
  induction r with
  | zero => intro seen k d res w _ h; simp [impl_checker_walk.W] at h
  | succ r ih =>
    intro seen k d res w hd0 h hw ha
    unfold impl_checker_walk.W at h
    by_cases hk : 0 ≤ k ∧ k < (l.length : Int)
    case neg => rw [if_neg hk] at h; cases h
    rw [if_pos hk] at h
    by_cases hc : rdOf false seen k = false ∧ d ≤ 200
    case neg =>
      rw [if_neg hc] at h
      obtain rfl := Option.some.inj h
      refine impl_checker_walk.at_no w0 g b A0 c0 cb l root seen k d w hr hg hb0 hw ha hcb hk.1 hk.2 (.inl ?_)
      cases hq : rdOf false seen k with
      | true => exact .inl rfl
      | false => exact .inr (Int.not_le.1 (fun h => hc ⟨hq, h⟩))
    rw [if_pos hc] at h
    obtain ⟨q, h1, h⟩ := Option.bind_eq_some_iff.1 h
    cases q with
    | false =>
      rw [if_neg (by decide)] at h
      obtain rfl := Option.some.inj h
      exact impl_checker_walk.at_no w0 g b A0 c0 cb l root seen k d w hr hg hb0 hw ha hcb hk.1 hk.2 (.inr ⟨hc.1, hc.2, r, h1⟩)
    | true =>
      rw [if_pos rfl] at h
      obtain ⟨kinds, h2, h⟩ := Option.bind_eq_some_iff.1 h
      exact impl_checker_walk.at_in w0 g b A0 c0 cb l root seen k d w hr hg hb0 hw ha hn hcb hk.1 hk.2 hc.1 hc.2 hd0 r kinds h2 h1 res h (fun seen k res w h hw ha => ih seen k (d + 1) res w (by omega) h hw ha)

/-! ### slices_Index_bool_bool: function 56 -/
def slices_Index_bool_bool.l0 : Nat → List Bool → Bool → Int → Int → Option (Int)
  | 0, _, _, _, _ => none
  | k + 1, x0, x1, x7, x8 => if x8 < x7 then (if 0 ≤ x8 then (if x8 < (x0.length : Int) then (if (x1 == (rdOf false x0 x8)) = true then (some x8) else (slices_Index_bool_bool.l0 k x0 x1 x7 (wrap64 (x8 + 1)))) else (none)) else (none)) else (some (-1))
def slices_Index_bool_bool.f (k : Nat) (l0 : List Bool) (a1 : Bool) : Option (Int) := slices_Index_bool_bool.l0 k l0 a1 (l0.length : Int) 0
theorem slices_Index_bool_bool.mono_l : ∀ k, (∀ y0 y1 y2 y3, LeO (slices_Index_bool_bool.l0 k y0 y1 y2 y3) (slices_Index_bool_bool.l0 (k + 1) y0 y1 y2 y3))
  | 0 => fun _ _ _ _ r h => by simp [slices_Index_bool_bool.l0] at h
  | k + 1 => by
    have ih0 := slices_Index_bool_bool.mono_l k
    · intro y0 y1 y2 y3
      unfold slices_Index_bool_bool.l0
      repeat' first
      | (with_reducible exact ih0 _ _ _ _)
      | (with_reducible exact LeO.refl _)
      | (with_reducible exact LeO.none _)
      | (with_reducible refine LeO.ite ?_ ?_)
      | (with_reducible refine LeO.bind ?_ (fun _ => ?_))
      | exact ih0 _ _ _ _
      | exact LeO.none _
      | refine LeO.ite ?_ ?_
      | refine LeO.bind ?_ (fun _ => ?_)
theorem slices_Index_bool_bool.mono : ∀ a0 a1 k, LeO (slices_Index_bool_bool.f k a0 a1) (slices_Index_bool_bool.f (k + 1) a0 a1) := by
  intro a0 a1 k
  have ih0 := slices_Index_bool_bool.mono_l k
  unfold slices_Index_bool_bool.f
  repeat' first
      | (with_reducible exact ih0 _ _ _ _)
      | (with_reducible exact LeO.refl _)
      | (with_reducible exact LeO.none _)
      | (with_reducible refine LeO.ite ?_ ?_)
      | (with_reducible refine LeO.bind ?_ (fun _ => ?_))
      | exact ih0 _ _ _ _
      | exact LeO.none _
      | refine LeO.ite ?_ ?_
      | refine LeO.bind ?_ (fun _ => ?_)
set_option maxHeartbeats 8000000 in
set_option maxRecDepth 100000 in
theorem slices_Index_bool_bool.calls (k : Nat) (A0 : Option Addr) (c0 : Nat) (l0 : List Bool) (a1 : Bool) (r : Int) (w : World) (hr0 : Kd.C Kd.bool w A0 l0.length l0) (hc0 : l0.length ≤ c0) (h : slices_Index_bool_bool.f k l0 a1 = some r) :
    Calls Try.prog 56 #[.slice A0 l0.length c0, .bool a1] w fun e w' => e = .returned (.int .i64 r) ∧ Drawn0 w w' := by
  have HR0 := Aside0.mk hr0
  have HC0 := Aside0.mk hc0
  clear hr0 hc0
  have H : (slices_Index_bool_bool.l0 k l0 a1 (l0.length : Int) 0) = some r := h
  clear h
  have H' := Aside0.mk H
  clear H
  go_enter Try.func56, Try.ntmps56
  go_wp2
  go_loopg [8] k (fun kq v8 w' => ∃ (x8_1 : Int), v8 = .int .i64 x8_1 ∧ Aside0 (slices_Index_bool_bool.l0 kq l0 a1 (l0.length : Int) x8_1 = some r) ∧ Aside0 (kq ≤ k) ∧ Drawn0 w w')
  case atStart => exact ⟨(0), (by first | rfl | (simp; done) | (simp [*]; done)), H', ⟨Nat.le_refl _⟩, by repeat (first | exact Drawn0.refl _ | apply Drawn0.step)⟩
  case round =>
    clear H'
    try clear p2
    obtain ⟨x8_1, rfl, HA, HK1, ⟨m1, rfl⟩⟩ := hrel
    cases gk with
    | zero => exact absurd HA.out (by simp [slices_Index_bool_bool.l0])
    | succ k1 =>
      have H := HA.out
      clear HA
      simp only [slices_Index_bool_bool.l0] at H
      by_cases c3 : x8_1 < (l0.length : Int)
      · rw [if_pos c3] at H
        have c3b0 : decide (x8_1 < (l0.length : Int)) = true := decide_eq_true c3
        clear c3
        by_cases c4 : 0 ≤ x8_1
        · rw [if_pos c4] at H
          have c4b0 : decide (0 ≤ x8_1) = true := decide_eq_true c4
          clear c4
          by_cases c5 : x8_1 < (l0.length : Int)
          · rw [if_pos c5] at H
            have c5b0 : decide (x8_1 < (l0.length : Int)) = true := decide_eq_true c5
            clear c5
            by_cases c6 : (a1 == (rdOf false l0 x8_1)) = true
            · rw [if_pos c6] at H
              have c6b0 : (a1 == (rdOf false l0 x8_1)) = true := c6
              (try (have c6b1 : decide (a1 = (rdOf false l0 x8_1)) = true := by simpa using c6))
              (try (have c6b2 : (a1 == (rdOf false l0 x8_1)) = true := by simpa using c6))
              clear c6
              obtain rfl := Option.some.inj H
              have p265 : 0 ≤ (x8_1 : Int) := of_decide_eq_true (by first | (with_reducible assumption) | assumption)
              have q265 : x8_1 < (l0.length : Int) := of_decide_eq_true (by first | (with_reducible assumption) | assumption)
              obtain ⟨ad265, e265, hx265_0⟩ := Kd.at_bool HR0.out x8_1 p265 q265
              cases e265
              replace p265 := eq_true p265
              replace q265 := eq_true q265
              go_wp2
              go_ret
              exact ⟨by first | rfl | (simp; done) | (simp [*]; done), by repeat (first | exact Drawn0.refl _ | apply Drawn0.step)⟩
            · rw [if_neg c6] at H
              have c6b0 : (a1 == (rdOf false l0 x8_1)) = false := by simpa using c6
              (try (have c6b1 : decide (a1 = (rdOf false l0 x8_1)) = false := by simpa using c6))
              (try (have c6b2 : (a1 == (rdOf false l0 x8_1)) = false := by simpa using c6))
              (try (have c6b3 : ¬ (a1 = (rdOf false l0 x8_1)) := by simpa using c6))
              clear c6
              have H' := Aside0.mk H
              clear H
              have p265 : 0 ≤ (x8_1 : Int) := of_decide_eq_true (by first | (with_reducible assumption) | assumption)
              have q265 : x8_1 < (l0.length : Int) := of_decide_eq_true (by first | (with_reducible assumption) | assumption)
              obtain ⟨ad265, e265, hx265_0⟩ := Kd.at_bool HR0.out x8_1 p265 q265
              cases e265
              replace p265 := eq_true p265
              replace q265 := eq_true q265
              go_wp2
              go_roundg k1
              case measure => have := HK1.out; omega
              case rel => exact ⟨(wrap64 (x8_1 + 1)), (by first | rfl | (simp; done) | (simp [*]; done)), H', ⟨by have := HK1.out; omega⟩, by repeat (first | exact Drawn0.refl _ | apply Drawn0.step)⟩
          · rw [if_neg c5] at H
            exact absurd H (by simp)
        · rw [if_neg c4] at H
          exact absurd H (by simp)
      · rw [if_neg c3] at H
        have c3b0 : decide (x8_1 < (l0.length : Int)) = false := decide_eq_false c3
        clear c3
        obtain rfl := Option.some.inj H
        go_wp2
        go_ret
        exact ⟨by first | rfl | (simp; done) | (simp [*]; done), by repeat (first | exact Drawn0.refl _ | apply Drawn0.step)⟩

/-! ### slices_Contains_bool_bool: function 36 -/
def slices_Contains_bool_bool.f (k : Nat) (l0 : List Bool) (a1 : Bool) : Option (Bool) := (slices_Index_bool_bool.f k l0 a1).bind fun t266 => (some (decide (t266 ≥ 0)))
theorem slices_Contains_bool_bool.mono : ∀ a0 a1 k, LeO (slices_Contains_bool_bool.f k a0 a1) (slices_Contains_bool_bool.f (k + 1) a0 a1) := by
  intro a0 a1 k
  unfold slices_Contains_bool_bool.f
  repeat' first
      | (with_reducible exact slices_Index_bool_bool.mono _ _ _)
      | (with_reducible exact LeO.refl _)
      | (with_reducible exact LeO.none _)
      | (with_reducible refine LeO.ite ?_ ?_)
      | (with_reducible refine LeO.bind ?_ (fun _ => ?_))
      | exact slices_Index_bool_bool.mono _ _ _
      | exact LeO.none _
      | refine LeO.ite ?_ ?_
      | refine LeO.bind ?_ (fun _ => ?_)
set_option maxHeartbeats 8000000 in
set_option maxRecDepth 100000 in
theorem slices_Contains_bool_bool.calls (k : Nat) (A0 : Option Addr) (c0 : Nat) (l0 : List Bool) (a1 : Bool) (r : Bool) (w : World) (hr0 : Kd.C Kd.bool w A0 l0.length l0) (hc0 : l0.length ≤ c0) (h : slices_Contains_bool_bool.f k l0 a1 = some r) :
    Calls Try.prog 36 #[.slice A0 l0.length c0, .bool a1] w fun e w' => e = .returned (.bool r) ∧ Drawn0 w w' := by
  have HR0 := Aside0.mk hr0
  have HC0 := Aside0.mk hc0
  clear hr0 hc0
  have H : ((slices_Index_bool_bool.f k l0 a1).bind fun t266 => (some (decide (t266 ≥ 0)))) = some r := h
  clear h
  replace H := Option.bind_eq_some_iff.mp H
  obtain ⟨t266, A30, H⟩ := H
  replace H : (some (decide (t266 ≥ 0))) = some r := H
  have A3 := Aside0.mk A30
  clear A30
  obtain rfl := Option.some.inj H
  go_enter Try.func36, Try.ntmps36
  go_wp2_with (first | ((with_reducible refine gate_callee (f := 56) rfl ?_); refine goesL_ (some 7) rfl rfl Try.func56 (by kernel_rfl) rfl #[.slice A0 l0.length c0, .bool a1] rfl (by (try simp only [List.map_toArray, List.map_cons, List.map_nil]); first | done | rfl | (simp only [List.length_drop, List.length_take]; rfl)) ?_; (with_reducible refine (slices_Index_bool_bool.calls k _ _ l0 a1 t266 _ ?side1 ?side2 A3.out).mono ?_); (case side1 => repeat (first | exact HR0.out | (with_reducible refine Kd.C_alloc ?_ _) | (with_reducible refine Kd.C_drewN ?_ _) | (with_reducible refine Kd.C_drew ?_))); (case side2 => exact HC0.out); rintro e w' ⟨rfl, ⟨nd, rfl⟩⟩; refine ⟨_, rfl, ?_⟩))
  go_ret
  exact ⟨by first | rfl | (simp; done) | (simp [*]; done), by repeat (first | exact Drawn0.refl _ | apply Drawn0.step)⟩

/-! ### impl_TreeOK: function 13 -/
open Hd
theorem impl_TreeOK.fold_mono (l : List S52) (top : Bool) {g g' : List Bool → Int → Option (List Bool × Bool)} (h : ∀ s k, LeO (g s k) (g' s k)) : ∀ (t : List (Int × Int)) (s : List Bool), LeO (impl_checker_walk.fold l top g t s) (impl_checker_walk.fold l top g' t s)
  | [], _ => LeO.refl _
  | p :: t, s => by
    unfold impl_checker_walk.fold
    exact LeO.ite (LeO.ite (LeO.bind (h _ _) (fun res => LeO.ite (impl_TreeOK.fold_mono l top h t res.1) (LeO.refl _))) (LeO.refl _)) (LeO.refl _)
theorem impl_TreeOK.walk_mono (l : List S52) (root : Int) : ∀ (r : Nat) (s : List Bool) (k d : Int), LeO (impl_checker_walk.W l root r s k d) (impl_checker_walk.W l root (r + 1) s k d)
  | 0, _, _, _ => fun _ h => by simp [impl_checker_walk.W] at h
  | r + 1, s, k, d => by
    rw [impl_checker_walk.W, impl_checker_walk.W]
    exact LeO.ite (LeO.ite (LeO.bind (impl_Node_fieldsOK.mono _ _ _ _ _ _) (fun q => LeO.ite (LeO.bind (impl_kidKinds.mono _ _ _ _ _ _) (fun kinds => LeO.ite (impl_TreeOK.fold_mono l _ (fun s k => impl_TreeOK.walk_mono l root r s k (d + 1)) _ _) (LeO.refl _))) (LeO.refl _))) (LeO.refl _)) (LeO.refl _)
def impl_TreeOK.f (k : Nat) (l0_0 : List S52) (a0_1 : Int) : Option Bool :=
  if l0_0.length ≤ 200 ∧ 0 ≤ a0_1 ∧ a0_1 < (l0_0.length : Int) ∧ (rd_T52 l0_0 a0_1).f0 = 18 then
    (impl_checker_walk.W l0_0 a0_1 k (List.replicate l0_0.length false) a0_1 1).bind fun res => if res.2 = true then (slices_Contains_bool_bool.f k res.1 false).bind fun b => some (!b) else some false
  else some false
theorem impl_TreeOK.mono : ∀ l0_0 a0_1 k, LeO (impl_TreeOK.f k l0_0 a0_1) (impl_TreeOK.f (k + 1) l0_0 a0_1) := by
  intro l0_0 a0_1 k
  unfold impl_TreeOK.f
  exact LeO.ite (LeO.bind (impl_TreeOK.walk_mono _ _ _ _ _ _) (fun res => LeO.ite (LeO.bind (slices_Contains_bool_bool.mono _ _ _) (fun _ => LeO.refl _)) (LeO.refl _))) (LeO.refl _)
theorem impl_TreeOK.info : (Try.prog.info? 4).map (fun i => (i.zero, i.size, i.bytes)) = some (some (.bool false), 1, 1) := by kernel_rfl
theorem impl_TreeOK.make (n : Nat) (hn : n ≤ 200) (w : World) : (Instr.makeSlice 53 (.int .i64 (n : Int)) (.int .i64 (n : Int))).run Try.prog w = .ok (.slice (some ⟨w.heap.size, 0, none⟩) n n) (w.alloc (.cells (bools (List.replicate n false)).toArray 4)) := by
  obtain ⟨i0, hi, hzz⟩ := Option.map_eq_some_iff.1 impl_TreeOK.info
  simp only [Prod.mk.injEq] at hzz
  obtain ⟨hz0, hz1, hz2⟩ := hzz
  have hr := run_make (P := Try.prog) w 53 4 i0 (.bool false) Try.underlying53 hi hz0 .i64 .i64 (n : Int) (n : Int) (by omega) (by omega) (by rw [hz2]; omega) (by omega)
  rw [Int.toNat_natCast, hz1, Nat.mul_one, Hd.made_bools] at hr
  exact hr
set_option maxHeartbeats 2000000 in
set_option maxRecDepth 100000 in
theorem impl_TreeOK.no (A0 : Option Addr) (c0 : Nat) (l : List S52) (root : Int) (w : World) (hr : Kd.C k52 w A0 l.length l) (hno : ¬ (l.length ≤ 200 ∧ 0 ≤ root ∧ root < (l.length : Int) ∧ (rd_T52 l root).f0 = 18)) :
    Calls Try.prog 13 #[.agg #[.slice A0 l.length c0, .int .i64 root]] w fun e w' => e = .returned (.bool false) ∧ Below w.heap.size w w' := by
  by_cases hn : l.length ≤ 200
  · have hin := fun w => impl_checker_walk.within root 0 ((l.length : Int) - 1) w
    by_cases hk : 0 ≤ root ∧ root < (l.length : Int)
    · have q0 : (decide (0 ≤ root) && decide (root ≤ (l.length : Int) - 1)) = true := by rw [decide_eq_true hk.1, decide_eq_true (by omega)]; rfl
      rw [q0] at hin
      obtain ⟨ad, A3, c3, A4, c4, e, X⟩ := at_T52 hr root hk.1 (by omega)
      subst e
      have x0 := pw_cell_below (below_alloc (Below.refl _ _) (.cells #[.slice (some ad) l.length c0, .int .i64 root] 29)) X.1
      have hne : (rd_T52 l root).f0 ≠ 18 := fun e => hno ⟨hn, hk.1, hk.2, e⟩
      have q1 : ((rd_T52 l root).f0 != 18) = true := bne_iff_ne.mpr hne
      have k0 := eq_true hk.1
      have k1 := eq_true hk.2
      have x00 := X.1
      clear X hr hno hk q0 hne
      go_enter Try.func13, Try.ntmps13
      go_wp2_with (go_at_call 34; (with_reducible refine (hin _).mono ?_); rintro e w' ⟨rfl, rfl⟩)
      go_ret
      exact ⟨rfl, below_alloc (Below.refl _ _) _⟩
    · have q0 : (decide (0 ≤ root) && decide (root ≤ (l.length : Int) - 1)) = false := by
        rw [← Bool.decide_and]
        exact decide_eq_false (by omega)
      rw [q0] at hin
      clear hr hno hk q0
      go_enter Try.func13, Try.ntmps13
      go_wp2_with (go_at_call 34; (with_reducible refine (hin _).mono ?_); rintro e w' ⟨rfl, rfl⟩)
      go_ret
      exact ⟨rfl, below_alloc (Below.refl _ _) _⟩
  · have b0 : decide (200 < (l.length : Int)) = true := decide_eq_true (by omega)
    have b1 : decide (200 < l.length) = true := decide_eq_true (by omega)
    clear hr hno hn
    go_enter Try.func13, Try.ntmps13
    go_wp2_with fail
    go_ret
    exact ⟨rfl, below_alloc (Below.refl _ _) _⟩
set_option maxHeartbeats 4000000 in
set_option maxRecDepth 100000 in
theorem impl_TreeOK.yes (k : Nat) (A0 : Option Addr) (c0 : Nat) (l : List S52) (root : Int) (w : World) (hr : Kd.C k52 w A0 l.length l) (hn : l.length ≤ 200) (k0 : 0 ≤ root) (k1 : root < (l.length : Int)) (hkind : (rd_T52 l root).f0 = 18)
    (seen : List Bool) (ok r : Bool) (hW : impl_checker_walk.W l root k (List.replicate l.length false) root 1 = some (seen, ok)) (hres : (if ok = true then (slices_Contains_bool_bool.f k seen false).bind fun b => some (!b) else some false) = some r) :
    Calls Try.prog 13 #[.agg #[.slice A0 l.length c0, .int .i64 root]] w fun e w' => e = .returned (.bool r) ∧ Below w.heap.size w w' := by
  have hin := fun w => impl_checker_walk.within root 0 ((l.length : Int) - 1) w
  have q0 : (decide (0 ≤ root) && decide (root ≤ (l.length : Int) - 1)) = true := by rw [decide_eq_true k0, decide_eq_true (by omega)]; rfl
  rw [q0] at hin
  have HR := Lib.hid hr
  obtain ⟨ad, A3, c3, A4, c4, e, X⟩ := at_T52 hr root k0 (by omega)
  subst e
  have x00 := X.1
  rw [hkind] at x00
  have x0 := pw_cell_below (below_alloc (Below.refl _ _) (.cells #[.slice (some ad) l.length c0, .int .i64 root] 29)) x00
  have hm := impl_checker_walk.mixed
  have hmk := impl_TreeOK.make l.length hn
  have hu := Try.underlying29
  have hu2 := Try.underlying55
  have HWK := Lib.hid hW
  have HRES := Lib.hid hres
  replace k0 := eq_true k0
  replace k1 := eq_true k1
  clear X hr hkind hW hres q0
  go_enter Try.func13, Try.ntmps13
  go_upto_region 3 with (go_at_call 34; (with_reducible refine (hin _).mono ?_); rintro e w' ⟨rfl, rfl⟩)
  clear x0 x00 hin
  go_cut [3] from 28 to 33 (fun s3 wx => ∃ g b : Nat, s3 = .pointer (some ⟨g, 0, none⟩) ∧ w.heap.size < g ∧ w.heap.size < b ∧ impl_checker_walk.At g b (some ad) c0 l.length l.length root (List.replicate l.length false) wx ∧ Below w.heap.size w wx ∧ wx.heap[w.heap.size]? = some (.cells #[.slice (some ad) l.length c0, .int .i64 root] 29 (0, 0)))
  case first =>
    go_region_o
    all_goals go_wp2_with fail
    all_goals go_meet
    all_goals
      case rel =>
        first
          | refine ⟨w.heap.size + 1 + 1, w.heap.size + 1, rfl, by omega, by omega, ⟨?_, ?_, by simp⟩, by repeat (first | exact Below.refl _ _ | apply below_alloc | apply below_drew), blk_alloc (blk_alloc (blk_new _ _) _) _⟩
          | refine ⟨w.heap.size + 1, w.heap.size + 1 + 1, rfl, by omega, by omega, ⟨?_, ?_, by simp⟩, by repeat (first | exact Below.refl _ _ | apply below_alloc | apply below_drew), blk_alloc (blk_alloc (blk_new _ _) _) _⟩
        · first
            | (refine Hd.at_alloc _ _ _ ?_; simp only [Hd.size_alloc]; done)
            | (refine blk_alloc (w := World.alloc (World.alloc w _) _) ?_ _; refine Hd.at_alloc _ _ _ ?_; simp only [Hd.size_alloc]; done)
        · first
            | (refine Hd.at_alloc _ _ _ ?_; simp only [Hd.size_alloc]; done)
            | (refine blk_alloc (w := World.alloc (World.alloc w _) _) ?_ _; refine Hd.at_alloc _ _ _ ?_; simp only [Hd.size_alloc]; done)
  case rest =>
    obtain ⟨g, b, rfl, hg, hb, ha, hB, ht⟩ := hcut
    have HG := Lib.hid (And.intro hg hb)
    have HB := Lib.hid hB
    have h1 := blk_cell ht 1
    have hcall := impl_checker_walk.calls w g b (some ad) c0 l.length l root HR.out (by omega) (by omega) hn (Nat.le_refl _) k (List.replicate l.length false) root 1 (seen, ok) wc (by decide) HWK.out hB ha
    have hres := HRES.out
    clear hB ht hg hb hmk ha HRES HWK
    cases ok with
    | false =>
      rw [if_neg (by decide)] at hres
      obtain rfl := Option.some.inj hres
      clear hres
      go_wp2_with (go_at_call 35; (with_reducible refine hcall.mono ?_); rintro e w' ⟨rfl, ha, hm'⟩; have HA := Lib.hid ha; have HM := Lib.hid hm'; clear ha hm')
      go_ret
      exact ⟨rfl, HM.out.below HB.out HB.out.size (by have := HG.out.2; omega) (by have := HG.out.2; omega)⟩
    | true =>
      rw [if_pos rfl] at hres
      obtain ⟨v, hv, hres⟩ := Option.bind_eq_some_iff.1 hres
      obtain rfl := Option.some.inj hres
      have HV := Lib.hid hv
      clear hv hres
      go_wp2_with (first | (go_at_call 35; (with_reducible refine hcall.mono ?_); rintro e w' ⟨rfl, ha, hm'⟩; have HA := Lib.hid ha; have HM := Lib.hid hm'; have h2 := ha.cells.2.2; clear ha hm') | go_at_fn 36)
      have hc := slices_Contains_bool_bool.calls k (some ⟨b, 0, none⟩) l.length seen false v w' (Hd.row_reads HA.out.row (by have := HA.out.len; omega)) (by have := HA.out.len; omega) HV.out
      rw [HA.out.len] at hc
      refine hc.mono ?_
      rintro e w'' ⟨rfl, hd⟩
      have HD := Lib.hid hd
      clear hd hc
      go_wp2_with fail
      go_ret
      exact ⟨rfl, (HM.out.below HB.out HB.out.size (by have := HG.out.2; omega) (by have := HG.out.2; omega)).trans (HD.out.below.mono (HM.out.below HB.out HB.out.size (by have := HG.out.2; omega) (by have := HG.out.2; omega)).size)⟩
theorem impl_TreeOK.calls (k : Nat) (A0_0 : Option Addr) (c0_0 : Nat) (l0_0 : List S52) (a0_1 : Int) (r : Bool) (w : World) (hr0_0 : Kd.C k52 w A0_0 l0_0.length l0_0) (hc0_0 : l0_0.length ≤ c0_0) (h : impl_TreeOK.f k l0_0 a0_1 = some r) :
    Calls Try.prog 13 #[.agg #[.slice A0_0 l0_0.length c0_0, .int .i64 a0_1]] w fun e w' => e = .returned (.bool r) ∧ Below w.heap.size w w' := by
  unfold impl_TreeOK.f at h
  by_cases hc : l0_0.length ≤ 200 ∧ 0 ≤ a0_1 ∧ a0_1 < (l0_0.length : Int) ∧ (rd_T52 l0_0 a0_1).f0 = 18
  · rw [if_pos hc] at h
    obtain ⟨res, h1, h⟩ := Option.bind_eq_some_iff.1 h
    exact impl_TreeOK.yes k A0_0 c0_0 l0_0 a0_1 w hr0_0 hc.1 hc.2.1 hc.2.2.1 hc.2.2.2 res.1 res.2 r h1 h
  · rw [if_neg hc] at h
    obtain rfl := Option.some.inj h
    exact impl_TreeOK.no A0_0 c0_0 l0_0 a0_1 w hr0_0 hc

end Go.Proofs.Ytngcheicabbpoaa.QFnExactFuncsOf
