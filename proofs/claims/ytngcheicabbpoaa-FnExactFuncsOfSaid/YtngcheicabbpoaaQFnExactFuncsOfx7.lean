/- Functions that the law uses, as Lean functions with the same answers, and the walks that show it: by this session's program, after the form of the kit's print. No condition. -/
import Derived.Test.YtngcheicabbpoaaQFnExactFuncsOfx0
import Derived.Test.YtngcheicabbpoaaQFnExactFuncsOfx3
import Derived.Test.YtngcheicabbpoaaQFnExactFuncsOfx4
import Derived.Test.YtngcheicabbpoaaQFnExactFuncsOfx6
namespace Go.Proofs.Ytngcheicabbpoaa.QFnExactFuncsOf
open Go.RowKit Go.Proofs.YtngcheicabbpoaaW.PrintWords Go.Proofs.YtngcheicabbpoaaW.PrintLast Go.Proofs.YtngcheicabbpoaaW.PrintMore
attribute [local go_sem] max2_int min2_int max_two min_two max_three min_three max_four min_four   -- for this text's walks alone
open Go.Proofs.Ytngcheicabbpoaa
attribute [local go_sem high] My.binOp_gtr_flip
set_option linter.unusedVariables false
set_option linter.unusedSimpArgs false

/-! ### spec_l03Look_walk: function 51 -/
open Hd

/-- Where the state lies. -/
structure spec_l03Look_walk.At (g b : Nat) (A0 : Option Addr) (c0 cb : Nat) (n : Nat) (root : Int) (seen : List Bool) (ok : Bool) (most : Int) (w : World) : Prop where
  st : w.heap[g]? = some (.cells #[.slice A0 n c0, .int .i64 root, .slice (some ⟨b, 0, none⟩) n cb, .bool ok, .int .i64 most] 68 (0, 0))
  row : w.heap[b]? = some (.cells (bools seen).toArray 4 (0, 0))
  len : seen.length = n

theorem spec_l03Look_walk.At.below {g b : Nat} {A0 : Option Addr} {c0 cb n : Nat} {root : Int} {seen : List Bool} {ok : Bool} {most : Int} {w w' : World} (h : spec_l03Look_walk.At g b A0 c0 cb n root seen ok most w) (hb : Below w.heap.size w w') : spec_l03Look_walk.At g b A0 c0 cb n root seen ok most w' :=
  ⟨blk_below h.st hb, blk_below h.row hb, h.len⟩
theorem spec_l03Look_walk.At.ne {g b : Nat} {A0 : Option Addr} {c0 cb n : Nat} {root : Int} {seen : List Bool} {ok : Bool} {most : Int} {w : World} (h : spec_l03Look_walk.At g b A0 c0 cb n root seen ok most w) : g ≠ b := blk_ne h.st h.row (by decide)
theorem spec_l03Look_walk.At.cells {g b : Nat} {A0 : Option Addr} {c0 cb n : Nat} {root : Int} {seen : List Bool} {ok : Bool} {most : Int} {w : World} (h : spec_l03Look_walk.At g b A0 c0 cb n root seen ok most w) :
    w.cell? ⟨g, 0, none⟩ = some (.slice A0 n c0) ∧ w.cell? ⟨g, 1, none⟩ = some (.int .i64 root) ∧ w.cell? ⟨g, 2, none⟩ = some (.slice (some ⟨b, 0, none⟩) n cb) ∧ w.cell? ⟨g, 3, none⟩ = some (.bool ok) ∧ w.cell? ⟨g, 4, none⟩ = some (.int .i64 most) :=
  ⟨blk_cell h.st 0, blk_cell h.st 1, blk_cell h.st 2, blk_cell h.st 3, blk_cell h.st 4⟩


theorem spec_l03Look_walk.At.fail {g b : Nat} {A0 : Option Addr} {c0 cb n : Nat} {root : Int} {seen : List Bool} {ok : Bool} {most : Int} {w : World} (h : spec_l03Look_walk.At g b A0 c0 cb n root seen ok most w) : spec_l03Look_walk.At g b A0 c0 cb n root seen false most (w.setCell ⟨g, 3, none⟩ (.bool false)) :=
  ⟨blk_set h.st 3 _, blk_far h.row h.ne.symm _, h.len⟩
theorem spec_l03Look_walk.At.max {g b : Nat} {A0 : Option Addr} {c0 cb n : Nat} {root : Int} {seen : List Bool} {ok : Bool} {most : Int} {w : World} (h : spec_l03Look_walk.At g b A0 c0 cb n root seen ok most w) (m : Int) : spec_l03Look_walk.At g b A0 c0 cb n root seen ok m (w.setCell ⟨g, 4, none⟩ (.int .i64 m)) :=
  ⟨blk_set h.st 4 _, blk_far h.row h.ne.symm _, h.len⟩
theorem spec_l03Look_walk.At.mark {g b : Nat} {A0 : Option Addr} {c0 cb n : Nat} {root : Int} {seen : List Bool} {ok : Bool} {most : Int} {w : World} (h : spec_l03Look_walk.At g b A0 c0 cb n root seen ok most w) (k : Nat) : spec_l03Look_walk.At g b A0 c0 cb n root (seen.set k true) ok most (w.setCell ⟨b, k, none⟩ (.bool true)) :=
  ⟨blk_far h.st h.ne _, row_set h.row k true, by rw [List.length_set]; exact h.len⟩
theorem spec_l03Look_walk.in_calls (a b c : Int) (w : World) : Calls Try.prog 39 #[.int .i64 a, .int .i64 b, .int .i64 c] w fun e w' => e = .returned (.bool (decide (b ≤ a ∧ a ≤ c))) ∧ Below w.heap.size w w' :=
  (spec_l01In.calls a b c (decide (b ≤ a ∧ a ≤ c)) w (by
    unfold spec_l01In.f
    by_cases h1 : b ≤ a <;> simp [h1])).mono fun e w' h => ⟨h.1, h.2.below⟩

set_option maxHeartbeats 2000000 in
set_option maxRecDepth 100000 in
theorem spec_l03Look_walk.walk_no (g b : Nat) (A0 : Option Addr) (c0 cb n : Nat) (root : Int) (seen : List Bool) (most k s d : Int) (w : World) (h : spec_l03Look_walk.At g b A0 c0 cb n root seen false most w) :
    Calls Try.prog 51 #[.pointer (some ⟨g, 0, none⟩), .int .i64 k, .int .i64 s, .int .i64 d] w fun e w' => e = .returned (.tuple #[]) ∧ spec_l03Look_walk.At g b A0 c0 cb n root seen false most w' ∧ Moved g b w w' := by
  obtain ⟨h0, h1, h2, h3, h4⟩ := h.cells
  have f3 := blk_frozen h.st 3
  have H := Lib.hid h
  clear h
  go_enter Try.func51, Try.ntmps51
  go_wp2
  exact end_ret rfl rfl ⟨rfl, H.out.fail, (Moved.refl _ _ _).set _ _ (.inl rfl)⟩

set_option maxHeartbeats 2000000 in
set_option maxRecDepth 100000 in
/-- A place that is none. -/
theorem spec_l03Look_walk.walk_out (g b : Nat) (A0 : Option Addr) (c0 cb n : Nat) (root : Int) (seen : List Bool) (most k s d : Int) (w : World) (h : spec_l03Look_walk.At g b A0 c0 cb n root seen true most w) (hn : n ≤ 200) (hk : ¬ (0 ≤ k ∧ k ≤ (n : Int) - 1)) :
    Calls Try.prog 51 #[.pointer (some ⟨g, 0, none⟩), .int .i64 k, .int .i64 s, .int .i64 d] w fun e w' => e = .returned (.tuple #[]) ∧ spec_l03Look_walk.At g b A0 c0 cb n root seen false most w' ∧ Moved g b w w' := by
  obtain ⟨h0, h1, h2, h3, h4⟩ := h.cells
  have hin := spec_l03Look_walk.in_calls k 0 ((n : Int) - 1) w
  rw [decide_eq_false hk] at hin
  have H := Lib.hid h
  clear h hk
  go_enter Try.func51, Try.ntmps51
  go_wp2_with (go_at_call 39; refine hin.mono ?_; rintro e w' ⟨rfl, hb⟩; have HB := Lib.hid hb; have h3' := blk_cell (H.out.below hb).st 3; have f3' := blk_frozen (H.out.below hb).st 3; clear hb h0 h1 h2 h3 h4)
  exact end_ret rfl rfl ⟨rfl, (H.out.below HB.out).fail, (Moved.of_below HB.out).set _ _ (.inl rfl)⟩

set_option maxHeartbeats 2000000 in
set_option maxRecDepth 100000 in
/-- A place that was seen, or lies too deep. -/
theorem spec_l03Look_walk.walk_seen (g b : Nat) (A0 : Option Addr) (c0 cb n : Nat) (root : Int) (seen : List Bool) (most k s d : Int) (w : World) (h : spec_l03Look_walk.At g b A0 c0 cb n root seen true most w) (hn : n ≤ 200) (hcb : n ≤ cb) (k0 : 0 ≤ k) (k1 : k < (n : Int)) (hs : rdOf false seen k = true ∨ 200 < d) :
    Calls Try.prog 51 #[.pointer (some ⟨g, 0, none⟩), .int .i64 k, .int .i64 s, .int .i64 d] w fun e w' => e = .returned (.tuple #[]) ∧ spec_l03Look_walk.At g b A0 c0 cb n root seen false most w' ∧ Moved g b w w' := by
  obtain ⟨h0, h1, h2, h3, h4⟩ := h.cells
  have hin := spec_l03Look_walk.in_calls k 0 ((n : Int) - 1) w
  rw [decide_eq_true (by omega)] at hin
  have H := Lib.hid h
  have hl := h.len
  have hrow : ∀ w', Below w.heap.size w w' → w'.cell? ⟨b, k.toNat, none⟩ = some (.bool (rdOf false seen k)) := fun w' hb => row_cell (H.out.below hb).row k (by omega)
  clear h
  have b0 : decide (0 ≤ k) = true := decide_eq_true k0
  have b1 : decide (k < (n : Int)) = true := decide_eq_true k1
  have HL := Lib.hid hl
  clear hl
  cases hq : rdOf false seen k with
  | true =>
    rw [hq] at hrow
    clear hs hq
    go_enter Try.func51, Try.ntmps51
    go_wp2_with (go_at_call 39; refine hin.mono ?_; rintro e w' ⟨rfl, hb⟩; have HB := Lib.hid hb; have hrow' := hrow _ hb; have h2' := blk_cell (H.out.below hb).st 2; have h3' := blk_cell (H.out.below hb).st 3; have f3' := blk_frozen (H.out.below hb).st 3; clear hb h0 h1 h2 h3 h4)
    exact end_ret rfl rfl ⟨rfl, (H.out.below HB.out).fail, (Moved.of_below HB.out).set _ _ (.inl rfl)⟩
  | false =>
    rw [hq] at hrow hs
    have hd : 200 < d := by rcases hs with h | h; cases h; exact h
    have b2 : decide (200 < d) = true := decide_eq_true hd
    clear hs hq
    go_enter Try.func51, Try.ntmps51
    go_wp2_with (go_at_call 39; refine hin.mono ?_; rintro e w' ⟨rfl, hb⟩; have HB := Lib.hid hb; have hrow' := hrow _ hb; have h2' := blk_cell (H.out.below hb).st 2; have h3' := blk_cell (H.out.below hb).st 3; have f3' := blk_frozen (H.out.below hb).st 3; clear hb h0 h1 h2 h3 h4)
    exact end_ret rfl rfl ⟨rfl, (H.out.below HB.out).fail, (Moved.of_below HB.out).set _ _ (.inl rfl)⟩
theorem spec_l03Look_walk.expr_calls (a : Int) (w : World) : Calls Try.prog 65 #[.int .i64 a] w fun e w' => e = .returned (.bool (decide (1 ≤ a ∧ a ≤ 10))) ∧ Below w.heap.size w w' :=
  (spec_l03Expr.calls a (decide (1 ≤ a ∧ a ≤ 10)) w (by
    unfold spec_l03Expr.f spec_l01In.f
    by_cases h1 : 1 ≤ a <;> simp [h1])).mono fun e w' h => ⟨h.1, h.2.below⟩
theorem spec_l03Look_walk.state_calls (a : Int) (w : World) : Calls Try.prog 66 #[.int .i64 a] w fun e w' => e = .returned (.bool (decide (11 ≤ a ∧ a ≤ 19))) ∧ Below w.heap.size w w' :=
  (spec_l03State.calls a (decide (11 ≤ a ∧ a ≤ 19)) w (by
    unfold spec_l03State.f spec_l01In.f
    by_cases h1 : 11 ≤ a <;> simp [h1])).mono fun e w' h => ⟨h.1, h.2.below⟩


theorem spec_l03Look_walk.pw_cell_below_ {w w1 : World} (h : Below w.heap.size w w1) {a : Addr} {v : Value} (hc : w.cell? a = some v) : w1.cell? a = some v := (h.cell (World.block_lt_of_cell? w a hc)).trans hc
def spec_l03Look_walk.box (x : S52) (A3 : Option Addr) (c3 : Nat) (A4 : Option Addr) (c4 : Nat) : Obj := .cells #[.int .i64 x.f0, .int .i64 x.f1, .string x.f2, .slice A3 x.f3.length c3, .slice A4 x.f4.length c4] 52 (0, 0)
theorem spec_l03Look_walk.box_cells {x : S52} {A3 A4 : Option Addr} {c3 c4 g4 : Nat} {w : World} (h : w.heap[g4]? = some (spec_l03Look_walk.box x A3 c3 A4 c4)) :
    w.cell? ⟨g4, 0, none⟩ = some (.int .i64 x.f0) ∧ w.cell? ⟨g4, 1, none⟩ = some (.int .i64 x.f1) ∧ w.cell? ⟨g4, 2, none⟩ = some (.string x.f2) ∧ w.cell? ⟨g4, 3, none⟩ = some (.slice A3 x.f3.length c3) ∧ w.cell? ⟨g4, 4, none⟩ = some (.slice A4 x.f4.length c4) :=
  ⟨blk_cell h 0, blk_cell h 1, blk_cell h 2, blk_cell h 3, blk_cell h 4⟩
/-- Is a node of the sort. -/
def spec_l03Look_walk.rightB (a s : Int) : Bool := (s == 1 && decide (1 ≤ a ∧ a ≤ 10)) || (s == 2 && a == 18) || (s == 3 && decide (11 ≤ a ∧ a ≤ 19)) || (s == 4 && (decide (11 ≤ a ∧ a ≤ 19) || a == 20))

/-- The kids of a node with their sorts. -/
def spec_l03Look_walk.kidsOf (top : Bool) (sorts kids : List Int) : List (Int × Int) := kids.zip (sorts.map fun s => if top = true ∧ s = 3 then 4 else s)
/-- The walk: what is seen, is all right, how deep it is. -/
def spec_l03Look_walk.SW (l : List S52) (root : Int) : Nat → List Bool × Bool × Int → Int → Int → Int → Option (List Bool × Bool × Int)
  | 0, _, _, _, _ => none
  | r + 1, st, k, s, d =>
    if st.2.1 = true ∧ 0 ≤ k ∧ k < (l.length : Int) ∧ rdOf false st.1 k = false ∧ d ≤ 200 then
      (spec_l03Kids.f r (rd_T52 l k).f0 (rd_T52 l k).f1 (rd_T52 l k).f2 (rd_T52 l k).f3 (rd_T52 l k).f4).bind fun sorts =>
        (spec_l03Node.f r (rd_T52 l k).f0 (rd_T52 l k).f1 (rd_T52 l k).f2 (rd_T52 l k).f3 (rd_T52 l k).f4).bind fun q =>
          if spec_l03Look_walk.rightB (rd_T52 l k).f0 s = true ∧ q = true ∧ sorts.length = (rd_T52 l k).f4.length then
            Tw.fold (fun st k s => spec_l03Look_walk.SW l root r st k s (d + 1)) (spec_l03Look_walk.kidsOf (k == root) sorts (rd_T52 l k).f4) (st.1.set k.toNat true, true, max st.2.2 d)
          else some (st.1.set k.toNat true, false, max st.2.2 d)
    else some (st.1, false, st.2.2)

theorem spec_l03Look_walk.kidsOf_drop (top : Bool) (sorts kids : List Int) (x : Nat) (hl : sorts.length = kids.length) (hx : x < sorts.length) :
    (spec_l03Look_walk.kidsOf top sorts kids).drop x = (rd kids (x : Int), if top = true ∧ rd sorts (x : Int) = 3 then 4 else rd sorts (x : Int)) :: (spec_l03Look_walk.kidsOf top sorts kids).drop (x + 1) := by
  have h1 : x < (spec_l03Look_walk.kidsOf top sorts kids).length := by unfold spec_l03Look_walk.kidsOf; rw [List.length_zip, List.length_map]; omega
  rw [List.drop_eq_getElem_cons h1]
  congr 1
  have h2 : (spec_l03Look_walk.kidsOf top sorts kids)[x]? = some (spec_l03Look_walk.kidsOf top sorts kids)[x] := List.getElem?_eq_getElem h1
  generalize (spec_l03Look_walk.kidsOf top sorts kids)[x] = v at h2
  unfold spec_l03Look_walk.kidsOf at h2
  rw [List.getElem?_zip_eq_some] at h2
  obtain ⟨e1, e2⟩ := h2
  rw [List.getElem?_map, List.getElem?_eq_getElem hx] at e2
  unfold rd
  rw [Int.toNat_natCast, List.getD_eq_getElem?_getD, List.getD_eq_getElem?_getD, e1, List.getElem?_eq_getElem hx]
  have e3 := Option.some.inj e2
  exact Prod.ext rfl e3.symm
theorem spec_l03Look_walk.kidsOf_end (top : Bool) (sorts kids : List Int) (x : Nat) (hx : sorts.length ≤ x) : (spec_l03Look_walk.kidsOf top sorts kids).drop x = [] := by
  rw [List.drop_eq_nil_iff]
  unfold spec_l03Look_walk.kidsOf
  rw [List.length_zip, List.length_map]
  omega

set_option maxHeartbeats 4000000 in
set_option maxRecDepth 100000 in
theorem spec_l03Look_walk.walk_in (w0 : World) (g b : Nat) (A0 : Option Addr) (c0 cb : Nat) (l : List S52) (root : Int) (seen : List Bool) (most k s d : Int) (w : World) (hr : Kd.C k52 w0 A0 l.length l) (hg : w0.heap.size ≤ g) (hb0 : w0.heap.size ≤ b) (hw : Below w0.heap.size w0 w)
    (h : spec_l03Look_walk.At g b A0 c0 cb l.length root seen true most w) (hn : l.length ≤ 200) (hcb : l.length ≤ cb) (k0 : 0 ≤ k) (k1 : k < (l.length : Int)) (hs : rdOf false seen k = false) (hd : d ≤ 200) (hd0 : 0 ≤ d)
    (r : Nat) (sorts : List Int) (q : Bool) (hsorts : spec_l03Kids.f r (rd_T52 l k).f0 (rd_T52 l k).f1 (rd_T52 l k).f2 (rd_T52 l k).f3 (rd_T52 l k).f4 = some sorts) (hq : spec_l03Node.f r (rd_T52 l k).f0 (rd_T52 l k).f1 (rd_T52 l k).f2 (rd_T52 l k).f3 (rd_T52 l k).f4 = some q)
    (res : List Bool × Bool × Int) (hres : (if spec_l03Look_walk.rightB (rd_T52 l k).f0 s = true ∧ q = true ∧ sorts.length = (rd_T52 l k).f4.length then
            Tw.fold (fun st k s => spec_l03Look_walk.SW l root r st k s (d + 1)) (spec_l03Look_walk.kidsOf (k == root) sorts (rd_T52 l k).f4) (seen.set k.toNat true, true, max most d)
          else some (seen.set k.toNat true, false, max most d)) = some res)
    (ih : ∀ (st : List Bool × Bool × Int) (k s : Int) (res : List Bool × Bool × Int) (w : World), spec_l03Look_walk.SW l root r st k s (d + 1) = some res → Below w0.heap.size w0 w → spec_l03Look_walk.At g b A0 c0 cb l.length root st.1 st.2.1 st.2.2 w →
      Calls Try.prog 51 #[.pointer (some ⟨g, 0, none⟩), .int .i64 k, .int .i64 s, .int .i64 (d + 1)] w fun e w' => e = .returned (.tuple #[]) ∧ spec_l03Look_walk.At g b A0 c0 cb l.length root res.1 res.2.1 res.2.2 w' ∧ Moved g b w w') :
    Calls Try.prog 51 #[.pointer (some ⟨g, 0, none⟩), .int .i64 k, .int .i64 s, .int .i64 d] w fun e w' => e = .returned (.tuple #[]) ∧ spec_l03Look_walk.At g b A0 c0 cb l.length root res.1 res.2.1 res.2.2 w' ∧ Moved g b w w' := by
  have IH := Lib.hid ih
  have HSORTS := Lib.hid hsorts
  have HQ := Lib.hid hq
  have HRES := Lib.hid hres
  clear ih hsorts hq hres
  obtain ⟨h0, h1, h2, h3, h4⟩ := h.cells
  have hin := spec_l03Look_walk.in_calls k 0 ((l.length : Int) - 1) w
  rw [decide_eq_true (by omega)] at hin
  have H := Lib.hid h
  have hl := h.len
  have hrow : ∀ w', Below w.heap.size w w' → w'.cell? ⟨b, k.toNat, none⟩ = some (.bool false) := fun w' hb => by rw [row_cell (H.out.below hb).row k (by omega), hs]
  have b0 : decide (0 ≤ k) = true := decide_eq_true k0
  have b1 : decide (k < (l.length : Int)) = true := decide_eq_true k1
  have b2 : decide (200 < d) = false := decide_eq_false (by omega)
  obtain ⟨ad, A3, c3, A4, c4, e, X⟩ := at_T52 hr k k0 (by omega)
  subst e
  have HX := Lib.hid X
  have HG := Lib.hid (And.intro hg hb0)
  have HW := Lib.hid hw
  have HL := Lib.hid hl
  have HK := Lib.hid (And.intro k0 k1)
  have HD := Lib.hid (And.intro hd0 hd)
  have hcb' : k.toNat < cb := by omega
  clear hl hs h hg hb0 hw hd hd0 hr k0 k1 X
  go_enter Try.func51, Try.ntmps51
  go_upto_region 2 with (go_at_call 39; (with_reducible refine hin.mono ?_); rintro e w' ⟨rfl, hb⟩; have HB := Lib.hid hb; have hrow' := hrow _ hb; have h2' := blk_cell (H.out.below hb).st 2; have h3' := blk_cell (H.out.below hb).st 3; clear hb h0 h1 h2 h3 h4)
  clear hrow hrow' hin
  go_cut [] from 43 to 51 (fun wx => spec_l03Look_walk.At g b (some ad) c0 cb l.length root (seen.set k.toNat true) true most wx ∧ Moved g b w wx)
  case first =>
    have f2' := blk_frozen (H.out.below HB.out).row k.toNat
    have hrow' := row_cell (H.out.below HB.out).row k (by have := HL.out; have := HK.out; omega)
    go_wp2_with fail
    go_meet
    case rel => exact ⟨(H.out.below HB.out).mark _, (Moved.of_below HB.out).set _ _ (.inr (.inl rfl))⟩
  clear h2' h3' HB H b2
  case rest =>
    obtain ⟨h, hm⟩ := hcut
    have H := Lib.hid h
    have HM := Lib.hid hm
    obtain ⟨h0, h1, h2, h3, h4⟩ := h.cells
    have f4 := blk_frozen h.st 4
    clear h hm
    go_upto_region 3 with fail
    go_cut [] from 52 to 60 (fun wx => spec_l03Look_walk.At g b (some ad) c0 cb l.length root (seen.set k.toNat true) true (max most d) wx ∧ Moved g b w wx)
    case first =>
      go_wp2_with fail
      all_goals go_meet
      all_goals
        case rel =>
          first
            | exact ⟨H.out.max _, HM.out.set _ _ (.inl rfl)⟩
            | (have e_ : max most d = d := by rw [Int.max_def]; split <;> omega
               exact ⟨by rw [e_]; exact H.out.max _, HM.out.set _ _ (.inl rfl)⟩)
            | (have e_ : max most d = most := by rw [Int.max_def]; split <;> omega
               exact ⟨by rw [e_]; exact H.out.max _, HM.out.set _ _ (.inl rfl)⟩)
    clear h0 h1 h2 h3 h4 f4 H HM
    case rest =>
      obtain ⟨h, hm⟩ := hcut
      have H := Lib.hid h
      have HM := Lib.hid hm
      have h0 := h.cells.1
      have HB := Lib.hid (hm.below HW.out HW.out.size HG.out.1 HG.out.2)
      clear h hm
      go_upto_region 4 with fail
      go_cut [8] from 61 to 68 (fun s8 wx => ∃ g4 : Nat, s8 = .pointer (some ⟨g4, 0, none⟩) ∧ w.heap.size ≤ g4 ∧ wx.heap[g4]? = some (spec_l03Look_walk.box (rd_T52 l k) A3 c3 A4 c4) ∧ spec_l03Look_walk.At g b (some ad) c0 cb l.length root (seen.set k.toNat true) true (max most d) wx ∧ Moved g b w wx)
      case first =>
        obtain ⟨x0, x1, x2, x3, x4, _⟩ := HX.out
        replace x0 := spec_l03Look_walk.pw_cell_below_ HB.out x0
        replace x1 := spec_l03Look_walk.pw_cell_below_ HB.out x1
        replace x2 := spec_l03Look_walk.pw_cell_below_ HB.out x2
        replace x3 := spec_l03Look_walk.pw_cell_below_ HB.out x3
        replace x4 := spec_l03Look_walk.pw_cell_below_ HB.out x4
        have hu := Try.underlying52
        go_wp2_with fail
        go_meet
        case rel => exact ⟨_, rfl, HM.out.size, blk_new _ _, H.out.below (below_alloc (Below.refl _ _) _), HM.out.alloc _⟩
      clear h0 H HM HB
      case rest =>
        obtain ⟨g4, rfl, hg4, hbox, h, hm⟩ := hcut
        have H := Lib.hid h
        have HM := Lib.hid hm
        have HO := Lib.hid hbox
        have HG4 := Lib.hid hg4
        clear h hm hg4 hbox
        go_upto_region 5 with fail
        go_cut [9] from 69 to 107 (fun s9 wx => s9 = .bool (spec_l03Look_walk.rightB (rd_T52 l k).f0 s) ∧ Below wc.heap.size wc wx)
        case first =>
          have hbox := HO.out
          have h0 := (spec_l03Look_walk.box_cells hbox).1
          have hz : ∀ w', Below wc.heap.size wc w' → w'.cell? ⟨g4, 0, none⟩ = some (.int .i64 (rd_T52 l k).f0) := fun w' hb => blk_cell (blk_below hbox hb) 0
          clear hbox HO
          clear H HM HX HG HW HL HK HG4 hn hcb b0 b1 hcb' IH HSORTS HQ HRES
          generalize (rd_T52 l k).f0 = a at *
          by_cases s1 : s = 1
          · subst s1
            have hc := spec_l03Look_walk.expr_calls a wc
            cases hq : decide (1 ≤ a ∧ a ≤ 10) with
            | true =>
              rw [hq] at hc
              have e9 := Lib.hid (show true = spec_l03Look_walk.rightB a 1 by unfold spec_l03Look_walk.rightB; rw [hq]; rfl)
              clear hq hz
              go_wp2_with (go_at_call 65; (with_reducible refine hc.mono ?_); rintro e w' ⟨rfl, hb⟩; have HB := Lib.hid hb; clear hb)
              go_meet
              case rel => exact ⟨by rw [← e9.out], HB.out⟩
            | false =>
              rw [hq] at hc
              have e9 := Lib.hid (show false = spec_l03Look_walk.rightB a 1 by unfold spec_l03Look_walk.rightB; rw [hq]; rfl)
              clear hq hz
              go_wp2_with (go_at_call 65; (with_reducible refine hc.mono ?_); rintro e w' ⟨rfl, hb⟩; have HB := Lib.hid hb; clear hb)
              go_meet
              case rel => exact ⟨by rw [← e9.out], HB.out⟩
          by_cases s2 : s = 2
          · subst s2
            clear hz s1
            cases hq : (a == 18) with
            | true =>
              have e9 := Lib.hid (show true = spec_l03Look_walk.rightB a 2 by unfold spec_l03Look_walk.rightB; rw [hq]; rfl)
              go_wp2_with fail
              go_meet
              case rel => exact ⟨by rw [← e9.out], Below.refl _ _⟩
            | false =>
              have e9 := Lib.hid (show false = spec_l03Look_walk.rightB a 2 by unfold spec_l03Look_walk.rightB; rw [hq]; rfl)
              go_wp2_with fail
              go_meet
              case rel => exact ⟨by rw [← e9.out], Below.refl _ _⟩
          by_cases s3 : s = 3
          · subst s3
            clear hz s1 s2
            have hc := spec_l03Look_walk.state_calls a wc
            cases hq : decide (11 ≤ a ∧ a ≤ 19) with
            | true =>
              rw [hq] at hc
              have e9 := Lib.hid (show true = spec_l03Look_walk.rightB a 3 by unfold spec_l03Look_walk.rightB; rw [hq]; rfl)
              clear hq
              go_wp2_with (go_at_call 66; (with_reducible refine hc.mono ?_); rintro e w' ⟨rfl, hb⟩; have HB := Lib.hid hb; clear hb)
              go_meet
              case rel => exact ⟨by rw [← e9.out], HB.out⟩
            | false =>
              rw [hq] at hc
              have e9 := Lib.hid (show false = spec_l03Look_walk.rightB a 3 by unfold spec_l03Look_walk.rightB; rw [hq]; rfl)
              clear hq
              go_wp2_with (go_at_call 66; (with_reducible refine hc.mono ?_); rintro e w' ⟨rfl, hb⟩; have HB := Lib.hid hb; clear hb)
              go_meet
              case rel => exact ⟨by rw [← e9.out], HB.out⟩
          by_cases s4 : s = 4
          · subst s4
            clear s1 s2 s3
            have hc := spec_l03Look_walk.state_calls a wc
            cases hq : decide (11 ≤ a ∧ a ≤ 19) with
            | true =>
              rw [hq] at hc
              have e9 := Lib.hid (show true = spec_l03Look_walk.rightB a 4 by unfold spec_l03Look_walk.rightB; rw [hq]; rfl)
              clear hq
              go_wp2_with (go_at_call 66; (with_reducible refine hc.mono ?_); rintro e w' ⟨rfl, hb⟩; have HB := Lib.hid hb; have hz' := hz _ hb; clear hb)
              go_meet
              case rel => exact ⟨by rw [← e9.out], HB.out⟩
            | false =>
              rw [hq] at hc
              cases hq2 : (a == 20) with
              | true =>
                have e9 := Lib.hid (show true = spec_l03Look_walk.rightB a 4 by unfold spec_l03Look_walk.rightB; rw [hq, hq2]; rfl)
                clear hq
                go_wp2_with (go_at_call 66; (with_reducible refine hc.mono ?_); rintro e w' ⟨rfl, hb⟩; have HB := Lib.hid hb; have hz' := hz _ hb; clear hb)
                go_meet
                case rel => exact ⟨by rw [← e9.out], HB.out⟩
              | false =>
                have e9 := Lib.hid (show false = spec_l03Look_walk.rightB a 4 by unfold spec_l03Look_walk.rightB; rw [hq, hq2]; rfl)
                clear hq
                go_wp2_with (go_at_call 66; (with_reducible refine hc.mono ?_); rintro e w' ⟨rfl, hb⟩; have HB := Lib.hid hb; have hz' := hz _ hb; clear hb)
                go_meet
                case rel => exact ⟨by rw [← e9.out], HB.out⟩
          have e9 := Lib.hid (show false = spec_l03Look_walk.rightB a s by unfold spec_l03Look_walk.rightB; simp [s1, s2, s3, s4])
          have q1 : (s == 1) = false := beq_eq_false_iff_ne.mpr s1
          have q2 : (s == 2) = false := beq_eq_false_iff_ne.mpr s2
          have q3 : (s == 3) = false := beq_eq_false_iff_ne.mpr s3
          have q4 : (s == 4) = false := beq_eq_false_iff_ne.mpr s4
          clear s1 s2 s3 s4 hz
          go_wp2_with fail
          go_meet
          case rel => exact ⟨by rw [← e9.out], Below.refl _ _⟩
        case rest =>
          obtain ⟨rfl, hb⟩ := hcut
          rename_i wp
          have H' := Lib.hid (H.out.below hb)
          have HM' := Lib.hid (HM.out.step hb)
          have hbox := blk_below HO.out hb
          have HO' := Lib.hid hbox
          have HB' := Lib.hid (HM'.out.below HW.out HW.out.size HG.out.1 HG.out.2)
          obtain ⟨x0, x1, x2, x3, x4⟩ := spec_l03Look_walk.box_cells hbox
          clear H HM HO hb hbox
          have hu := Try.underlying52
          have HR3 := Lib.hid (show (rd_T52 l k).f3.length ≤ c3 ∧ Kd.string.C w0 A3 (rd_T52 l k).f3.length (rd_T52 l k).f3 from ⟨HX.out.2.2.2.2.2.1, HX.out.2.2.2.2.2.2.1⟩)
          have HR4 := Lib.hid (show (rd_T52 l k).f4.length ≤ c4 ∧ (Kd.int .i64).C w0 A4 (rd_T52 l k).f4.length (rd_T52 l k).f4 from ⟨HX.out.2.2.2.2.2.2.2.1, HX.out.2.2.2.2.2.2.2.2⟩)
          go_upto_region 6 with fail
          go_cut [10] from 108 to 109 (fun s10 wx => ∃ A c, s10 = .slice A sorts.length c ∧ (Kd.int .i64).R 3 wx 0 (fun k => k ≠ g ∧ k ≠ b ∧ k ≠ g4) (.slice A sorts.length c) sorts ∧ spec_l03Look_walk.At g b (some ad) c0 cb l.length root (seen.set k.toNat true) true (max most d) wx ∧ Moved g b w wx ∧ wx.heap[g4]? = some (spec_l03Look_walk.box (rd_T52 l k) A3 c3 A4 c4) ∧ Below w0.heap.size w0 wx)
          case first =>
            have hc := spec_l03Kids.calls r _ _ _ A3 c3 _ A4 c4 _ _ wc (Kd.C_below HR3.out.2 HB'.out) HR3.out.1 (Kd.C_below HR4.out.2 HB'.out) HR4.out.1 HSORTS.out
            go_wp2_with (go_at_call 67; (with_reducible refine hc.mono ?_); rintro e w' ⟨v, rfl, hv, hb⟩; have HV := Lib.hid hv; have HB := Lib.hid hb; clear hb hv)
            obtain ⟨A, c, rfl⟩ := Kd.R_slice HV.out
            go_meet
            case rel =>
              refine ⟨A, c, rfl, Kd.R_lower (Kd.R_mono (Kd.R_bound HV.out) (fun k hk => ?_)) (Nat.zero_le _), H'.out.below HB.out, HM'.out.step HB.out, blk_below HO'.out HB.out, HB'.out.trans (HB.out.mono HB'.out.size)⟩
              have e1 := blk_lt H'.out.st
              have e2 := blk_lt H'.out.row
              have e3 := blk_lt HO'.out
              have := hk.2.1
              exact ⟨by omega, by omega, by omega⟩
          case rest =>
            clear H' HM' HO' HB'
            obtain ⟨A, c, rfl, hv, ha, hm, hbox, hB⟩ := hcut
            have HV := Lib.hid hv
            have H := Lib.hid ha
            have HM := Lib.hid hm
            have HO := Lib.hid hbox
            have HB := Lib.hid hB
            clear hv ha hm hB
            clear x0 x1 x2 x3 x4
            obtain ⟨x0, x1, x2, x3, x4⟩ := spec_l03Look_walk.box_cells hbox
            clear hbox
            by_cases hc : spec_l03Look_walk.rightB (rd_T52 l k).f0 s = true ∧ q = true ∧ sorts.length = (rd_T52 l k).f4.length
            case neg =>
              have e := HRES.out
              rw [if_neg hc] at e
              obtain rfl := Option.some.inj e
              clear e HRES
              have h3 := H.out.cells.2.2.2.1
              have f3 := blk_frozen H.out.st 3
              cases h9 : spec_l03Look_walk.rightB (rd_T52 l k).f0 s with
              | false =>
                clear hc
                have H9 := Lib.hid h9
                clear h9
                go_wp2_with fail
                exact end_ret rfl rfl ⟨rfl, H.out.fail, HM.out.set _ _ (.inl rfl)⟩
              | true =>
                have hn := spec_l03Node.calls r _ _ _ A3 c3 _ A4 c4 _ q wc (Kd.C_below HR3.out.2 HB.out) HR3.out.1 (Kd.C_below HR4.out.2 HB.out) HR4.out.1 HQ.out
                have hat : ∀ w', Below wc.heap.size wc w' → w'.cell? ⟨g, 3, none⟩ = some (.bool true) ∧ w'.frozen? ⟨g, 3, none⟩ = false ∧ w'.cell? ⟨g4, 4, none⟩ = some (.slice A4 (rd_T52 l k).f4.length c4) := fun w' hb => ⟨(H.out.below hb).cells.2.2.2.1, blk_frozen (H.out.below hb).st 3, (spec_l03Look_walk.box_cells (blk_below HO.out hb)).2.2.2.2⟩
                cases hq2 : q with
                | false =>
                  rw [hq2] at hn
                  clear hc
                  have H9 := Lib.hid (And.intro h9 hq2)
                  clear h9 hq2
                  go_wp2_with (go_at_call 68; (with_reducible refine hn.mono ?_); rintro e w' ⟨rfl, hb⟩; have HB' := Lib.hid hb; obtain ⟨h3', f3', x4'⟩ := hat _ hb; clear hb)
                  exact end_ret rfl rfl ⟨rfl, (H.out.below HB'.out).fail, (HM.out.step HB'.out).set _ _ (.inl rfl)⟩
                | true =>
                  rw [hq2] at hn
                  have hl : sorts.length ≠ (rd_T52 l k).f4.length := fun e => hc ⟨h9, hq2, e⟩
                  have bl : ((sorts.length : Int) != ((rd_T52 l k).f4.length : Int)) = true := bne_iff_ne.mpr (by omega)
                  have bl' : (sorts.length != (rd_T52 l k).f4.length) = true := bne_iff_ne.mpr hl
                  clear hc hl
                  have H9 := Lib.hid (And.intro h9 hq2)
                  clear h9 hq2
                  go_wp2_with (go_at_call 68; (with_reducible refine hn.mono ?_); rintro e w' ⟨rfl, hb⟩; have HB' := Lib.hid hb; obtain ⟨h3', f3', x4'⟩ := hat _ hb; clear hb)
                  exact end_ret rfl rfl ⟨rfl, (H.out.below HB'.out).fail, (HM.out.step HB'.out).set _ _ (.inl rfl)⟩
            case pos =>
              obtain ⟨h9, hq2, hlen⟩ := hc
              have e := HRES.out
              rw [if_pos ⟨h9, hq2, hlen⟩] at e
              have HF := Lib.hid e
              clear e HRES
              have hn := spec_l03Node.calls r _ _ _ A3 c3 _ A4 c4 _ q wc (Kd.C_below HR3.out.2 HB.out) HR3.out.1 (Kd.C_below HR4.out.2 HB.out) HR4.out.1 HQ.out
              rw [hq2] at hn
              have hat : ∀ w', Below wc.heap.size wc w' → w'.cell? ⟨g4, 4, none⟩ = some (.slice A4 (rd_T52 l k).f4.length c4) := fun w' hb => (spec_l03Look_walk.box_cells (blk_below HO.out hb)).2.2.2.2
              have bl : ((sorts.length : Int) != ((rd_T52 l k).f4.length : Int)) = false := by rw [hlen]; exact bne_self_eq_false _
              have bl' : (sorts.length != (rd_T52 l k).f4.length) = false := by rw [hlen]; exact bne_self_eq_false _
              have HLEN := Lib.hid hlen
              have H9 := Lib.hid h9
              clear hlen hq2
              go_upto_region 9 with (go_at_call 68; (with_reducible refine hn.mono ?_); rintro e w' ⟨rfl, hb⟩; have HB' := Lib.hid hb; have x4' := hat _ hb; clear hb)
              clear bl bl' x4' hat hn b0 b1 hcb x0 x1 x2 x3 x4
              obtain ⟨top, htop⟩ : ∃ t, t = (k == root) := ⟨_, rfl⟩
              have HF := Lib.hid (show Tw.fold (fun st k s => spec_l03Look_walk.SW l root r st k s (d + 1)) (spec_l03Look_walk.kidsOf top sorts (rd_T52 l k).f4) (seen.set k.toNat true, true, max most d) = some res by rw [htop]; exact HF.out)
              have HTOP := Lib.hid htop
              clear htop
              go_wp2_with fail
              go_loopw [11, 12] (fun i _ wr => ∃ (x : Nat) (st : List Bool × Bool × Int), x ≤ sorts.length ∧ i = .int .i64 x ∧ Aside0 (Tw.fold (fun st k s => spec_l03Look_walk.SW l root r st k s (d + 1)) ((spec_l03Look_walk.kidsOf top sorts (rd_T52 l k).f4).drop x) st = some res) ∧ Aside0 (spec_l03Look_walk.At g b (some ad) c0 cb l.length root st.1 st.2.1 st.2.2 wr) ∧ Aside0 (Moved g b w wr) ∧ Aside0 (wr.heap[g4]? = some (spec_l03Look_walk.box (rd_T52 l k) A3 c3 A4 c4)) ∧ Aside0 ((Kd.int .i64).R 3 wr 0 (fun k => k ≠ g ∧ k ≠ b ∧ k ≠ g4) (.slice A sorts.length c) sorts)) (fun i _ _ => sorts.length - (intOf i).toNat)
              case atStart => exact ⟨0, _, Nat.zero_le _, rfl, ⟨HF.out⟩, ⟨H.out.below HB'.out⟩, ⟨HM.out.step HB'.out⟩, ⟨blk_below HO.out HB'.out⟩, ⟨Kd.R_below HV.out HB'.out⟩⟩
              clear H HM HO HV HB HB' HF
              case round =>
                obtain ⟨x, st, hx, rfl, AF, AA, AM, AO, AR⟩ := hrel
                have HBr := Lib.hid (AM.out.below HW.out HW.out.size HG.out.1 HG.out.2)
                by_cases hlt : x < sorts.length
                · have hf := AF.out
                  rw [spec_l03Look_walk.kidsOf_drop _ _ _ _ HLEN.out hlt] at hf
                  obtain ⟨st', h1, h2⟩ := Tw.fold_some hf
                  obtain ⟨A', c', ev, hc', hcs⟩ := Kd.R_reads AR.out
                  cases ev
                  obtain ⟨aS, e, hs⟩ := Kd.at_int hcs (x : Int) (by omega) (by omega)
                  cases e
                  obtain ⟨aK, e, hk⟩ := Kd.at_int (Kd.C_below HR4.out.2 HBr.out) (x : Int) (by omega) (by have := HLEN.out; omega)
                  cases e
                  obtain ⟨x0, x1, x2, x3, x4⟩ := spec_l03Look_walk.box_cells AO.out
                  have h1' := AA.out.cells.2.1
                  rw [Int.toNat_natCast] at hs hk
                  have b1 : decide (x < sorts.length) = true := decide_eq_true hlt
                  have b2 : decide ((x : Int) < (sorts.length : Int)) = true := decide_eq_true (by omega)
                  have b3 : x < (rd_T52 l k).f4.length := by have := HLEN.out; omega
                  have hd0 := HD.out.1
                  have hd1 := HD.out.2
                  have hcc : x < c := by omega
                  have hc4 : x < c4 := by have := HR4.out.1; omega
                  have HH2 := Lib.hid h2
                  have HLT := Lib.hid hlt
                  have HX1 := Lib.hid (show wrap64 ((x : Int) + 1) = ((x + 1 : Nat) : Int) by have := hcs.2.1; unfold wrap64; omega)
                  have hkr := HTOP.out.symm
                  clear HTOP
                  have ih := IH.out st (rd (rd_T52 l k).f4 (x : Int)) (if top = true ∧ rd sorts (x : Int) = 3 then 4 else rd sorts (x : Int)) st' wr h1 HBr.out AA.out
                  clear hf h1 h2 hcs hc'
                  have fin : ∀ w', spec_l03Look_walk.At g b (some ad) c0 cb l.length root st'.1 st'.2.1 st'.2.2 w' → Moved g b wr w' → Hid (spec_l03Look_walk.At g b (some ad) c0 cb l.length root st'.1 st'.2.1 st'.2.2 w' ∧ Moved g b w w' ∧ w'.heap[g4]? = some (spec_l03Look_walk.box (rd_T52 l k) A3 c3 (some aK) c4) ∧ (Kd.int .i64).R 3 w' 0 (fun k => k ≠ g ∧ k ≠ b ∧ k ≠ g4) (.slice (some aS) sorts.length c) sorts) := fun w' ha hm =>
                    Lib.hid ⟨ha, AM.out.trans hm, hm.blk AO.out (blk_ne (show wr.heap[g4]? = some (.cells _ 52 (0, 0)) from AO.out) AA.out.st (by decide)) (blk_ne (show wr.heap[g4]? = some (.cells _ 52 (0, 0)) from AO.out) AA.out.row (by decide)), Kd.R_step AR.out (fun k hk hlt => hm.block k hlt hk.1 hk.2.1)⟩
                  clear hlt AF AA AM AO AR HX HG HW HL HK HD HSORTS HQ IH HR3 HR4
                  cases top with
                  | false =>
                    rw [if_neg (by rintro ⟨h, _⟩; cases h)] at ih
                    go_wp2_with (go_at_call 51; (with_reducible refine ih.mono ?_); rintro e w' ⟨rfl, ha, hm⟩; have FIN := fin w' ha hm; clear ha hm)
                    go_roundw
                    case rel => exact ⟨x + 1, st', HLT.out, by rw [HX1.out], ⟨HH2.out⟩, ⟨FIN.out.1⟩, ⟨FIN.out.2.1⟩, ⟨FIN.out.2.2.1⟩, ⟨FIN.out.2.2.2⟩⟩
                    case measure => have := HLT.out; rw [HX1.out]; simp only [intOf]; omega
                  | true =>
                    cases hs3 : (rd sorts (x : Int) == 3) with
                    | false =>
                      rw [if_neg (by rintro ⟨_, h⟩; rw [h] at hs3; cases hs3)] at ih
                      go_wp2_with (go_at_call 51; (with_reducible refine ih.mono ?_); rintro e w' ⟨rfl, ha, hm⟩; have FIN := fin w' ha hm; clear ha hm)
                      go_roundw
                      case rel => exact ⟨x + 1, st', HLT.out, by rw [HX1.out], ⟨HH2.out⟩, ⟨FIN.out.1⟩, ⟨FIN.out.2.1⟩, ⟨FIN.out.2.2.1⟩, ⟨FIN.out.2.2.2⟩⟩
                      case measure => have := HLT.out; rw [HX1.out]; simp only [intOf]; omega
                    | true =>
                      rw [if_pos ⟨rfl, beq_iff_eq.mp hs3⟩] at ih
                      go_wp2_with (go_at_call 51; (with_reducible refine ih.mono ?_); rintro e w' ⟨rfl, ha, hm⟩; have FIN := fin w' ha hm; clear ha hm)
                      go_roundw
                      case rel => exact ⟨x + 1, st', HLT.out, by rw [HX1.out], ⟨HH2.out⟩, ⟨FIN.out.1⟩, ⟨FIN.out.2.1⟩, ⟨FIN.out.2.2.1⟩, ⟨FIN.out.2.2.2⟩⟩
                      case measure => have := HLT.out; rw [HX1.out]; simp only [intOf]; omega
                · have hf := AF.out
                  rw [spec_l03Look_walk.kidsOf_end _ _ _ _ (by omega)] at hf
                  obtain rfl := Option.some.inj hf
                  have b1 : decide (x < sorts.length) = false := decide_eq_false hlt
                  have b2 : decide ((x : Int) < (sorts.length : Int)) = false := decide_eq_false (by omega)
                  clear hf hlt
                  go_wp2
                  go_end0
                  exact ⟨rfl, AA.out, AM.out⟩

theorem spec_l03Look_walk.walk_calls (w0 : World) (g b : Nat) (A0 : Option Addr) (c0 cb : Nat) (l : List S52) (root : Int) (hr : Kd.C k52 w0 A0 l.length l) (hg : w0.heap.size ≤ g) (hb0 : w0.heap.size ≤ b) (hn : l.length ≤ 200) (hcb : l.length ≤ cb) :
    ∀ (r : Nat) (st : List Bool × Bool × Int) (k s d : Int) (res : List Bool × Bool × Int) (w : World), 0 ≤ d → spec_l03Look_walk.SW l root r st k s d = some res → Below w0.heap.size w0 w → spec_l03Look_walk.At g b A0 c0 cb l.length root st.1 st.2.1 st.2.2 w →
      Calls Try.prog 51 #[.pointer (some ⟨g, 0, none⟩), .int .i64 k, .int .i64 s, .int .i64 d] w fun e w' => e = .returned (.tuple #[]) ∧ spec_l03Look_walk.At g b A0 c0 cb l.length root res.1 res.2.1 res.2.2 w' ∧ Moved g b w w' := by
  intro r
  induction r with
  | zero => intro st k s d res w _ h; simp [spec_l03Look_walk.SW] at h
  | succ r ih =>
    intro st k s d res w hd0 h hw ha
    unfold spec_l03Look_walk.SW at h
    by_cases hc : st.2.1 = true ∧ 0 ≤ k ∧ k < (l.length : Int) ∧ rdOf false st.1 k = false ∧ d ≤ 200
    · rw [if_pos hc] at h
      obtain ⟨sorts, h1, h⟩ := Option.bind_eq_some_iff.1 h
      obtain ⟨q, h2, h⟩ := Option.bind_eq_some_iff.1 h
      obtain ⟨seen, ok, most⟩ := st
      obtain ⟨rfl, k0, k1, hs, hd⟩ := hc
      exact spec_l03Look_walk.walk_in w0 g b A0 c0 cb l root seen most k s d w hr hg hb0 hw ha hn hcb k0 k1 hs hd hd0 r sorts q h1 h2 res h (fun st k s res w h hw ha => ih st k s (d + 1) res w (by omega) h hw ha)
    · rw [if_neg hc] at h
      obtain rfl := Option.some.inj h
      obtain ⟨seen, ok, most⟩ := st
      cases ok with
      | false => exact spec_l03Look_walk.walk_no g b A0 c0 cb l.length root seen most k s d w ha
      | true =>
        by_cases hk : 0 ≤ k ∧ k ≤ (l.length : Int) - 1
        · refine spec_l03Look_walk.walk_seen g b A0 c0 cb l.length root seen most k s d w ha hn hcb hk.1 (by omega) ?_
          cases hq : rdOf false seen k with
          | true => exact .inl rfl
          | false =>
            refine .inr (Int.not_le.1 (fun h => hc ⟨rfl, hk.1, by omega, hq, h⟩))
        · exact spec_l03Look_walk.walk_out g b A0 c0 cb l.length root seen most k s d w ha hn hk
theorem spec_l03Look_walk.fold_mono {σ : Type} {g g' : σ → Int → Int → Option σ} (h : ∀ s k q, LeO (g s k q) (g' s k q)) : ∀ (t : List (Int × Int)) (s : σ), LeO (Tw.fold g t s) (Tw.fold g' t s)
  | [], _ => LeO.refl _
  | p :: t, s => by
    unfold Tw.fold
    exact LeO.bind (h _ _ _) (fun s' => spec_l03Look_walk.fold_mono h t s')
theorem spec_l03Look_walk.mono (l : List S52) (root : Int) : ∀ (r : Nat) (st : List Bool × Bool × Int) (k s d : Int), LeO (spec_l03Look_walk.SW l root r st k s d) (spec_l03Look_walk.SW l root (r + 1) st k s d)
  | 0, _, _, _, _ => fun _ h => by simp [spec_l03Look_walk.SW] at h
  | r + 1, st, k, s, d => by
    rw [spec_l03Look_walk.SW, spec_l03Look_walk.SW]
    exact LeO.ite (LeO.bind (spec_l03Kids.mono _ _ _ _ _ _) (fun sorts => LeO.bind (spec_l03Node.mono _ _ _ _ _ _) (fun q => LeO.ite (spec_l03Look_walk.fold_mono (fun st k s => spec_l03Look_walk.mono l root r st k s (d + 1)) _ _) (LeO.refl _)))) (LeO.refl _)

/-! ### spec_l03Tree: function 32 -/
open Hd
theorem spec_l03Tree.mixed : Try.prog.follows Departure.mixedOrders = true := by kernel_rfl
theorem spec_l03Tree.info : (Try.prog.info? 4).map (fun i => (i.zero, i.size, i.bytes)) = some (some (.bool false), 1, 1) := by kernel_rfl
theorem spec_l03Tree.make (n : Nat) (hn : n ≤ 200) (w : World) : (Instr.makeSlice 53 (.int .i64 (n : Int)) (.int .i64 (n : Int))).run Try.prog w = .ok (.slice (some ⟨w.heap.size, 0, none⟩) n n) (w.alloc (.cells (bools (List.replicate n false)).toArray 4)) := by
  obtain ⟨i0, hi, hzz⟩ := Option.map_eq_some_iff.1 spec_l03Tree.info
  simp only [Prod.mk.injEq] at hzz
  obtain ⟨hz0, hz1, hz2⟩ := hzz
  have hr := run_make (P := Try.prog) w 53 4 i0 (.bool false) Try.underlying53 hi hz0 .i64 .i64 (n : Int) (n : Int) (by omega) (by omega) (by rw [hz2]; omega) (by omega)
  rw [Int.toNat_natCast, hz1, Nat.mul_one, Hd.made_bools] at hr
  exact hr
def spec_l03Tree.f (k : Nat) (l0_0 : List S52) (a0_1 : Int) : Option (Bool × Int) :=
  if l0_0.length ≤ 200 then (spec_l03Look_walk.SW l0_0 a0_1 k (List.replicate l0_0.length false, true, 0) a0_1 2 1).bind fun res => some (res.2.1 && res.1.all id, res.2.2) else some (false, 0)
set_option maxHeartbeats 2000000 in
set_option maxRecDepth 100000 in
theorem spec_l03Tree.many (A0 : Option Addr) (c0 : Nat) (l : List S52) (root : Int) (w : World) (hr : Kd.C k52 w A0 l.length l) (hn : ¬ l.length ≤ 200) :
    Calls Try.prog 32 #[.agg #[.slice A0 l.length c0, .int .i64 root]] w fun e w' => e = .returned (.tuple #[.bool false, .int .i64 0]) ∧ Below w.heap.size w w' := by
  have b0 : decide (200 < (l.length : Int)) = true := decide_eq_true (by omega)
  have b1 : decide (200 < l.length) = true := decide_eq_true (by omega)
  clear hr hn
  go_enter Try.func32, Try.ntmps32
  go_wp2
  go_ret2
  exact ⟨rfl, below_alloc (Below.refl _ _) _⟩
set_option maxHeartbeats 4000000 in
set_option maxRecDepth 100000 in
theorem spec_l03Tree.few (k : Nat) (A0 : Option Addr) (c0 : Nat) (l : List S52) (root : Int) (w : World) (hr : Kd.C k52 w A0 l.length l) (hn : l.length ≤ 200) (seen : List Bool) (ok : Bool) (most : Int)
    (hs : spec_l03Look_walk.SW l root k (List.replicate l.length false, true, 0) root 2 1 = some (seen, ok, most)) :
    Calls Try.prog 32 #[.agg #[.slice A0 l.length c0, .int .i64 root]] w fun e w' => e = .returned (.tuple #[.bool (ok && seen.all id), .int .i64 most]) ∧ Below w.heap.size w w' := by
  have hm := spec_l03Tree.mixed
  have hmk := spec_l03Tree.make l.length hn
  have HR := Lib.hid hr
  have HS := Lib.hid hs
  clear hr hs
  have hu := Try.underlying29
  go_enter Try.func32, Try.ntmps32
  go_upto_region 3 with fail
  go_cut [4] from 10 to 16 (fun s4 wx => ∃ g b : Nat, s4 = .pointer (some ⟨g, 0, none⟩) ∧ w.heap.size < g ∧ w.heap.size < b ∧ spec_l03Look_walk.At g b A0 c0 l.length l.length root (List.replicate l.length false) true 0 wx ∧ Below w.heap.size w wx ∧ wx.heap[w.heap.size]? = some (.cells #[.slice A0 l.length c0, .int .i64 root] 29 (0, 0)))
  case first =>
    go_region_o
    all_goals go_wp2_with fail
    all_goals go_meet
    case rel =>
      refine ⟨_, _, rfl, by omega, Nat.lt_succ_self _, ⟨?_, ?_, by simp⟩, by repeat (first | exact Below.refl _ _ | apply below_alloc | apply below_drew), blk_alloc (blk_alloc (blk_new _ _) _) _⟩
      · exact Hd.at_alloc _ _ _ (by simp only [Hd.size_alloc])
      · exact blk_alloc (Hd.at_alloc _ _ _ (by simp only [Hd.size_alloc])) _
  case rest =>
    obtain ⟨g, b, rfl, hg, hb, ha, hB, ht⟩ := hcut
    have HA := Lib.hid ha
    have HB := Lib.hid hB
    have HT := Lib.hid ht
    have HG := Lib.hid (And.intro hg hb)
    have h0 := blk_cell ht 0
    have h1 := blk_cell ht 1
    have hcall := spec_l03Look_walk.walk_calls w g b A0 c0 l.length l root HR.out (by omega) (by omega) hn (Nat.le_refl _) k (List.replicate l.length false, true, 0) root 2 1 (seen, ok, most) wc (by decide) HS.out hB ha
    clear ha hB ht hg hb hmk
    go_upto_region 5 with (go_at_call 51; (with_reducible refine hcall.mono ?_); rintro e w' ⟨rfl, ha, hm'⟩; have HA' := Lib.hid ha; have HM := Lib.hid hm'; clear ha hm')
    have HB' := Lib.hid (HM.out.below HB.out HB.out.size (by have := HG.out.1; omega) (by have := HG.out.2; omega))
    clear h0 h1 hcall HA HT
    go_wp2_with fail
    go_loopw [5] (fun i wr => ∃ (x : Nat) (o : Bool), x ≤ l.length ∧ i = .int .i64 x ∧ Aside0 ((o && (seen.drop x).all id) = (ok && seen.all id)) ∧ Aside0 (spec_l03Look_walk.At g b A0 c0 l.length l.length root seen o most wr) ∧ Aside0 (Below w.heap.size w wr)) (fun i _ => l.length - (intOf i).toNat)
    case atStart => exact ⟨0, ok, Nat.zero_le _, rfl, ⟨rfl⟩, ⟨HA'.out⟩, ⟨HB'.out⟩⟩
    have HL := Lib.hid HA'.out.len
    clear HA' HB' HM HB
    case round =>
      obtain ⟨x, o, hx, rfl, AF, AA, AB⟩ := hrel
      obtain ⟨h0, h1, h2, h3, h4⟩ := AA.out.cells
      have hne := AA.out.ne
      have hne' := AA.out.ne.symm
      by_cases hlt : x < l.length
      · have b1 : decide (x < l.length) = true := decide_eq_true hlt
        have b2 : decide ((x : Int) < (l.length : Int)) = true := decide_eq_true (by omega)
        have hrow := row_cell AA.out.row (x : Int) (by have := HL.out; omega)
        rw [Int.toNat_natCast] at hrow
        have f3 := blk_frozen AA.out.st 3
        have HLT := Lib.hid hlt
        have hd : seen.drop x = rdOf false seen (x : Int) :: seen.drop (x + 1) := by
          have : x < seen.length := by have := HL.out; omega
          rw [List.drop_eq_getElem_cons this]
          unfold rdOf
          rw [Int.toNat_natCast, List.getD_eq_getElem?_getD, List.getElem?_eq_getElem this]
          rfl
        have hf := AF.out
        rw [hd, List.all_cons] at hf
        generalize rdOf false seen (x : Int) = v at hf hrow
        have HF := Lib.hid hf
        clear hd hf AF
        cases o with
        | false =>
          go_wp2
          go_roundw
          case rel => exact ⟨x + 1, false, HLT.out, by go_num, ⟨by rw [← HF.out]; rfl⟩, ⟨AA.out.fail⟩, ⟨AB.out.trans (Below.setCell (Below.refl _ _) (by have := HG.out.1; show w.heap.size ≤ g; omega) _)⟩⟩
          case measure => have := HLT.out; simp [intOf]; omega
        | true =>
          go_wp2
          go_roundw
          case rel => exact ⟨x + 1, v, HLT.out, by go_num, ⟨by rw [← HF.out]; simp⟩, ⟨⟨blk_set AA.out.st 3 _, blk_far AA.out.row AA.out.ne.symm _, AA.out.len⟩⟩, ⟨AB.out.trans (Below.setCell (Below.refl _ _) (by have := HG.out.1; show w.heap.size ≤ g; omega) _)⟩⟩
          case measure => have := HLT.out; simp [intOf]; omega
      · have b1 : decide (x < l.length) = false := decide_eq_false hlt
        have b2 : decide ((x : Int) < (l.length : Int)) = false := decide_eq_false (by omega)
        have hf := AF.out
        rw [List.drop_eq_nil_iff.2 (by have := HL.out; omega)] at hf
        have HF := Lib.hid hf
        clear hf AF hlt
        go_wp2
        go_region_o
        all_goals go_wp2
        all_goals go_ret2
        all_goals exact ⟨by rw [← HF.out]; simp, by repeat (first | exact AB.out | apply below_drew)⟩

theorem spec_l03Tree.mono : ∀ l0_0 a0_1 k, LeO (spec_l03Tree.f k l0_0 a0_1) (spec_l03Tree.f (k + 1) l0_0 a0_1) := by
  intro l0_0 a0_1 k
  unfold spec_l03Tree.f
  exact LeO.ite (LeO.bind (spec_l03Look_walk.mono _ _ _ _ _ _ _) (fun _ => LeO.refl _)) (LeO.refl _)
theorem spec_l03Tree.calls (k : Nat) (A0_0 : Option Addr) (c0_0 : Nat) (l0_0 : List S52) (a0_1 : Int) (r1 : Bool) (r2 : Int) (w : World) (hr0_0 : Kd.C k52 w A0_0 l0_0.length l0_0) (hc0_0 : l0_0.length ≤ c0_0) (h : spec_l03Tree.f k l0_0 a0_1 = some (r1, r2)) :
    Calls Try.prog 32 #[.agg #[.slice A0_0 l0_0.length c0_0, .int .i64 a0_1]] w fun e w' => e = .returned (.tuple #[.bool r1, .int .i64 r2]) ∧ Below w.heap.size w w' := by
  unfold spec_l03Tree.f at h
  by_cases hn : l0_0.length ≤ 200
  · rw [if_pos hn] at h
    obtain ⟨res, h1, h⟩ := Option.bind_eq_some_iff.1 h
    simp only [Option.some.injEq, Prod.mk.injEq] at h
    obtain ⟨rfl, rfl⟩ := h
    exact spec_l03Tree.few k A0_0 c0_0 l0_0 a0_1 w hr0_0 hn res.1 res.2.1 res.2.2 h1
  · rw [if_neg hn] at h
    simp only [Option.some.injEq, Prod.mk.injEq] at h
    obtain ⟨rfl, rfl⟩ := h
    exact spec_l03Tree.many A0_0 c0_0 l0_0 a0_1 w hr0_0 hn

/-! ### spec_TreeOK: function 11 -/
def spec_TreeOK.f (k : Nat) (l0_0 : List (S52)) (a0_1 : Int) : Option (Bool) := (spec_l03Tree.f k l0_0 a0_1).bind fun bt220 => (some bt220.1)
theorem spec_TreeOK.mono : ∀ a0 a1 k, LeO (spec_TreeOK.f k a0 a1) (spec_TreeOK.f (k + 1) a0 a1) := by
  intro a0 a1 k
  unfold spec_TreeOK.f
  repeat' first
      | (with_reducible exact spec_l03Tree.mono _ _ _)
      | (with_reducible exact LeO.refl _)
      | (with_reducible exact LeO.none _)
      | (with_reducible refine LeO.ite ?_ ?_)
      | (with_reducible refine LeO.bind ?_ (fun _ => ?_))
      | exact spec_l03Tree.mono _ _ _
      | exact LeO.none _
      | refine LeO.ite ?_ ?_
      | refine LeO.bind ?_ (fun _ => ?_)
set_option maxHeartbeats 8000000 in
set_option maxRecDepth 100000 in
theorem spec_TreeOK.calls (k : Nat) (A0_0 : Option Addr) (c0_0 : Nat) (l0_0 : List (S52)) (a0_1 : Int) (r : Bool) (w : World) (hr0_0 : Kd.C k52 w A0_0 l0_0.length l0_0) (hc0_0 : l0_0.length ≤ c0_0) (h : spec_TreeOK.f k l0_0 a0_1 = some r) :
    Calls Try.prog 11 #[.agg #[.slice A0_0 l0_0.length c0_0, .int .i64 a0_1]] w fun e w' => e = .returned (.bool r) ∧ Below w.heap.size w w' := by
  have hu29 := Try.underlying29
  have HR0_0 := Aside0.mk hr0_0
  have HC0_0 := Aside0.mk hc0_0
  clear hr0_0 hc0_0
  have HB := Aside0.mk (Below.refl w.heap.size w)
  have H : ((spec_l03Tree.f k l0_0 a0_1).bind fun bt220 => (some bt220.1)) = some r := h
  clear h
  replace H := Option.bind_eq_some_iff.mp H
  obtain ⟨⟨t220, t221⟩, A20, H⟩ := H
  replace H : (some t220) = some r := H
  have A2 := Aside0.mk A20
  clear A20
  obtain rfl := Option.some.inj H
  go_enter Try.func11, Try.ntmps11
  go_wp2_with (first | ((with_reducible refine gate_dst (N := 1) rfl ?_); refine box_event ?hg (N := 1) ?hd (cs := #[.slice A0_0 l0_0.length c0_0, .int .i64 a0_1]) (t := 29) ?hr ?_; (case hd => rfl); (case hg => rfl); (case hr => first | (go_simp; done) | (go_simp; rfl)); intro gb219 hg w3 hbox hb; have n0_ := Aside0.mk (below_step (by repeat (first | (with_reducible first | exact HB.out | apply below_alloc | apply pw_below_drewN | apply below_drew1) | exact HB.out)) hb); have n1_ := Aside0.mk (hbox); have n2_ := Aside0.mk ((by rw [hg]; exact (below_size (by repeat (first | (with_reducible first | exact HB.out | apply below_alloc | apply pw_below_drewN | apply below_drew1) | exact HB.out))) : w.heap.size ≤ gb219)); have n3_ := Aside0.mk ((by rw [hg]; exact (below_size (by repeat (first | (with_reducible first | exact HB.out | apply below_alloc | apply pw_below_drewN | apply below_drew1) | exact HB.out))) : w.heap.size ≤ gb219)); clear HB; have HB := n0_; have BK219 := n1_; have GW219 := n2_; have GE219 := n3_; clear n0_ n1_ n2_ n3_; clear hb hbox hg; have hcz4_0 : w3.cell? ⟨gb219, 0, none⟩ = some (.slice A0_0 l0_0.length c0_0) := (blk_cell BK219.out 0).trans rfl; have hcz4_1 : w3.cell? ⟨gb219, 1, none⟩ = some (.int .i64 a0_1) := (blk_cell BK219.out 1).trans rfl; have hfz4_0 := blk_frozen BK219.out 0; have hfz4_1 := blk_frozen BK219.out 1) | ((with_reducible refine gate_callee (f := 32) rfl ?_); refine goesL_ (some 7) rfl rfl Try.func32 (by kernel_rfl) rfl #[.agg #[.slice A0_0 l0_0.length c0_0, .int .i64 a0_1]] rfl (by (try simp only [List.map_toArray, List.map_cons, List.map_nil]); first | done | rfl | (simp only [List.length_drop, List.length_take]; rfl)) ?_; (with_reducible refine (spec_l03Tree.calls k _ _ l0_0 a0_1 t220 t221 _ ?side1 ?side2 A2.out).mono ?_); (case side1 => repeat (first | exact (Kd.C_below HR0_0.out HB.out) | (with_reducible refine Kd.C_alloc ?_ _) | (with_reducible refine Kd.C_drewN ?_ _) | (with_reducible refine Kd.C_drew ?_))); (case side2 => exact HC0_0.out); rintro e w5 ⟨rfl, hb⟩; refine ⟨_, rfl, ?_⟩; have n0_ := Aside0.mk (blk_below (g := gb219) (o := .cells #[.slice A0_0 l0_0.length c0_0, .int .i64 a0_1] 29 (0, 0)) (by (with_reducible repeat (first | refine blk_drewN ?_ _ | refine blk_drew ?_ | refine blk_alloc ?_ _)); exact BK219.out) hb); have n1_ := Aside0.mk (below_step (by repeat (first | (with_reducible first | exact HB.out | apply below_alloc | apply pw_below_drewN | apply below_drew1 | refine below_set ?_ GE219.out) | exact HB.out)) hb); clear BK219; clear HB; have BK219 := n0_; have HB := n1_; clear n0_ n1_; (try clear hb); (try clear hb2); (try clear hk); (try clear hi)))
  go_ret
  exact ⟨by first | rfl | exact My.ret_isEmpty _ | (simp [errW_none, errW_some] <;> rfl) | (simp [*, errW_none, errW_some] <;> rfl), by repeat (first | (with_reducible first | exact HB.out | apply below_alloc | apply pw_below_drewN | apply below_drew1 | refine below_set ?_ GE219.out) | exact HB.out)⟩

end Go.Proofs.Ytngcheicabbpoaa.QFnExactFuncsOf
