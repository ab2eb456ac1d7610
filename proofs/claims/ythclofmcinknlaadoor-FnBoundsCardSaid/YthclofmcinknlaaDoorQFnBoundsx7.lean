/- Functions that the law uses, as Lean functions with the same answers, and the walks that show it: by this session's program, after the form of the kit's print. No condition. -/
import Derived.Test.YthclofmcinknlaaDoorQFnBoundsx0
import Derived.Test.YthclofmcinknlaaDoorQFnBoundsx2
import Derived.Test.YthclofmcinknlaaDoorQFnBoundsx3
import Derived.Test.YthclofmcinknlaaDoorQFnBoundsx6
namespace Go.Proofs.YthclofmcinknlaaDoor.QFnBounds
open Go.RowKit Go.Proofs.YthclofmcinknlaaDoorW.PrintWords Go.Proofs.YthclofmcinknlaaDoorW.PrintLast Go.Proofs.YthclofmcinknlaaDoorW.PrintMore
attribute [local go_sem] max2_int min2_int max_two min_two max_three min_three max_four min_four   -- for this text's walks alone
open Go.Proofs.YthclofmcinknlaaDoor
attribute [local go_sem high] My.binOp_gtr_flip
set_option linter.unusedVariables false
set_option linter.unusedSimpArgs false

/-! ### laws_FnBounds: function 7 -/
open Hd
/-- A variable that holds a value. -/
def laws_FnBounds.V (g : Nat) (k n : Int) (t : ByteArray) (W : World) : Prop := W.heap[g]? = some (.cells #[.int .i64 k, .int .i64 n, .string t] 29 (0, 0))
/-- The cells of a row of values. -/
def laws_FnBounds.cells (l : List S29) : List Value := (l.map fun x => [Value.int .i64 x.f0, .int .i64 x.f1, .string x.f2]).flatten
theorem laws_FnBounds.cells_get : ∀ (l : List S29) (j : Nat) (x : S29) (i : Nat) (u : Value), l[j]? = some x → [Value.int .i64 x.f0, .int .i64 x.f1, .string x.f2][i]? = some u → (laws_FnBounds.cells l)[j * 3 + i]? = some u
  | [], j, x, i, u, h, _ => by simp at h
  | y :: l, 0, x, i, u, h, hi => by
    obtain rfl : y = x := by simpa using h
    have hl : i < 3 := (List.getElem?_eq_some_iff.1 hi).1
    show ([Value.int .i64 y.f0, .int .i64 y.f1, .string y.f2] ++ laws_FnBounds.cells l)[0 * 3 + i]? = _
    rw [Nat.zero_mul, Nat.zero_add, List.getElem?_append_left (by simpa using hl)]
    exact hi
  | y :: l, j + 1, x, i, u, h, hi => by
    show ([Value.int .i64 y.f0, .int .i64 y.f1, .string y.f2] ++ laws_FnBounds.cells l)[(j + 1) * 3 + i]? = _
    rw [List.getElem?_append_right (by simp; omega), show (j + 1) * 3 + i - [Value.int .i64 y.f0, .int .i64 y.f1, .string y.f2].length = j * 3 + i by simp; omega]
    exact laws_FnBounds.cells_get l j x i u (by simpa using h) hi
theorem laws_FnBounds.row {W : World} {b : Nat} {l : List S29} {cs : Array Value} {t : TypeId} (h : W.heap[b]? = some (.cells cs t (0, 0))) (hc : cs.toList = laws_FnBounds.cells l := by rfl) (hl : l.length ≤ 9223372036854775807 := by decide) : Kd.C k29 W (some ⟨b, 0, none⟩) l.length l :=
  ⟨rfl, hl, fun _ => ⟨_, rfl, fun j p hj => ⟨[.int .i64 p.f0, .int .i64 p.f1, .string p.f2], rfl, k29_mk W p, fun i u hu => by
    show W.cell? ((⟨b, 0, none⟩ : Addr).add (j * 3 + i)) = _
    rw [add_plain, blk_cell h, ← Array.getElem?_toList, hc]
    exact laws_FnBounds.cells_get l j p i u hj hu⟩⟩⟩
/-- All is as it should be. -/
def laws_FnBounds.good (k : Nat) (a b : Int) : Bool :=
  decide (impl_Builtin.f k (⟨#[109, 97, 120]⟩ : ByteArray) [(⟨1, a, (⟨#[]⟩ : ByteArray)⟩ : S29), (⟨1, b, (⟨#[]⟩ : ByteArray)⟩ : S29)] = some (1, if a < b then b else a, (⟨#[]⟩ : ByteArray), 0)) && (match impl_Builtin.f k (⟨#[109, 105, 110]⟩ : ByteArray) [(⟨1, a, (⟨#[]⟩ : ByteArray)⟩ : S29), (⟨1, b, (⟨#[]⟩ : ByteArray)⟩ : S29)], impl_Binary.f k (⟨#[60]⟩ : ByteArray) 1 a (⟨#[]⟩ : ByteArray) 1 b (⟨#[]⟩ : ByteArray), impl_Unary.f (⟨#[45]⟩ : ByteArray) 1 a (⟨#[]⟩ : ByteArray), impl_Builtin.f k (⟨#[109, 97, 120]⟩ : ByteArray) [(⟨1, a, (⟨#[]⟩ : ByteArray)⟩ : S29)] with
    | some y, some l, some n, some j => match impl_Binary.f k (⟨#[43]⟩ : ByteArray) 1 (if a < b then b else a) (⟨#[]⟩ : ByteArray) y.1 y.2.1 y.2.2.1 with
      | none => false
      | some s => decide (y.2.2.2 = 0 ∧ impl_Binary.f k (⟨#[43]⟩ : ByteArray) 1 a (⟨#[]⟩ : ByteArray) 1 b (⟨#[]⟩ : ByteArray) = some s ∧ s.2.2.2 = 0 ∧ l.2.1 = (if a < b then 1 else 0) ∧ l.2.2.2 = 0 ∧ n.2.2.2 = 0 ∧ impl_Unary.f (⟨#[45]⟩ : ByteArray) n.1 n.2.1 n.2.2.1 = some (1, a, (⟨#[]⟩ : ByteArray), 0) ∧ j.2.2.2 = 14)
    | _, _, _, _ => false)
def laws_FnBounds.f (k : Nat) (l0 : List Int) (l1 : List Int) : Option Bool :=
  if l0.length > 1048576 ∨ l1.length > 1048576 then some true else
    (laws_at.f l0 0 60000).bind fun x => (laws_at.f l1 0 60000).bind fun y => if laws_FnBounds.good k (wrap64 (x - 30000)) (wrap64 (y - 30000)) = true then some true else none
set_option maxHeartbeats 8000000 in
set_option maxRecDepth 100000 in
theorem laws_FnBounds.walk_lt (k : Nat) (A0 : Option Addr) (c0 : Nat) (l0 : List Int) (A1 : Option Addr) (c1 : Nat) (l1 : List Int) (w : World) (hr0 : Kd.C (Kd.int .u8) w A0 l0.length l0) (hc0 : l0.length ≤ c0) (hr1 : Kd.C (Kd.int .u8) w A1 l1.length l1) (hc1 : l1.length ≤ c1) (hG : Aside0 (My.Tab w)) (m0 : l0.length ≤ 1048576) (m1 : l1.length ≤ 1048576) (x y a b : Int) (e1 : laws_at.f l0 0 60000 = some x) (e2 : laws_at.f l1 0 60000 = some y) (ea : wrap64 (x - 30000) = a) (eb : wrap64 (y - 30000) = b) (hne : a ≠ b)
    (y1 y2 s1 s2 q1 n1 n2 j1 j2 : Int) (y3 s3 q3 n3 j3 : ByteArray) (h1 : impl_Builtin.f k (⟨#[109, 97, 120]⟩ : ByteArray) [(⟨1, a, (⟨#[]⟩ : ByteArray)⟩ : S29), (⟨1, b, (⟨#[]⟩ : ByteArray)⟩ : S29)] = some (1, b, (⟨#[]⟩ : ByteArray), 0)) (h2 : impl_Builtin.f k (⟨#[109, 105, 110]⟩ : ByteArray) [(⟨1, a, (⟨#[]⟩ : ByteArray)⟩ : S29), (⟨1, b, (⟨#[]⟩ : ByteArray)⟩ : S29)] = some (y1, y2, y3, 0)) (h3 : impl_Binary.f k (⟨#[43]⟩ : ByteArray) 1 b (⟨#[]⟩ : ByteArray) y1 y2 y3 = some (s1, s2, s3, 0)) (h4 : impl_Binary.f k (⟨#[43]⟩ : ByteArray) 1 a (⟨#[]⟩ : ByteArray) 1 b (⟨#[]⟩ : ByteArray) = some (s1, s2, s3, 0)) (h5 : impl_Binary.f k (⟨#[60]⟩ : ByteArray) 1 a (⟨#[]⟩ : ByteArray) 1 b (⟨#[]⟩ : ByteArray) = some (q1, 1, q3, 0)) (h6 : impl_Unary.f (⟨#[45]⟩ : ByteArray) 1 a (⟨#[]⟩ : ByteArray) = some (n1, n2, n3, 0)) (h7 : impl_Unary.f (⟨#[45]⟩ : ByteArray) n1 n2 n3 = some (1, a, (⟨#[]⟩ : ByteArray), 0)) (h8 : impl_Builtin.f k (⟨#[109, 97, 120]⟩ : ByteArray) [(⟨1, a, (⟨#[]⟩ : ByteArray)⟩ : S29)] = some (j1, j2, j3, 14)) :
    Calls Tryd.prog 7 #[.slice A0 l0.length c0, .slice A1 l1.length c1] w fun e w' => e = .returned (.bool true) ∧ Below w.heap.size w w' := by
  have hu := Tryd.underlying29
  have mixed : Tryd.prog.follows Departure.mixedOrders = true := by kernel_rfl
  have b0 : decide (1048576 < (l0.length : Int)) = false := decide_eq_false (by omega)
  have b1 : decide (1048576 < (l1.length : Int)) = false := decide_eq_false (by omega)
  have b2 : decide (1048576 < l0.length) = false := decide_eq_false (by omega)
  have b3 : decide (1048576 < l1.length) = false := decide_eq_false (by omega)
  have z0 : (a == b) = false := beq_eq_false_iff_ne.2 hne
  have z1 : (b == a) = false := beq_eq_false_iff_ne.2 (Ne.symm hne)
  have z2 : (a != b) = true := bne_iff_ne.2 hne
  clear hne
  have M0_ := Lib.hid m0
  have M1_ := Lib.hid m1
  have HR0_ := Lib.hid hr0
  have HC0_ := Lib.hid hc0
  have HR1_ := Lib.hid hr1
  have HC1_ := Lib.hid hc1
  have E1_ := Lib.hid e1
  have E2_ := Lib.hid e2
  have EA_ := Lib.hid ea
  have EB_ := Lib.hid eb
  have H1_ := Lib.hid h1
  have H2_ := Lib.hid h2
  have H3_ := Lib.hid h3
  have H4_ := Lib.hid h4
  have H5_ := Lib.hid h5
  have H6_ := Lib.hid h6
  have H7_ := Lib.hid h7
  have H8_ := Lib.hid h8
  clear m0 m1 hr0 hc0 hr1 hc1 e1 e2 ea eb h1 h2 h3 h4 h5 h6 h7 h8
  go_enter Tryd.func7, Tryd.ntmps7
  go_upto_region 3 with fail
  go_cut [5] from 31 to 34 (fun v5 wx => ∃ g5 : Nat, v5 = .pointer (some ⟨g5, 0, none⟩) ∧ Aside0 (laws_FnBounds.V g5 1 a (⟨#[]⟩ : ByteArray) wx) ∧ Aside0 (Below w.heap.size w wx))
  case first =>
    go_wp2_with (go_at_call 17; (with_reducible refine (laws_at.calls A0 c0 l0 0 60000 x _ ?q1 HC0_.out E1_.out).mono ?_); (case q1 => exact HR0_.out); rintro e wa ⟨rfl, hd⟩; have HD1 := Lib.hid hd.below; clear hd)
    go_meet
    case rel => exact ⟨_, rfl, ⟨by rw [← EA_.out]; exact blk_new _ _⟩, ⟨below_alloc HD1.out _⟩⟩
  case rest =>
    obtain ⟨g5, rfl, H5, HB⟩ := hcut
    go_upto_region 4 with fail
    go_cut [6] from 35 to 38 (fun v6 wx => ∃ g6 : Nat, v6 = .pointer (some ⟨g6, 0, none⟩) ∧ Aside0 (laws_FnBounds.V g5 1 a (⟨#[]⟩ : ByteArray) wx) ∧ Aside0 (laws_FnBounds.V g6 1 b (⟨#[]⟩ : ByteArray) wx) ∧ Aside0 (Below w.heap.size w wx))
    case first =>
      go_wp2_with (go_at_call 17; (with_reducible refine (laws_at.calls A1 c1 l1 0 60000 y _ ?q1 HC1_.out E2_.out).mono ?_); (case q1 => exact Kd.C_below HR1_.out HB.out); rintro e wa ⟨rfl, hd⟩; have HBc := Lib.hid hd.below; clear hd)
      go_meet
      case rel => exact ⟨_, rfl, ⟨blk_alloc (blk_below H5.out HBc.out) _⟩, ⟨by rw [← EB_.out]; exact blk_new _ _⟩, ⟨below_alloc (HB.out.trans (HBc.out.mono HB.out.size)) _⟩⟩
    case rest =>
      clear HB H5
      obtain ⟨g6, rfl, H5, H6, HB⟩ := hcut
      go_upto_region 5 with fail
      go_cut [7, 8] from 39 to 45 (fun v7 v8 wx => ∃ g7 : Nat, v7 = .pointer (some ⟨g7, 0, none⟩) ∧ v8 = .int .i64 0 ∧ Aside0 (laws_FnBounds.V g5 1 a (⟨#[]⟩ : ByteArray) wx) ∧ Aside0 (laws_FnBounds.V g6 1 b (⟨#[]⟩ : ByteArray) wx) ∧ Aside0 (laws_FnBounds.V g7 1 b (⟨#[]⟩ : ByteArray) wx) ∧ Aside0 (Below w.heap.size w wx))
      case first =>
        have x5_0 := blk_cell H5.out 0
        have x5_1 := blk_cell H5.out 1
        have x5_2 := blk_cell H5.out 2
        have x6_0 := blk_cell H6.out 0
        have x6_1 := blk_cell H6.out 1
        have x6_2 := blk_cell H6.out 2
        have hcall : Calls Tryd.prog 19 #[.string (⟨#[109, 97, 120]⟩ : ByteArray), .slice (some ⟨wc.heap.size, 0, none⟩) 2 2] (wc.alloc (.cells #[.int .i64 1, .int .i64 a, .string (⟨#[]⟩ : ByteArray), .int .i64 1, .int .i64 b, .string (⟨#[]⟩ : ByteArray)] 29)) _ := impl_Builtin.calls k (⟨#[109, 97, 120]⟩ : ByteArray) (some ⟨wc.heap.size, 0, none⟩) 2 [(⟨1, a, (⟨#[]⟩ : ByteArray)⟩ : S29), (⟨1, b, (⟨#[]⟩ : ByteArray)⟩ : S29)] 1 b (⟨#[]⟩ : ByteArray) 0 (wc.alloc (.cells #[.int .i64 1, .int .i64 a, .string (⟨#[]⟩ : ByteArray), .int .i64 1, .int .i64 b, .string (⟨#[]⟩ : ByteArray)] 29)) (laws_FnBounds.row (blk_new _ _) (by rfl) (by simp)) (Nat.le_refl _) (My.tab_below hG (below_alloc HB.out _)) H1_.out
        go_wp2_with (go_at_call 19; (with_reducible refine hcall.mono ?_); rintro e w' ⟨rfl, hb⟩; have HBc := Lib.hid hb; clear hb hcall)
        go_meet
        case rel => exact ⟨_, rfl, rfl, ⟨blk_alloc (blk_below (blk_alloc H5.out _) HBc.out) _⟩, ⟨blk_alloc (blk_below (blk_alloc H6.out _) HBc.out) _⟩, ⟨blk_new _ _⟩, ⟨below_alloc ((below_alloc HB.out _).trans (HBc.out.mono (below_alloc HB.out _).size)) _⟩⟩
      case rest =>
        clear HB H5 H6
        obtain ⟨g7, rfl, rfl, H5, H6, H7, HB⟩ := hcut
        go_upto_region 6 with fail
        go_cut [9, 10] from 46 to 52 (fun v9 v10 wx => ∃ g9 : Nat, v9 = .pointer (some ⟨g9, 0, none⟩) ∧ v10 = .int .i64 0 ∧ Aside0 (laws_FnBounds.V g5 1 a (⟨#[]⟩ : ByteArray) wx) ∧ Aside0 (laws_FnBounds.V g6 1 b (⟨#[]⟩ : ByteArray) wx) ∧ Aside0 (laws_FnBounds.V g7 1 b (⟨#[]⟩ : ByteArray) wx) ∧ Aside0 (laws_FnBounds.V g9 y1 y2 y3 wx) ∧ Aside0 (Below w.heap.size w wx))
        case first =>
          have x5_0 := blk_cell H5.out 0
          have x5_1 := blk_cell H5.out 1
          have x5_2 := blk_cell H5.out 2
          have x6_0 := blk_cell H6.out 0
          have x6_1 := blk_cell H6.out 1
          have x6_2 := blk_cell H6.out 2
          have hcall : Calls Tryd.prog 19 #[.string (⟨#[109, 105, 110]⟩ : ByteArray), .slice (some ⟨wc.heap.size, 0, none⟩) 2 2] (wc.alloc (.cells #[.int .i64 1, .int .i64 a, .string (⟨#[]⟩ : ByteArray), .int .i64 1, .int .i64 b, .string (⟨#[]⟩ : ByteArray)] 29)) _ := impl_Builtin.calls k (⟨#[109, 105, 110]⟩ : ByteArray) (some ⟨wc.heap.size, 0, none⟩) 2 [(⟨1, a, (⟨#[]⟩ : ByteArray)⟩ : S29), (⟨1, b, (⟨#[]⟩ : ByteArray)⟩ : S29)] y1 y2 y3 0 (wc.alloc (.cells #[.int .i64 1, .int .i64 a, .string (⟨#[]⟩ : ByteArray), .int .i64 1, .int .i64 b, .string (⟨#[]⟩ : ByteArray)] 29)) (laws_FnBounds.row (blk_new _ _) (by rfl) (by simp)) (Nat.le_refl _) (My.tab_below hG (below_alloc HB.out _)) H2_.out
          go_wp2_with (go_at_call 19; (with_reducible refine hcall.mono ?_); rintro e w' ⟨rfl, hb⟩; have HBc := Lib.hid hb; clear hb hcall)
          go_meet
          case rel => exact ⟨_, rfl, rfl, ⟨blk_alloc (blk_below (blk_alloc H5.out _) HBc.out) _⟩, ⟨blk_alloc (blk_below (blk_alloc H6.out _) HBc.out) _⟩, ⟨blk_alloc (blk_below (blk_alloc H7.out _) HBc.out) _⟩, ⟨blk_new _ _⟩, ⟨below_alloc ((below_alloc HB.out _).trans (HBc.out.mono (below_alloc HB.out _).size)) _⟩⟩
        case rest =>
          clear HB H5 H6 H7
          obtain ⟨g9, rfl, rfl, H5, H6, H7, H9, HB⟩ := hcut
          go_upto_region 7 with fail
          go_cut [11, 12] from 53 to 58 (fun v11 v12 wx => ∃ g11 : Nat, v11 = .pointer (some ⟨g11, 0, none⟩) ∧ v12 = .int .i64 0 ∧ Aside0 (laws_FnBounds.V g5 1 a (⟨#[]⟩ : ByteArray) wx) ∧ Aside0 (laws_FnBounds.V g6 1 b (⟨#[]⟩ : ByteArray) wx) ∧ Aside0 (laws_FnBounds.V g7 1 b (⟨#[]⟩ : ByteArray) wx) ∧ Aside0 (laws_FnBounds.V g9 y1 y2 y3 wx) ∧ Aside0 (laws_FnBounds.V g11 s1 s2 s3 wx) ∧ Aside0 (Below w.heap.size w wx))
          case first =>
            have x7_0 := blk_cell H7.out 0
            have x7_1 := blk_cell H7.out 1
            have x7_2 := blk_cell H7.out 2
            have x9_0 := blk_cell H9.out 0
            have x9_1 := blk_cell H9.out 1
            have x9_2 := blk_cell H9.out 2
            go_wp2_with (go_at_call 18; (with_reducible refine (impl_Binary.calls k (⟨#[43]⟩ : ByteArray) 1 b (⟨#[]⟩ : ByteArray) y1 y2 y3 s1 s2 s3 0 _ H3_.out).mono ?_); rintro e w' ⟨rfl, hb⟩; have HBc := Lib.hid hb; clear hb)
            go_meet
            case rel => exact ⟨_, rfl, rfl, ⟨blk_alloc (blk_below H5.out HBc.out) _⟩, ⟨blk_alloc (blk_below H6.out HBc.out) _⟩, ⟨blk_alloc (blk_below H7.out HBc.out) _⟩, ⟨blk_alloc (blk_below H9.out HBc.out) _⟩, ⟨blk_new _ _⟩, ⟨below_alloc (HB.out.trans (HBc.out.mono HB.out.size)) _⟩⟩
          case rest =>
            clear HB H5 H6 H7 H9
            obtain ⟨g11, rfl, rfl, H5, H6, H7, H9, H11, HB⟩ := hcut
            go_upto_region 8 with fail
            go_cut [13, 14] from 59 to 64 (fun v13 v14 wx => ∃ g13 : Nat, v13 = .pointer (some ⟨g13, 0, none⟩) ∧ v14 = .int .i64 0 ∧ Aside0 (laws_FnBounds.V g5 1 a (⟨#[]⟩ : ByteArray) wx) ∧ Aside0 (laws_FnBounds.V g6 1 b (⟨#[]⟩ : ByteArray) wx) ∧ Aside0 (laws_FnBounds.V g7 1 b (⟨#[]⟩ : ByteArray) wx) ∧ Aside0 (laws_FnBounds.V g9 y1 y2 y3 wx) ∧ Aside0 (laws_FnBounds.V g11 s1 s2 s3 wx) ∧ Aside0 (laws_FnBounds.V g13 s1 s2 s3 wx) ∧ Aside0 (Below w.heap.size w wx))
            case first =>
              have x5_0 := blk_cell H5.out 0
              have x5_1 := blk_cell H5.out 1
              have x5_2 := blk_cell H5.out 2
              have x6_0 := blk_cell H6.out 0
              have x6_1 := blk_cell H6.out 1
              have x6_2 := blk_cell H6.out 2
              go_wp2_with (go_at_call 18; (with_reducible refine (impl_Binary.calls k (⟨#[43]⟩ : ByteArray) 1 a (⟨#[]⟩ : ByteArray) 1 b (⟨#[]⟩ : ByteArray) s1 s2 s3 0 _ H4_.out).mono ?_); rintro e w' ⟨rfl, hb⟩; have HBc := Lib.hid hb; clear hb)
              go_meet
              case rel => exact ⟨_, rfl, rfl, ⟨blk_alloc (blk_below H5.out HBc.out) _⟩, ⟨blk_alloc (blk_below H6.out HBc.out) _⟩, ⟨blk_alloc (blk_below H7.out HBc.out) _⟩, ⟨blk_alloc (blk_below H9.out HBc.out) _⟩, ⟨blk_alloc (blk_below H11.out HBc.out) _⟩, ⟨blk_new _ _⟩, ⟨below_alloc (HB.out.trans (HBc.out.mono HB.out.size)) _⟩⟩
            case rest =>
              clear HB H5 H6 H7 H9 H11
              obtain ⟨g13, rfl, rfl, H5, H6, H7, H9, H11, H13, HB⟩ := hcut
              go_upto_region 9 with fail
              go_cut [15, 16] from 65 to 70 (fun v15 v16 wx => ∃ g15 : Nat, v15 = .pointer (some ⟨g15, 0, none⟩) ∧ v16 = .int .i64 0 ∧ Aside0 (laws_FnBounds.V g5 1 a (⟨#[]⟩ : ByteArray) wx) ∧ Aside0 (laws_FnBounds.V g6 1 b (⟨#[]⟩ : ByteArray) wx) ∧ Aside0 (laws_FnBounds.V g7 1 b (⟨#[]⟩ : ByteArray) wx) ∧ Aside0 (laws_FnBounds.V g9 y1 y2 y3 wx) ∧ Aside0 (laws_FnBounds.V g11 s1 s2 s3 wx) ∧ Aside0 (laws_FnBounds.V g13 s1 s2 s3 wx) ∧ Aside0 (laws_FnBounds.V g15 q1 1 q3 wx) ∧ Aside0 (Below w.heap.size w wx))
              case first =>
                have x5_0 := blk_cell H5.out 0
                have x5_1 := blk_cell H5.out 1
                have x5_2 := blk_cell H5.out 2
                have x6_0 := blk_cell H6.out 0
                have x6_1 := blk_cell H6.out 1
                have x6_2 := blk_cell H6.out 2
                go_wp2_with (go_at_call 18; (with_reducible refine (impl_Binary.calls k (⟨#[60]⟩ : ByteArray) 1 a (⟨#[]⟩ : ByteArray) 1 b (⟨#[]⟩ : ByteArray) q1 1 q3 0 _ H5_.out).mono ?_); rintro e w' ⟨rfl, hb⟩; have HBc := Lib.hid hb; clear hb)
                go_meet
                case rel => exact ⟨_, rfl, rfl, ⟨blk_alloc (blk_below H5.out HBc.out) _⟩, ⟨blk_alloc (blk_below H6.out HBc.out) _⟩, ⟨blk_alloc (blk_below H7.out HBc.out) _⟩, ⟨blk_alloc (blk_below H9.out HBc.out) _⟩, ⟨blk_alloc (blk_below H11.out HBc.out) _⟩, ⟨blk_alloc (blk_below H13.out HBc.out) _⟩, ⟨blk_new _ _⟩, ⟨below_alloc (HB.out.trans (HBc.out.mono HB.out.size)) _⟩⟩
              case rest =>
                clear HB H5 H6 H7 H9 H11 H13
                obtain ⟨g15, rfl, rfl, H5, H6, H7, H9, H11, H13, H15, HB⟩ := hcut
                go_upto_region 10 with fail
                go_cut [17, 18] from 71 to 75 (fun v17 v18 wx => ∃ g17 : Nat, v17 = .pointer (some ⟨g17, 0, none⟩) ∧ v18 = .int .i64 0 ∧ Aside0 (laws_FnBounds.V g5 1 a (⟨#[]⟩ : ByteArray) wx) ∧ Aside0 (laws_FnBounds.V g6 1 b (⟨#[]⟩ : ByteArray) wx) ∧ Aside0 (laws_FnBounds.V g7 1 b (⟨#[]⟩ : ByteArray) wx) ∧ Aside0 (laws_FnBounds.V g9 y1 y2 y3 wx) ∧ Aside0 (laws_FnBounds.V g11 s1 s2 s3 wx) ∧ Aside0 (laws_FnBounds.V g13 s1 s2 s3 wx) ∧ Aside0 (laws_FnBounds.V g15 q1 1 q3 wx) ∧ Aside0 (laws_FnBounds.V g17 n1 n2 n3 wx) ∧ Aside0 (Below w.heap.size w wx))
                case first =>
                  have x5_0 := blk_cell H5.out 0
                  have x5_1 := blk_cell H5.out 1
                  have x5_2 := blk_cell H5.out 2
                  go_wp2_with (go_at_call 24; (with_reducible refine (impl_Unary.calls (⟨#[45]⟩ : ByteArray) 1 a (⟨#[]⟩ : ByteArray) n1 n2 n3 0 _ H6_.out).mono ?_); rintro e w' ⟨rfl, hb⟩; have HBc := Lib.hid hb; clear hb)
                  go_meet
                  case rel => exact ⟨_, rfl, rfl, ⟨blk_alloc (blk_below H5.out HBc.out) _⟩, ⟨blk_alloc (blk_below H6.out HBc.out) _⟩, ⟨blk_alloc (blk_below H7.out HBc.out) _⟩, ⟨blk_alloc (blk_below H9.out HBc.out) _⟩, ⟨blk_alloc (blk_below H11.out HBc.out) _⟩, ⟨blk_alloc (blk_below H13.out HBc.out) _⟩, ⟨blk_alloc (blk_below H15.out HBc.out) _⟩, ⟨blk_new _ _⟩, ⟨below_alloc (HB.out.trans (HBc.out.mono HB.out.size)) _⟩⟩
                case rest =>
                  clear HB H5 H6 H7 H9 H11 H13 H15
                  obtain ⟨g17, rfl, rfl, H5, H6, H7, H9, H11, H13, H15, H17, HB⟩ := hcut
                  go_upto_region 11 with fail
                  go_cut [19, 20] from 76 to 80 (fun v19 v20 wx => ∃ g19 : Nat, v19 = .pointer (some ⟨g19, 0, none⟩) ∧ v20 = .int .i64 0 ∧ Aside0 (laws_FnBounds.V g5 1 a (⟨#[]⟩ : ByteArray) wx) ∧ Aside0 (laws_FnBounds.V g6 1 b (⟨#[]⟩ : ByteArray) wx) ∧ Aside0 (laws_FnBounds.V g7 1 b (⟨#[]⟩ : ByteArray) wx) ∧ Aside0 (laws_FnBounds.V g9 y1 y2 y3 wx) ∧ Aside0 (laws_FnBounds.V g11 s1 s2 s3 wx) ∧ Aside0 (laws_FnBounds.V g13 s1 s2 s3 wx) ∧ Aside0 (laws_FnBounds.V g15 q1 1 q3 wx) ∧ Aside0 (laws_FnBounds.V g17 n1 n2 n3 wx) ∧ Aside0 (laws_FnBounds.V g19 1 a (⟨#[]⟩ : ByteArray) wx) ∧ Aside0 (Below w.heap.size w wx))
                  case first =>
                    have x17_0 := blk_cell H17.out 0
                    have x17_1 := blk_cell H17.out 1
                    have x17_2 := blk_cell H17.out 2
                    go_wp2_with (go_at_call 24; (with_reducible refine (impl_Unary.calls (⟨#[45]⟩ : ByteArray) n1 n2 n3 1 a (⟨#[]⟩ : ByteArray) 0 _ H7_.out).mono ?_); rintro e w' ⟨rfl, hb⟩; have HBc := Lib.hid hb; clear hb)
                    go_meet
                    case rel => exact ⟨_, rfl, rfl, ⟨blk_alloc (blk_below H5.out HBc.out) _⟩, ⟨blk_alloc (blk_below H6.out HBc.out) _⟩, ⟨blk_alloc (blk_below H7.out HBc.out) _⟩, ⟨blk_alloc (blk_below H9.out HBc.out) _⟩, ⟨blk_alloc (blk_below H11.out HBc.out) _⟩, ⟨blk_alloc (blk_below H13.out HBc.out) _⟩, ⟨blk_alloc (blk_below H15.out HBc.out) _⟩, ⟨blk_alloc (blk_below H17.out HBc.out) _⟩, ⟨blk_new _ _⟩, ⟨below_alloc (HB.out.trans (HBc.out.mono HB.out.size)) _⟩⟩
                  case rest =>
                    clear HB H5 H6 H7 H9 H11 H13 H15 H17
                    obtain ⟨g19, rfl, rfl, H5, H6, H7, H9, H11, H13, H15, H17, H19, HB⟩ := hcut
                    go_upto_region 12 with fail
                    go_cut [21, 22] from 81 to 86 (fun v21 v22 wx => ∃ g21 : Nat, v21 = .pointer (some ⟨g21, 0, none⟩) ∧ v22 = .int .i64 14 ∧ Aside0 (laws_FnBounds.V g5 1 a (⟨#[]⟩ : ByteArray) wx) ∧ Aside0 (laws_FnBounds.V g6 1 b (⟨#[]⟩ : ByteArray) wx) ∧ Aside0 (laws_FnBounds.V g7 1 b (⟨#[]⟩ : ByteArray) wx) ∧ Aside0 (laws_FnBounds.V g9 y1 y2 y3 wx) ∧ Aside0 (laws_FnBounds.V g11 s1 s2 s3 wx) ∧ Aside0 (laws_FnBounds.V g13 s1 s2 s3 wx) ∧ Aside0 (laws_FnBounds.V g15 q1 1 q3 wx) ∧ Aside0 (laws_FnBounds.V g17 n1 n2 n3 wx) ∧ Aside0 (laws_FnBounds.V g19 1 a (⟨#[]⟩ : ByteArray) wx) ∧ Aside0 (laws_FnBounds.V g21 j1 j2 j3 wx) ∧ Aside0 (Below w.heap.size w wx))
                    case first =>
                      have x5_0 := blk_cell H5.out 0
                      have x5_1 := blk_cell H5.out 1
                      have x5_2 := blk_cell H5.out 2
                      have hcall : Calls Tryd.prog 19 #[.string (⟨#[109, 97, 120]⟩ : ByteArray), .slice (some ⟨wc.heap.size, 0, none⟩) 1 1] (wc.alloc (.cells #[.int .i64 1, .int .i64 a, .string (⟨#[]⟩ : ByteArray)] 29)) _ := impl_Builtin.calls k (⟨#[109, 97, 120]⟩ : ByteArray) (some ⟨wc.heap.size, 0, none⟩) 1 [(⟨1, a, (⟨#[]⟩ : ByteArray)⟩ : S29)] j1 j2 j3 14 (wc.alloc (.cells #[.int .i64 1, .int .i64 a, .string (⟨#[]⟩ : ByteArray)] 29)) (laws_FnBounds.row (blk_new _ _) (by rfl) (by simp)) (Nat.le_refl _) (My.tab_below hG (below_alloc HB.out _)) H8_.out
                      go_wp2_with (go_at_call 19; (with_reducible refine hcall.mono ?_); rintro e w' ⟨rfl, hb⟩; have HBc := Lib.hid hb; clear hb hcall)
                      go_meet
                      case rel => exact ⟨_, rfl, rfl, ⟨blk_alloc (blk_below (blk_alloc H5.out _) HBc.out) _⟩, ⟨blk_alloc (blk_below (blk_alloc H6.out _) HBc.out) _⟩, ⟨blk_alloc (blk_below (blk_alloc H7.out _) HBc.out) _⟩, ⟨blk_alloc (blk_below (blk_alloc H9.out _) HBc.out) _⟩, ⟨blk_alloc (blk_below (blk_alloc H11.out _) HBc.out) _⟩, ⟨blk_alloc (blk_below (blk_alloc H13.out _) HBc.out) _⟩, ⟨blk_alloc (blk_below (blk_alloc H15.out _) HBc.out) _⟩, ⟨blk_alloc (blk_below (blk_alloc H17.out _) HBc.out) _⟩, ⟨blk_alloc (blk_below (blk_alloc H19.out _) HBc.out) _⟩, ⟨blk_new _ _⟩, ⟨below_alloc ((below_alloc HB.out _).trans (HBc.out.mono (below_alloc HB.out _).size)) _⟩⟩
                    case rest =>
                      clear HB H5 H6 H7 H9 H11 H13 H15 H17 H19
                      obtain ⟨g21, rfl, rfl, H5, H6, H7, H9, H11, H13, H15, H17, H19, H21, HB⟩ := hcut
                      have x5_0 := blk_cell H5.out 0
                      have x5_1 := blk_cell H5.out 1
                      have x5_2 := blk_cell H5.out 2
                      have x6_0 := blk_cell H6.out 0
                      have x6_1 := blk_cell H6.out 1
                      have x6_2 := blk_cell H6.out 2
                      have x7_0 := blk_cell H7.out 0
                      have x7_1 := blk_cell H7.out 1
                      have x7_2 := blk_cell H7.out 2
                      have x11_0 := blk_cell H11.out 0
                      have x11_1 := blk_cell H11.out 1
                      have x11_2 := blk_cell H11.out 2
                      have x13_0 := blk_cell H13.out 0
                      have x13_1 := blk_cell H13.out 1
                      have x13_2 := blk_cell H13.out 2
                      have x15_0 := blk_cell H15.out 0
                      have x15_1 := blk_cell H15.out 1
                      have x15_2 := blk_cell H15.out 2
                      have x19_0 := blk_cell H19.out 0
                      have x19_1 := blk_cell H19.out 1
                      have x19_2 := blk_cell H19.out 2
                      go_upto_region 13 with fail
                      go_region_o
                      all_goals go_wp2_with fail
                      all_goals go_ret
                      all_goals exact ⟨by first | rfl | simp, by repeat (first | exact HB.out | apply below_drew)⟩
set_option maxHeartbeats 8000000 in
set_option maxRecDepth 100000 in
theorem laws_FnBounds.walk_eq (k : Nat) (A0 : Option Addr) (c0 : Nat) (l0 : List Int) (A1 : Option Addr) (c1 : Nat) (l1 : List Int) (w : World) (hr0 : Kd.C (Kd.int .u8) w A0 l0.length l0) (hc0 : l0.length ≤ c0) (hr1 : Kd.C (Kd.int .u8) w A1 l1.length l1) (hc1 : l1.length ≤ c1) (hG : Aside0 (My.Tab w)) (m0 : l0.length ≤ 1048576) (m1 : l1.length ≤ 1048576) (x y a  : Int) (e1 : laws_at.f l0 0 60000 = some x) (e2 : laws_at.f l1 0 60000 = some y) (ea : wrap64 (x - 30000) = a) (eb : wrap64 (y - 30000) = a)
    (y1 y2 s1 s2 q1 n1 n2 j1 j2 : Int) (y3 s3 q3 n3 j3 : ByteArray) (h1 : impl_Builtin.f k (⟨#[109, 97, 120]⟩ : ByteArray) [(⟨1, a, (⟨#[]⟩ : ByteArray)⟩ : S29), (⟨1, a, (⟨#[]⟩ : ByteArray)⟩ : S29)] = some (1, a, (⟨#[]⟩ : ByteArray), 0)) (h2 : impl_Builtin.f k (⟨#[109, 105, 110]⟩ : ByteArray) [(⟨1, a, (⟨#[]⟩ : ByteArray)⟩ : S29), (⟨1, a, (⟨#[]⟩ : ByteArray)⟩ : S29)] = some (y1, y2, y3, 0)) (h3 : impl_Binary.f k (⟨#[43]⟩ : ByteArray) 1 a (⟨#[]⟩ : ByteArray) y1 y2 y3 = some (s1, s2, s3, 0)) (h4 : impl_Binary.f k (⟨#[43]⟩ : ByteArray) 1 a (⟨#[]⟩ : ByteArray) 1 a (⟨#[]⟩ : ByteArray) = some (s1, s2, s3, 0)) (h5 : impl_Binary.f k (⟨#[60]⟩ : ByteArray) 1 a (⟨#[]⟩ : ByteArray) 1 a (⟨#[]⟩ : ByteArray) = some (q1, 0, q3, 0)) (h6 : impl_Unary.f (⟨#[45]⟩ : ByteArray) 1 a (⟨#[]⟩ : ByteArray) = some (n1, n2, n3, 0)) (h7 : impl_Unary.f (⟨#[45]⟩ : ByteArray) n1 n2 n3 = some (1, a, (⟨#[]⟩ : ByteArray), 0)) (h8 : impl_Builtin.f k (⟨#[109, 97, 120]⟩ : ByteArray) [(⟨1, a, (⟨#[]⟩ : ByteArray)⟩ : S29)] = some (j1, j2, j3, 14)) :
    Calls Tryd.prog 7 #[.slice A0 l0.length c0, .slice A1 l1.length c1] w fun e w' => e = .returned (.bool true) ∧ Below w.heap.size w w' := by
  have hu := Tryd.underlying29
  have mixed : Tryd.prog.follows Departure.mixedOrders = true := by kernel_rfl
  have b0 : decide (1048576 < (l0.length : Int)) = false := decide_eq_false (by omega)
  have b1 : decide (1048576 < (l1.length : Int)) = false := decide_eq_false (by omega)
  have b2 : decide (1048576 < l0.length) = false := decide_eq_false (by omega)
  have b3 : decide (1048576 < l1.length) = false := decide_eq_false (by omega)
  have M0_ := Lib.hid m0
  have M1_ := Lib.hid m1
  have HR0_ := Lib.hid hr0
  have HC0_ := Lib.hid hc0
  have HR1_ := Lib.hid hr1
  have HC1_ := Lib.hid hc1
  have E1_ := Lib.hid e1
  have E2_ := Lib.hid e2
  have EA_ := Lib.hid ea
  have EB_ := Lib.hid eb
  have H1_ := Lib.hid h1
  have H2_ := Lib.hid h2
  have H3_ := Lib.hid h3
  have H4_ := Lib.hid h4
  have H5_ := Lib.hid h5
  have H6_ := Lib.hid h6
  have H7_ := Lib.hid h7
  have H8_ := Lib.hid h8
  clear m0 m1 hr0 hc0 hr1 hc1 e1 e2 ea eb h1 h2 h3 h4 h5 h6 h7 h8
  go_enter Tryd.func7, Tryd.ntmps7
  go_upto_region 3 with fail
  go_cut [5] from 31 to 34 (fun v5 wx => ∃ g5 : Nat, v5 = .pointer (some ⟨g5, 0, none⟩) ∧ Aside0 (laws_FnBounds.V g5 1 a (⟨#[]⟩ : ByteArray) wx) ∧ Aside0 (Below w.heap.size w wx))
  case first =>
    go_wp2_with (go_at_call 17; (with_reducible refine (laws_at.calls A0 c0 l0 0 60000 x _ ?q1 HC0_.out E1_.out).mono ?_); (case q1 => exact HR0_.out); rintro e wa ⟨rfl, hd⟩; have HD1 := Lib.hid hd.below; clear hd)
    go_meet
    case rel => exact ⟨_, rfl, ⟨by rw [← EA_.out]; exact blk_new _ _⟩, ⟨below_alloc HD1.out _⟩⟩
  case rest =>
    obtain ⟨g5, rfl, H5, HB⟩ := hcut
    go_upto_region 4 with fail
    go_cut [6] from 35 to 38 (fun v6 wx => ∃ g6 : Nat, v6 = .pointer (some ⟨g6, 0, none⟩) ∧ Aside0 (laws_FnBounds.V g5 1 a (⟨#[]⟩ : ByteArray) wx) ∧ Aside0 (laws_FnBounds.V g6 1 a (⟨#[]⟩ : ByteArray) wx) ∧ Aside0 (Below w.heap.size w wx))
    case first =>
      go_wp2_with (go_at_call 17; (with_reducible refine (laws_at.calls A1 c1 l1 0 60000 y _ ?q1 HC1_.out E2_.out).mono ?_); (case q1 => exact Kd.C_below HR1_.out HB.out); rintro e wa ⟨rfl, hd⟩; have HBc := Lib.hid hd.below; clear hd)
      go_meet
      case rel => exact ⟨_, rfl, ⟨blk_alloc (blk_below H5.out HBc.out) _⟩, ⟨by rw [← EB_.out]; exact blk_new _ _⟩, ⟨below_alloc (HB.out.trans (HBc.out.mono HB.out.size)) _⟩⟩
    case rest =>
      clear HB H5
      obtain ⟨g6, rfl, H5, H6, HB⟩ := hcut
      go_upto_region 5 with fail
      go_cut [7, 8] from 39 to 45 (fun v7 v8 wx => ∃ g7 : Nat, v7 = .pointer (some ⟨g7, 0, none⟩) ∧ v8 = .int .i64 0 ∧ Aside0 (laws_FnBounds.V g5 1 a (⟨#[]⟩ : ByteArray) wx) ∧ Aside0 (laws_FnBounds.V g6 1 a (⟨#[]⟩ : ByteArray) wx) ∧ Aside0 (laws_FnBounds.V g7 1 a (⟨#[]⟩ : ByteArray) wx) ∧ Aside0 (Below w.heap.size w wx))
      case first =>
        have x5_0 := blk_cell H5.out 0
        have x5_1 := blk_cell H5.out 1
        have x5_2 := blk_cell H5.out 2
        have x6_0 := blk_cell H6.out 0
        have x6_1 := blk_cell H6.out 1
        have x6_2 := blk_cell H6.out 2
        have hcall : Calls Tryd.prog 19 #[.string (⟨#[109, 97, 120]⟩ : ByteArray), .slice (some ⟨wc.heap.size, 0, none⟩) 2 2] (wc.alloc (.cells #[.int .i64 1, .int .i64 a, .string (⟨#[]⟩ : ByteArray), .int .i64 1, .int .i64 a, .string (⟨#[]⟩ : ByteArray)] 29)) _ := impl_Builtin.calls k (⟨#[109, 97, 120]⟩ : ByteArray) (some ⟨wc.heap.size, 0, none⟩) 2 [(⟨1, a, (⟨#[]⟩ : ByteArray)⟩ : S29), (⟨1, a, (⟨#[]⟩ : ByteArray)⟩ : S29)] 1 a (⟨#[]⟩ : ByteArray) 0 (wc.alloc (.cells #[.int .i64 1, .int .i64 a, .string (⟨#[]⟩ : ByteArray), .int .i64 1, .int .i64 a, .string (⟨#[]⟩ : ByteArray)] 29)) (laws_FnBounds.row (blk_new _ _) (by rfl) (by simp)) (Nat.le_refl _) (My.tab_below hG (below_alloc HB.out _)) H1_.out
        go_wp2_with (go_at_call 19; (with_reducible refine hcall.mono ?_); rintro e w' ⟨rfl, hb⟩; have HBc := Lib.hid hb; clear hb hcall)
        go_meet
        case rel => exact ⟨_, rfl, rfl, ⟨blk_alloc (blk_below (blk_alloc H5.out _) HBc.out) _⟩, ⟨blk_alloc (blk_below (blk_alloc H6.out _) HBc.out) _⟩, ⟨blk_new _ _⟩, ⟨below_alloc ((below_alloc HB.out _).trans (HBc.out.mono (below_alloc HB.out _).size)) _⟩⟩
      case rest =>
        clear HB H5 H6
        obtain ⟨g7, rfl, rfl, H5, H6, H7, HB⟩ := hcut
        go_upto_region 6 with fail
        go_cut [9, 10] from 46 to 52 (fun v9 v10 wx => ∃ g9 : Nat, v9 = .pointer (some ⟨g9, 0, none⟩) ∧ v10 = .int .i64 0 ∧ Aside0 (laws_FnBounds.V g5 1 a (⟨#[]⟩ : ByteArray) wx) ∧ Aside0 (laws_FnBounds.V g6 1 a (⟨#[]⟩ : ByteArray) wx) ∧ Aside0 (laws_FnBounds.V g7 1 a (⟨#[]⟩ : ByteArray) wx) ∧ Aside0 (laws_FnBounds.V g9 y1 y2 y3 wx) ∧ Aside0 (Below w.heap.size w wx))
        case first =>
          have x5_0 := blk_cell H5.out 0
          have x5_1 := blk_cell H5.out 1
          have x5_2 := blk_cell H5.out 2
          have x6_0 := blk_cell H6.out 0
          have x6_1 := blk_cell H6.out 1
          have x6_2 := blk_cell H6.out 2
          have hcall : Calls Tryd.prog 19 #[.string (⟨#[109, 105, 110]⟩ : ByteArray), .slice (some ⟨wc.heap.size, 0, none⟩) 2 2] (wc.alloc (.cells #[.int .i64 1, .int .i64 a, .string (⟨#[]⟩ : ByteArray), .int .i64 1, .int .i64 a, .string (⟨#[]⟩ : ByteArray)] 29)) _ := impl_Builtin.calls k (⟨#[109, 105, 110]⟩ : ByteArray) (some ⟨wc.heap.size, 0, none⟩) 2 [(⟨1, a, (⟨#[]⟩ : ByteArray)⟩ : S29), (⟨1, a, (⟨#[]⟩ : ByteArray)⟩ : S29)] y1 y2 y3 0 (wc.alloc (.cells #[.int .i64 1, .int .i64 a, .string (⟨#[]⟩ : ByteArray), .int .i64 1, .int .i64 a, .string (⟨#[]⟩ : ByteArray)] 29)) (laws_FnBounds.row (blk_new _ _) (by rfl) (by simp)) (Nat.le_refl _) (My.tab_below hG (below_alloc HB.out _)) H2_.out
          go_wp2_with (go_at_call 19; (with_reducible refine hcall.mono ?_); rintro e w' ⟨rfl, hb⟩; have HBc := Lib.hid hb; clear hb hcall)
          go_meet
          case rel => exact ⟨_, rfl, rfl, ⟨blk_alloc (blk_below (blk_alloc H5.out _) HBc.out) _⟩, ⟨blk_alloc (blk_below (blk_alloc H6.out _) HBc.out) _⟩, ⟨blk_alloc (blk_below (blk_alloc H7.out _) HBc.out) _⟩, ⟨blk_new _ _⟩, ⟨below_alloc ((below_alloc HB.out _).trans (HBc.out.mono (below_alloc HB.out _).size)) _⟩⟩
        case rest =>
          clear HB H5 H6 H7
          obtain ⟨g9, rfl, rfl, H5, H6, H7, H9, HB⟩ := hcut
          go_upto_region 7 with fail
          go_cut [11, 12] from 53 to 58 (fun v11 v12 wx => ∃ g11 : Nat, v11 = .pointer (some ⟨g11, 0, none⟩) ∧ v12 = .int .i64 0 ∧ Aside0 (laws_FnBounds.V g5 1 a (⟨#[]⟩ : ByteArray) wx) ∧ Aside0 (laws_FnBounds.V g6 1 a (⟨#[]⟩ : ByteArray) wx) ∧ Aside0 (laws_FnBounds.V g7 1 a (⟨#[]⟩ : ByteArray) wx) ∧ Aside0 (laws_FnBounds.V g9 y1 y2 y3 wx) ∧ Aside0 (laws_FnBounds.V g11 s1 s2 s3 wx) ∧ Aside0 (Below w.heap.size w wx))
          case first =>
            have x7_0 := blk_cell H7.out 0
            have x7_1 := blk_cell H7.out 1
            have x7_2 := blk_cell H7.out 2
            have x9_0 := blk_cell H9.out 0
            have x9_1 := blk_cell H9.out 1
            have x9_2 := blk_cell H9.out 2
            go_wp2_with (go_at_call 18; (with_reducible refine (impl_Binary.calls k (⟨#[43]⟩ : ByteArray) 1 a (⟨#[]⟩ : ByteArray) y1 y2 y3 s1 s2 s3 0 _ H3_.out).mono ?_); rintro e w' ⟨rfl, hb⟩; have HBc := Lib.hid hb; clear hb)
            go_meet
            case rel => exact ⟨_, rfl, rfl, ⟨blk_alloc (blk_below H5.out HBc.out) _⟩, ⟨blk_alloc (blk_below H6.out HBc.out) _⟩, ⟨blk_alloc (blk_below H7.out HBc.out) _⟩, ⟨blk_alloc (blk_below H9.out HBc.out) _⟩, ⟨blk_new _ _⟩, ⟨below_alloc (HB.out.trans (HBc.out.mono HB.out.size)) _⟩⟩
          case rest =>
            clear HB H5 H6 H7 H9
            obtain ⟨g11, rfl, rfl, H5, H6, H7, H9, H11, HB⟩ := hcut
            go_upto_region 8 with fail
            go_cut [13, 14] from 59 to 64 (fun v13 v14 wx => ∃ g13 : Nat, v13 = .pointer (some ⟨g13, 0, none⟩) ∧ v14 = .int .i64 0 ∧ Aside0 (laws_FnBounds.V g5 1 a (⟨#[]⟩ : ByteArray) wx) ∧ Aside0 (laws_FnBounds.V g6 1 a (⟨#[]⟩ : ByteArray) wx) ∧ Aside0 (laws_FnBounds.V g7 1 a (⟨#[]⟩ : ByteArray) wx) ∧ Aside0 (laws_FnBounds.V g9 y1 y2 y3 wx) ∧ Aside0 (laws_FnBounds.V g11 s1 s2 s3 wx) ∧ Aside0 (laws_FnBounds.V g13 s1 s2 s3 wx) ∧ Aside0 (Below w.heap.size w wx))
            case first =>
              have x5_0 := blk_cell H5.out 0
              have x5_1 := blk_cell H5.out 1
              have x5_2 := blk_cell H5.out 2
              have x6_0 := blk_cell H6.out 0
              have x6_1 := blk_cell H6.out 1
              have x6_2 := blk_cell H6.out 2
              go_wp2_with (go_at_call 18; (with_reducible refine (impl_Binary.calls k (⟨#[43]⟩ : ByteArray) 1 a (⟨#[]⟩ : ByteArray) 1 a (⟨#[]⟩ : ByteArray) s1 s2 s3 0 _ H4_.out).mono ?_); rintro e w' ⟨rfl, hb⟩; have HBc := Lib.hid hb; clear hb)
              go_meet
              case rel => exact ⟨_, rfl, rfl, ⟨blk_alloc (blk_below H5.out HBc.out) _⟩, ⟨blk_alloc (blk_below H6.out HBc.out) _⟩, ⟨blk_alloc (blk_below H7.out HBc.out) _⟩, ⟨blk_alloc (blk_below H9.out HBc.out) _⟩, ⟨blk_alloc (blk_below H11.out HBc.out) _⟩, ⟨blk_new _ _⟩, ⟨below_alloc (HB.out.trans (HBc.out.mono HB.out.size)) _⟩⟩
            case rest =>
              clear HB H5 H6 H7 H9 H11
              obtain ⟨g13, rfl, rfl, H5, H6, H7, H9, H11, H13, HB⟩ := hcut
              go_upto_region 9 with fail
              go_cut [15, 16] from 65 to 70 (fun v15 v16 wx => ∃ g15 : Nat, v15 = .pointer (some ⟨g15, 0, none⟩) ∧ v16 = .int .i64 0 ∧ Aside0 (laws_FnBounds.V g5 1 a (⟨#[]⟩ : ByteArray) wx) ∧ Aside0 (laws_FnBounds.V g6 1 a (⟨#[]⟩ : ByteArray) wx) ∧ Aside0 (laws_FnBounds.V g7 1 a (⟨#[]⟩ : ByteArray) wx) ∧ Aside0 (laws_FnBounds.V g9 y1 y2 y3 wx) ∧ Aside0 (laws_FnBounds.V g11 s1 s2 s3 wx) ∧ Aside0 (laws_FnBounds.V g13 s1 s2 s3 wx) ∧ Aside0 (laws_FnBounds.V g15 q1 0 q3 wx) ∧ Aside0 (Below w.heap.size w wx))
              case first =>
                have x5_0 := blk_cell H5.out 0
                have x5_1 := blk_cell H5.out 1
                have x5_2 := blk_cell H5.out 2
                have x6_0 := blk_cell H6.out 0
                have x6_1 := blk_cell H6.out 1
                have x6_2 := blk_cell H6.out 2
                go_wp2_with (go_at_call 18; (with_reducible refine (impl_Binary.calls k (⟨#[60]⟩ : ByteArray) 1 a (⟨#[]⟩ : ByteArray) 1 a (⟨#[]⟩ : ByteArray) q1 0 q3 0 _ H5_.out).mono ?_); rintro e w' ⟨rfl, hb⟩; have HBc := Lib.hid hb; clear hb)
                go_meet
                case rel => exact ⟨_, rfl, rfl, ⟨blk_alloc (blk_below H5.out HBc.out) _⟩, ⟨blk_alloc (blk_below H6.out HBc.out) _⟩, ⟨blk_alloc (blk_below H7.out HBc.out) _⟩, ⟨blk_alloc (blk_below H9.out HBc.out) _⟩, ⟨blk_alloc (blk_below H11.out HBc.out) _⟩, ⟨blk_alloc (blk_below H13.out HBc.out) _⟩, ⟨blk_new _ _⟩, ⟨below_alloc (HB.out.trans (HBc.out.mono HB.out.size)) _⟩⟩
              case rest =>
                clear HB H5 H6 H7 H9 H11 H13
                obtain ⟨g15, rfl, rfl, H5, H6, H7, H9, H11, H13, H15, HB⟩ := hcut
                go_upto_region 10 with fail
                go_cut [17, 18] from 71 to 75 (fun v17 v18 wx => ∃ g17 : Nat, v17 = .pointer (some ⟨g17, 0, none⟩) ∧ v18 = .int .i64 0 ∧ Aside0 (laws_FnBounds.V g5 1 a (⟨#[]⟩ : ByteArray) wx) ∧ Aside0 (laws_FnBounds.V g6 1 a (⟨#[]⟩ : ByteArray) wx) ∧ Aside0 (laws_FnBounds.V g7 1 a (⟨#[]⟩ : ByteArray) wx) ∧ Aside0 (laws_FnBounds.V g9 y1 y2 y3 wx) ∧ Aside0 (laws_FnBounds.V g11 s1 s2 s3 wx) ∧ Aside0 (laws_FnBounds.V g13 s1 s2 s3 wx) ∧ Aside0 (laws_FnBounds.V g15 q1 0 q3 wx) ∧ Aside0 (laws_FnBounds.V g17 n1 n2 n3 wx) ∧ Aside0 (Below w.heap.size w wx))
                case first =>
                  have x5_0 := blk_cell H5.out 0
                  have x5_1 := blk_cell H5.out 1
                  have x5_2 := blk_cell H5.out 2
                  go_wp2_with (go_at_call 24; (with_reducible refine (impl_Unary.calls (⟨#[45]⟩ : ByteArray) 1 a (⟨#[]⟩ : ByteArray) n1 n2 n3 0 _ H6_.out).mono ?_); rintro e w' ⟨rfl, hb⟩; have HBc := Lib.hid hb; clear hb)
                  go_meet
                  case rel => exact ⟨_, rfl, rfl, ⟨blk_alloc (blk_below H5.out HBc.out) _⟩, ⟨blk_alloc (blk_below H6.out HBc.out) _⟩, ⟨blk_alloc (blk_below H7.out HBc.out) _⟩, ⟨blk_alloc (blk_below H9.out HBc.out) _⟩, ⟨blk_alloc (blk_below H11.out HBc.out) _⟩, ⟨blk_alloc (blk_below H13.out HBc.out) _⟩, ⟨blk_alloc (blk_below H15.out HBc.out) _⟩, ⟨blk_new _ _⟩, ⟨below_alloc (HB.out.trans (HBc.out.mono HB.out.size)) _⟩⟩
                case rest =>
                  clear HB H5 H6 H7 H9 H11 H13 H15
                  obtain ⟨g17, rfl, rfl, H5, H6, H7, H9, H11, H13, H15, H17, HB⟩ := hcut
                  go_upto_region 11 with fail
                  go_cut [19, 20] from 76 to 80 (fun v19 v20 wx => ∃ g19 : Nat, v19 = .pointer (some ⟨g19, 0, none⟩) ∧ v20 = .int .i64 0 ∧ Aside0 (laws_FnBounds.V g5 1 a (⟨#[]⟩ : ByteArray) wx) ∧ Aside0 (laws_FnBounds.V g6 1 a (⟨#[]⟩ : ByteArray) wx) ∧ Aside0 (laws_FnBounds.V g7 1 a (⟨#[]⟩ : ByteArray) wx) ∧ Aside0 (laws_FnBounds.V g9 y1 y2 y3 wx) ∧ Aside0 (laws_FnBounds.V g11 s1 s2 s3 wx) ∧ Aside0 (laws_FnBounds.V g13 s1 s2 s3 wx) ∧ Aside0 (laws_FnBounds.V g15 q1 0 q3 wx) ∧ Aside0 (laws_FnBounds.V g17 n1 n2 n3 wx) ∧ Aside0 (laws_FnBounds.V g19 1 a (⟨#[]⟩ : ByteArray) wx) ∧ Aside0 (Below w.heap.size w wx))
                  case first =>
                    have x17_0 := blk_cell H17.out 0
                    have x17_1 := blk_cell H17.out 1
                    have x17_2 := blk_cell H17.out 2
                    go_wp2_with (go_at_call 24; (with_reducible refine (impl_Unary.calls (⟨#[45]⟩ : ByteArray) n1 n2 n3 1 a (⟨#[]⟩ : ByteArray) 0 _ H7_.out).mono ?_); rintro e w' ⟨rfl, hb⟩; have HBc := Lib.hid hb; clear hb)
                    go_meet
                    case rel => exact ⟨_, rfl, rfl, ⟨blk_alloc (blk_below H5.out HBc.out) _⟩, ⟨blk_alloc (blk_below H6.out HBc.out) _⟩, ⟨blk_alloc (blk_below H7.out HBc.out) _⟩, ⟨blk_alloc (blk_below H9.out HBc.out) _⟩, ⟨blk_alloc (blk_below H11.out HBc.out) _⟩, ⟨blk_alloc (blk_below H13.out HBc.out) _⟩, ⟨blk_alloc (blk_below H15.out HBc.out) _⟩, ⟨blk_alloc (blk_below H17.out HBc.out) _⟩, ⟨blk_new _ _⟩, ⟨below_alloc (HB.out.trans (HBc.out.mono HB.out.size)) _⟩⟩
                  case rest =>
                    clear HB H5 H6 H7 H9 H11 H13 H15 H17
                    obtain ⟨g19, rfl, rfl, H5, H6, H7, H9, H11, H13, H15, H17, H19, HB⟩ := hcut
                    go_upto_region 12 with fail
                    go_cut [21, 22] from 81 to 86 (fun v21 v22 wx => ∃ g21 : Nat, v21 = .pointer (some ⟨g21, 0, none⟩) ∧ v22 = .int .i64 14 ∧ Aside0 (laws_FnBounds.V g5 1 a (⟨#[]⟩ : ByteArray) wx) ∧ Aside0 (laws_FnBounds.V g6 1 a (⟨#[]⟩ : ByteArray) wx) ∧ Aside0 (laws_FnBounds.V g7 1 a (⟨#[]⟩ : ByteArray) wx) ∧ Aside0 (laws_FnBounds.V g9 y1 y2 y3 wx) ∧ Aside0 (laws_FnBounds.V g11 s1 s2 s3 wx) ∧ Aside0 (laws_FnBounds.V g13 s1 s2 s3 wx) ∧ Aside0 (laws_FnBounds.V g15 q1 0 q3 wx) ∧ Aside0 (laws_FnBounds.V g17 n1 n2 n3 wx) ∧ Aside0 (laws_FnBounds.V g19 1 a (⟨#[]⟩ : ByteArray) wx) ∧ Aside0 (laws_FnBounds.V g21 j1 j2 j3 wx) ∧ Aside0 (Below w.heap.size w wx))
                    case first =>
                      have x5_0 := blk_cell H5.out 0
                      have x5_1 := blk_cell H5.out 1
                      have x5_2 := blk_cell H5.out 2
                      have hcall : Calls Tryd.prog 19 #[.string (⟨#[109, 97, 120]⟩ : ByteArray), .slice (some ⟨wc.heap.size, 0, none⟩) 1 1] (wc.alloc (.cells #[.int .i64 1, .int .i64 a, .string (⟨#[]⟩ : ByteArray)] 29)) _ := impl_Builtin.calls k (⟨#[109, 97, 120]⟩ : ByteArray) (some ⟨wc.heap.size, 0, none⟩) 1 [(⟨1, a, (⟨#[]⟩ : ByteArray)⟩ : S29)] j1 j2 j3 14 (wc.alloc (.cells #[.int .i64 1, .int .i64 a, .string (⟨#[]⟩ : ByteArray)] 29)) (laws_FnBounds.row (blk_new _ _) (by rfl) (by simp)) (Nat.le_refl _) (My.tab_below hG (below_alloc HB.out _)) H8_.out
                      go_wp2_with (go_at_call 19; (with_reducible refine hcall.mono ?_); rintro e w' ⟨rfl, hb⟩; have HBc := Lib.hid hb; clear hb hcall)
                      go_meet
                      case rel => exact ⟨_, rfl, rfl, ⟨blk_alloc (blk_below (blk_alloc H5.out _) HBc.out) _⟩, ⟨blk_alloc (blk_below (blk_alloc H6.out _) HBc.out) _⟩, ⟨blk_alloc (blk_below (blk_alloc H7.out _) HBc.out) _⟩, ⟨blk_alloc (blk_below (blk_alloc H9.out _) HBc.out) _⟩, ⟨blk_alloc (blk_below (blk_alloc H11.out _) HBc.out) _⟩, ⟨blk_alloc (blk_below (blk_alloc H13.out _) HBc.out) _⟩, ⟨blk_alloc (blk_below (blk_alloc H15.out _) HBc.out) _⟩, ⟨blk_alloc (blk_below (blk_alloc H17.out _) HBc.out) _⟩, ⟨blk_alloc (blk_below (blk_alloc H19.out _) HBc.out) _⟩, ⟨blk_new _ _⟩, ⟨below_alloc ((below_alloc HB.out _).trans (HBc.out.mono (below_alloc HB.out _).size)) _⟩⟩
                    case rest =>
                      clear HB H5 H6 H7 H9 H11 H13 H15 H17 H19
                      obtain ⟨g21, rfl, rfl, H5, H6, H7, H9, H11, H13, H15, H17, H19, H21, HB⟩ := hcut
                      have x5_0 := blk_cell H5.out 0
                      have x5_1 := blk_cell H5.out 1
                      have x5_2 := blk_cell H5.out 2
                      have x6_0 := blk_cell H6.out 0
                      have x6_1 := blk_cell H6.out 1
                      have x6_2 := blk_cell H6.out 2
                      have x7_0 := blk_cell H7.out 0
                      have x7_1 := blk_cell H7.out 1
                      have x7_2 := blk_cell H7.out 2
                      have x11_0 := blk_cell H11.out 0
                      have x11_1 := blk_cell H11.out 1
                      have x11_2 := blk_cell H11.out 2
                      have x13_0 := blk_cell H13.out 0
                      have x13_1 := blk_cell H13.out 1
                      have x13_2 := blk_cell H13.out 2
                      have x15_0 := blk_cell H15.out 0
                      have x15_1 := blk_cell H15.out 1
                      have x15_2 := blk_cell H15.out 2
                      have x19_0 := blk_cell H19.out 0
                      have x19_1 := blk_cell H19.out 1
                      have x19_2 := blk_cell H19.out 2
                      go_upto_region 13 with fail
                      go_region_o
                      all_goals go_wp2_with fail
                      all_goals go_ret
                      all_goals exact ⟨by first | rfl | simp, by repeat (first | exact HB.out | apply below_drew)⟩
set_option maxHeartbeats 8000000 in
set_option maxRecDepth 100000 in
theorem laws_FnBounds.walk_gt (k : Nat) (A0 : Option Addr) (c0 : Nat) (l0 : List Int) (A1 : Option Addr) (c1 : Nat) (l1 : List Int) (w : World) (hr0 : Kd.C (Kd.int .u8) w A0 l0.length l0) (hc0 : l0.length ≤ c0) (hr1 : Kd.C (Kd.int .u8) w A1 l1.length l1) (hc1 : l1.length ≤ c1) (hG : Aside0 (My.Tab w)) (m0 : l0.length ≤ 1048576) (m1 : l1.length ≤ 1048576) (x y a b : Int) (e1 : laws_at.f l0 0 60000 = some x) (e2 : laws_at.f l1 0 60000 = some y) (ea : wrap64 (x - 30000) = a) (eb : wrap64 (y - 30000) = b) (hne : a ≠ b)
    (y1 y2 s1 s2 q1 n1 n2 j1 j2 : Int) (y3 s3 q3 n3 j3 : ByteArray) (h1 : impl_Builtin.f k (⟨#[109, 97, 120]⟩ : ByteArray) [(⟨1, a, (⟨#[]⟩ : ByteArray)⟩ : S29), (⟨1, b, (⟨#[]⟩ : ByteArray)⟩ : S29)] = some (1, a, (⟨#[]⟩ : ByteArray), 0)) (h2 : impl_Builtin.f k (⟨#[109, 105, 110]⟩ : ByteArray) [(⟨1, a, (⟨#[]⟩ : ByteArray)⟩ : S29), (⟨1, b, (⟨#[]⟩ : ByteArray)⟩ : S29)] = some (y1, y2, y3, 0)) (h3 : impl_Binary.f k (⟨#[43]⟩ : ByteArray) 1 a (⟨#[]⟩ : ByteArray) y1 y2 y3 = some (s1, s2, s3, 0)) (h4 : impl_Binary.f k (⟨#[43]⟩ : ByteArray) 1 a (⟨#[]⟩ : ByteArray) 1 b (⟨#[]⟩ : ByteArray) = some (s1, s2, s3, 0)) (h5 : impl_Binary.f k (⟨#[60]⟩ : ByteArray) 1 a (⟨#[]⟩ : ByteArray) 1 b (⟨#[]⟩ : ByteArray) = some (q1, 0, q3, 0)) (h6 : impl_Unary.f (⟨#[45]⟩ : ByteArray) 1 a (⟨#[]⟩ : ByteArray) = some (n1, n2, n3, 0)) (h7 : impl_Unary.f (⟨#[45]⟩ : ByteArray) n1 n2 n3 = some (1, a, (⟨#[]⟩ : ByteArray), 0)) (h8 : impl_Builtin.f k (⟨#[109, 97, 120]⟩ : ByteArray) [(⟨1, a, (⟨#[]⟩ : ByteArray)⟩ : S29)] = some (j1, j2, j3, 14)) :
    Calls Tryd.prog 7 #[.slice A0 l0.length c0, .slice A1 l1.length c1] w fun e w' => e = .returned (.bool true) ∧ Below w.heap.size w w' := by
  have hu := Tryd.underlying29
  have mixed : Tryd.prog.follows Departure.mixedOrders = true := by kernel_rfl
  have b0 : decide (1048576 < (l0.length : Int)) = false := decide_eq_false (by omega)
  have b1 : decide (1048576 < (l1.length : Int)) = false := decide_eq_false (by omega)
  have b2 : decide (1048576 < l0.length) = false := decide_eq_false (by omega)
  have b3 : decide (1048576 < l1.length) = false := decide_eq_false (by omega)
  have z0 : (a == b) = false := beq_eq_false_iff_ne.2 hne
  have z1 : (b == a) = false := beq_eq_false_iff_ne.2 (Ne.symm hne)
  have z2 : (a != b) = true := bne_iff_ne.2 hne
  clear hne
  have M0_ := Lib.hid m0
  have M1_ := Lib.hid m1
  have HR0_ := Lib.hid hr0
  have HC0_ := Lib.hid hc0
  have HR1_ := Lib.hid hr1
  have HC1_ := Lib.hid hc1
  have E1_ := Lib.hid e1
  have E2_ := Lib.hid e2
  have EA_ := Lib.hid ea
  have EB_ := Lib.hid eb
  have H1_ := Lib.hid h1
  have H2_ := Lib.hid h2
  have H3_ := Lib.hid h3
  have H4_ := Lib.hid h4
  have H5_ := Lib.hid h5
  have H6_ := Lib.hid h6
  have H7_ := Lib.hid h7
  have H8_ := Lib.hid h8
  clear m0 m1 hr0 hc0 hr1 hc1 e1 e2 ea eb h1 h2 h3 h4 h5 h6 h7 h8
  go_enter Tryd.func7, Tryd.ntmps7
  go_upto_region 3 with fail
  go_cut [5] from 31 to 34 (fun v5 wx => ∃ g5 : Nat, v5 = .pointer (some ⟨g5, 0, none⟩) ∧ Aside0 (laws_FnBounds.V g5 1 a (⟨#[]⟩ : ByteArray) wx) ∧ Aside0 (Below w.heap.size w wx))
  case first =>
    go_wp2_with (go_at_call 17; (with_reducible refine (laws_at.calls A0 c0 l0 0 60000 x _ ?q1 HC0_.out E1_.out).mono ?_); (case q1 => exact HR0_.out); rintro e wa ⟨rfl, hd⟩; have HD1 := Lib.hid hd.below; clear hd)
    go_meet
    case rel => exact ⟨_, rfl, ⟨by rw [← EA_.out]; exact blk_new _ _⟩, ⟨below_alloc HD1.out _⟩⟩
  case rest =>
    obtain ⟨g5, rfl, H5, HB⟩ := hcut
    go_upto_region 4 with fail
    go_cut [6] from 35 to 38 (fun v6 wx => ∃ g6 : Nat, v6 = .pointer (some ⟨g6, 0, none⟩) ∧ Aside0 (laws_FnBounds.V g5 1 a (⟨#[]⟩ : ByteArray) wx) ∧ Aside0 (laws_FnBounds.V g6 1 b (⟨#[]⟩ : ByteArray) wx) ∧ Aside0 (Below w.heap.size w wx))
    case first =>
      go_wp2_with (go_at_call 17; (with_reducible refine (laws_at.calls A1 c1 l1 0 60000 y _ ?q1 HC1_.out E2_.out).mono ?_); (case q1 => exact Kd.C_below HR1_.out HB.out); rintro e wa ⟨rfl, hd⟩; have HBc := Lib.hid hd.below; clear hd)
      go_meet
      case rel => exact ⟨_, rfl, ⟨blk_alloc (blk_below H5.out HBc.out) _⟩, ⟨by rw [← EB_.out]; exact blk_new _ _⟩, ⟨below_alloc (HB.out.trans (HBc.out.mono HB.out.size)) _⟩⟩
    case rest =>
      clear HB H5
      obtain ⟨g6, rfl, H5, H6, HB⟩ := hcut
      go_upto_region 5 with fail
      go_cut [7, 8] from 39 to 45 (fun v7 v8 wx => ∃ g7 : Nat, v7 = .pointer (some ⟨g7, 0, none⟩) ∧ v8 = .int .i64 0 ∧ Aside0 (laws_FnBounds.V g5 1 a (⟨#[]⟩ : ByteArray) wx) ∧ Aside0 (laws_FnBounds.V g6 1 b (⟨#[]⟩ : ByteArray) wx) ∧ Aside0 (laws_FnBounds.V g7 1 a (⟨#[]⟩ : ByteArray) wx) ∧ Aside0 (Below w.heap.size w wx))
      case first =>
        have x5_0 := blk_cell H5.out 0
        have x5_1 := blk_cell H5.out 1
        have x5_2 := blk_cell H5.out 2
        have x6_0 := blk_cell H6.out 0
        have x6_1 := blk_cell H6.out 1
        have x6_2 := blk_cell H6.out 2
        have hcall : Calls Tryd.prog 19 #[.string (⟨#[109, 97, 120]⟩ : ByteArray), .slice (some ⟨wc.heap.size, 0, none⟩) 2 2] (wc.alloc (.cells #[.int .i64 1, .int .i64 a, .string (⟨#[]⟩ : ByteArray), .int .i64 1, .int .i64 b, .string (⟨#[]⟩ : ByteArray)] 29)) _ := impl_Builtin.calls k (⟨#[109, 97, 120]⟩ : ByteArray) (some ⟨wc.heap.size, 0, none⟩) 2 [(⟨1, a, (⟨#[]⟩ : ByteArray)⟩ : S29), (⟨1, b, (⟨#[]⟩ : ByteArray)⟩ : S29)] 1 a (⟨#[]⟩ : ByteArray) 0 (wc.alloc (.cells #[.int .i64 1, .int .i64 a, .string (⟨#[]⟩ : ByteArray), .int .i64 1, .int .i64 b, .string (⟨#[]⟩ : ByteArray)] 29)) (laws_FnBounds.row (blk_new _ _) (by rfl) (by simp)) (Nat.le_refl _) (My.tab_below hG (below_alloc HB.out _)) H1_.out
        go_wp2_with (go_at_call 19; (with_reducible refine hcall.mono ?_); rintro e w' ⟨rfl, hb⟩; have HBc := Lib.hid hb; clear hb hcall)
        go_meet
        case rel => exact ⟨_, rfl, rfl, ⟨blk_alloc (blk_below (blk_alloc H5.out _) HBc.out) _⟩, ⟨blk_alloc (blk_below (blk_alloc H6.out _) HBc.out) _⟩, ⟨blk_new _ _⟩, ⟨below_alloc ((below_alloc HB.out _).trans (HBc.out.mono (below_alloc HB.out _).size)) _⟩⟩
      case rest =>
        clear HB H5 H6
        obtain ⟨g7, rfl, rfl, H5, H6, H7, HB⟩ := hcut
        go_upto_region 6 with fail
        go_cut [9, 10] from 46 to 52 (fun v9 v10 wx => ∃ g9 : Nat, v9 = .pointer (some ⟨g9, 0, none⟩) ∧ v10 = .int .i64 0 ∧ Aside0 (laws_FnBounds.V g5 1 a (⟨#[]⟩ : ByteArray) wx) ∧ Aside0 (laws_FnBounds.V g6 1 b (⟨#[]⟩ : ByteArray) wx) ∧ Aside0 (laws_FnBounds.V g7 1 a (⟨#[]⟩ : ByteArray) wx) ∧ Aside0 (laws_FnBounds.V g9 y1 y2 y3 wx) ∧ Aside0 (Below w.heap.size w wx))
        case first =>
          have x5_0 := blk_cell H5.out 0
          have x5_1 := blk_cell H5.out 1
          have x5_2 := blk_cell H5.out 2
          have x6_0 := blk_cell H6.out 0
          have x6_1 := blk_cell H6.out 1
          have x6_2 := blk_cell H6.out 2
          have hcall : Calls Tryd.prog 19 #[.string (⟨#[109, 105, 110]⟩ : ByteArray), .slice (some ⟨wc.heap.size, 0, none⟩) 2 2] (wc.alloc (.cells #[.int .i64 1, .int .i64 a, .string (⟨#[]⟩ : ByteArray), .int .i64 1, .int .i64 b, .string (⟨#[]⟩ : ByteArray)] 29)) _ := impl_Builtin.calls k (⟨#[109, 105, 110]⟩ : ByteArray) (some ⟨wc.heap.size, 0, none⟩) 2 [(⟨1, a, (⟨#[]⟩ : ByteArray)⟩ : S29), (⟨1, b, (⟨#[]⟩ : ByteArray)⟩ : S29)] y1 y2 y3 0 (wc.alloc (.cells #[.int .i64 1, .int .i64 a, .string (⟨#[]⟩ : ByteArray), .int .i64 1, .int .i64 b, .string (⟨#[]⟩ : ByteArray)] 29)) (laws_FnBounds.row (blk_new _ _) (by rfl) (by simp)) (Nat.le_refl _) (My.tab_below hG (below_alloc HB.out _)) H2_.out
          go_wp2_with (go_at_call 19; (with_reducible refine hcall.mono ?_); rintro e w' ⟨rfl, hb⟩; have HBc := Lib.hid hb; clear hb hcall)
          go_meet
          case rel => exact ⟨_, rfl, rfl, ⟨blk_alloc (blk_below (blk_alloc H5.out _) HBc.out) _⟩, ⟨blk_alloc (blk_below (blk_alloc H6.out _) HBc.out) _⟩, ⟨blk_alloc (blk_below (blk_alloc H7.out _) HBc.out) _⟩, ⟨blk_new _ _⟩, ⟨below_alloc ((below_alloc HB.out _).trans (HBc.out.mono (below_alloc HB.out _).size)) _⟩⟩
        case rest =>
          clear HB H5 H6 H7
          obtain ⟨g9, rfl, rfl, H5, H6, H7, H9, HB⟩ := hcut
          go_upto_region 7 with fail
          go_cut [11, 12] from 53 to 58 (fun v11 v12 wx => ∃ g11 : Nat, v11 = .pointer (some ⟨g11, 0, none⟩) ∧ v12 = .int .i64 0 ∧ Aside0 (laws_FnBounds.V g5 1 a (⟨#[]⟩ : ByteArray) wx) ∧ Aside0 (laws_FnBounds.V g6 1 b (⟨#[]⟩ : ByteArray) wx) ∧ Aside0 (laws_FnBounds.V g7 1 a (⟨#[]⟩ : ByteArray) wx) ∧ Aside0 (laws_FnBounds.V g9 y1 y2 y3 wx) ∧ Aside0 (laws_FnBounds.V g11 s1 s2 s3 wx) ∧ Aside0 (Below w.heap.size w wx))
          case first =>
            have x7_0 := blk_cell H7.out 0
            have x7_1 := blk_cell H7.out 1
            have x7_2 := blk_cell H7.out 2
            have x9_0 := blk_cell H9.out 0
            have x9_1 := blk_cell H9.out 1
            have x9_2 := blk_cell H9.out 2
            go_wp2_with (go_at_call 18; (with_reducible refine (impl_Binary.calls k (⟨#[43]⟩ : ByteArray) 1 a (⟨#[]⟩ : ByteArray) y1 y2 y3 s1 s2 s3 0 _ H3_.out).mono ?_); rintro e w' ⟨rfl, hb⟩; have HBc := Lib.hid hb; clear hb)
            go_meet
            case rel => exact ⟨_, rfl, rfl, ⟨blk_alloc (blk_below H5.out HBc.out) _⟩, ⟨blk_alloc (blk_below H6.out HBc.out) _⟩, ⟨blk_alloc (blk_below H7.out HBc.out) _⟩, ⟨blk_alloc (blk_below H9.out HBc.out) _⟩, ⟨blk_new _ _⟩, ⟨below_alloc (HB.out.trans (HBc.out.mono HB.out.size)) _⟩⟩
          case rest =>
            clear HB H5 H6 H7 H9
            obtain ⟨g11, rfl, rfl, H5, H6, H7, H9, H11, HB⟩ := hcut
            go_upto_region 8 with fail
            go_cut [13, 14] from 59 to 64 (fun v13 v14 wx => ∃ g13 : Nat, v13 = .pointer (some ⟨g13, 0, none⟩) ∧ v14 = .int .i64 0 ∧ Aside0 (laws_FnBounds.V g5 1 a (⟨#[]⟩ : ByteArray) wx) ∧ Aside0 (laws_FnBounds.V g6 1 b (⟨#[]⟩ : ByteArray) wx) ∧ Aside0 (laws_FnBounds.V g7 1 a (⟨#[]⟩ : ByteArray) wx) ∧ Aside0 (laws_FnBounds.V g9 y1 y2 y3 wx) ∧ Aside0 (laws_FnBounds.V g11 s1 s2 s3 wx) ∧ Aside0 (laws_FnBounds.V g13 s1 s2 s3 wx) ∧ Aside0 (Below w.heap.size w wx))
            case first =>
              have x5_0 := blk_cell H5.out 0
              have x5_1 := blk_cell H5.out 1
              have x5_2 := blk_cell H5.out 2
              have x6_0 := blk_cell H6.out 0
              have x6_1 := blk_cell H6.out 1
              have x6_2 := blk_cell H6.out 2
              go_wp2_with (go_at_call 18; (with_reducible refine (impl_Binary.calls k (⟨#[43]⟩ : ByteArray) 1 a (⟨#[]⟩ : ByteArray) 1 b (⟨#[]⟩ : ByteArray) s1 s2 s3 0 _ H4_.out).mono ?_); rintro e w' ⟨rfl, hb⟩; have HBc := Lib.hid hb; clear hb)
              go_meet
              case rel => exact ⟨_, rfl, rfl, ⟨blk_alloc (blk_below H5.out HBc.out) _⟩, ⟨blk_alloc (blk_below H6.out HBc.out) _⟩, ⟨blk_alloc (blk_below H7.out HBc.out) _⟩, ⟨blk_alloc (blk_below H9.out HBc.out) _⟩, ⟨blk_alloc (blk_below H11.out HBc.out) _⟩, ⟨blk_new _ _⟩, ⟨below_alloc (HB.out.trans (HBc.out.mono HB.out.size)) _⟩⟩
            case rest =>
              clear HB H5 H6 H7 H9 H11
              obtain ⟨g13, rfl, rfl, H5, H6, H7, H9, H11, H13, HB⟩ := hcut
              go_upto_region 9 with fail
              go_cut [15, 16] from 65 to 70 (fun v15 v16 wx => ∃ g15 : Nat, v15 = .pointer (some ⟨g15, 0, none⟩) ∧ v16 = .int .i64 0 ∧ Aside0 (laws_FnBounds.V g5 1 a (⟨#[]⟩ : ByteArray) wx) ∧ Aside0 (laws_FnBounds.V g6 1 b (⟨#[]⟩ : ByteArray) wx) ∧ Aside0 (laws_FnBounds.V g7 1 a (⟨#[]⟩ : ByteArray) wx) ∧ Aside0 (laws_FnBounds.V g9 y1 y2 y3 wx) ∧ Aside0 (laws_FnBounds.V g11 s1 s2 s3 wx) ∧ Aside0 (laws_FnBounds.V g13 s1 s2 s3 wx) ∧ Aside0 (laws_FnBounds.V g15 q1 0 q3 wx) ∧ Aside0 (Below w.heap.size w wx))
              case first =>
                have x5_0 := blk_cell H5.out 0
                have x5_1 := blk_cell H5.out 1
                have x5_2 := blk_cell H5.out 2
                have x6_0 := blk_cell H6.out 0
                have x6_1 := blk_cell H6.out 1
                have x6_2 := blk_cell H6.out 2
                go_wp2_with (go_at_call 18; (with_reducible refine (impl_Binary.calls k (⟨#[60]⟩ : ByteArray) 1 a (⟨#[]⟩ : ByteArray) 1 b (⟨#[]⟩ : ByteArray) q1 0 q3 0 _ H5_.out).mono ?_); rintro e w' ⟨rfl, hb⟩; have HBc := Lib.hid hb; clear hb)
                go_meet
                case rel => exact ⟨_, rfl, rfl, ⟨blk_alloc (blk_below H5.out HBc.out) _⟩, ⟨blk_alloc (blk_below H6.out HBc.out) _⟩, ⟨blk_alloc (blk_below H7.out HBc.out) _⟩, ⟨blk_alloc (blk_below H9.out HBc.out) _⟩, ⟨blk_alloc (blk_below H11.out HBc.out) _⟩, ⟨blk_alloc (blk_below H13.out HBc.out) _⟩, ⟨blk_new _ _⟩, ⟨below_alloc (HB.out.trans (HBc.out.mono HB.out.size)) _⟩⟩
              case rest =>
                clear HB H5 H6 H7 H9 H11 H13
                obtain ⟨g15, rfl, rfl, H5, H6, H7, H9, H11, H13, H15, HB⟩ := hcut
                go_upto_region 10 with fail
                go_cut [17, 18] from 71 to 75 (fun v17 v18 wx => ∃ g17 : Nat, v17 = .pointer (some ⟨g17, 0, none⟩) ∧ v18 = .int .i64 0 ∧ Aside0 (laws_FnBounds.V g5 1 a (⟨#[]⟩ : ByteArray) wx) ∧ Aside0 (laws_FnBounds.V g6 1 b (⟨#[]⟩ : ByteArray) wx) ∧ Aside0 (laws_FnBounds.V g7 1 a (⟨#[]⟩ : ByteArray) wx) ∧ Aside0 (laws_FnBounds.V g9 y1 y2 y3 wx) ∧ Aside0 (laws_FnBounds.V g11 s1 s2 s3 wx) ∧ Aside0 (laws_FnBounds.V g13 s1 s2 s3 wx) ∧ Aside0 (laws_FnBounds.V g15 q1 0 q3 wx) ∧ Aside0 (laws_FnBounds.V g17 n1 n2 n3 wx) ∧ Aside0 (Below w.heap.size w wx))
                case first =>
                  have x5_0 := blk_cell H5.out 0
                  have x5_1 := blk_cell H5.out 1
                  have x5_2 := blk_cell H5.out 2
                  go_wp2_with (go_at_call 24; (with_reducible refine (impl_Unary.calls (⟨#[45]⟩ : ByteArray) 1 a (⟨#[]⟩ : ByteArray) n1 n2 n3 0 _ H6_.out).mono ?_); rintro e w' ⟨rfl, hb⟩; have HBc := Lib.hid hb; clear hb)
                  go_meet
                  case rel => exact ⟨_, rfl, rfl, ⟨blk_alloc (blk_below H5.out HBc.out) _⟩, ⟨blk_alloc (blk_below H6.out HBc.out) _⟩, ⟨blk_alloc (blk_below H7.out HBc.out) _⟩, ⟨blk_alloc (blk_below H9.out HBc.out) _⟩, ⟨blk_alloc (blk_below H11.out HBc.out) _⟩, ⟨blk_alloc (blk_below H13.out HBc.out) _⟩, ⟨blk_alloc (blk_below H15.out HBc.out) _⟩, ⟨blk_new _ _⟩, ⟨below_alloc (HB.out.trans (HBc.out.mono HB.out.size)) _⟩⟩
                case rest =>
                  clear HB H5 H6 H7 H9 H11 H13 H15
                  obtain ⟨g17, rfl, rfl, H5, H6, H7, H9, H11, H13, H15, H17, HB⟩ := hcut
                  go_upto_region 11 with fail
                  go_cut [19, 20] from 76 to 80 (fun v19 v20 wx => ∃ g19 : Nat, v19 = .pointer (some ⟨g19, 0, none⟩) ∧ v20 = .int .i64 0 ∧ Aside0 (laws_FnBounds.V g5 1 a (⟨#[]⟩ : ByteArray) wx) ∧ Aside0 (laws_FnBounds.V g6 1 b (⟨#[]⟩ : ByteArray) wx) ∧ Aside0 (laws_FnBounds.V g7 1 a (⟨#[]⟩ : ByteArray) wx) ∧ Aside0 (laws_FnBounds.V g9 y1 y2 y3 wx) ∧ Aside0 (laws_FnBounds.V g11 s1 s2 s3 wx) ∧ Aside0 (laws_FnBounds.V g13 s1 s2 s3 wx) ∧ Aside0 (laws_FnBounds.V g15 q1 0 q3 wx) ∧ Aside0 (laws_FnBounds.V g17 n1 n2 n3 wx) ∧ Aside0 (laws_FnBounds.V g19 1 a (⟨#[]⟩ : ByteArray) wx) ∧ Aside0 (Below w.heap.size w wx))
                  case first =>
                    have x17_0 := blk_cell H17.out 0
                    have x17_1 := blk_cell H17.out 1
                    have x17_2 := blk_cell H17.out 2
                    go_wp2_with (go_at_call 24; (with_reducible refine (impl_Unary.calls (⟨#[45]⟩ : ByteArray) n1 n2 n3 1 a (⟨#[]⟩ : ByteArray) 0 _ H7_.out).mono ?_); rintro e w' ⟨rfl, hb⟩; have HBc := Lib.hid hb; clear hb)
                    go_meet
                    case rel => exact ⟨_, rfl, rfl, ⟨blk_alloc (blk_below H5.out HBc.out) _⟩, ⟨blk_alloc (blk_below H6.out HBc.out) _⟩, ⟨blk_alloc (blk_below H7.out HBc.out) _⟩, ⟨blk_alloc (blk_below H9.out HBc.out) _⟩, ⟨blk_alloc (blk_below H11.out HBc.out) _⟩, ⟨blk_alloc (blk_below H13.out HBc.out) _⟩, ⟨blk_alloc (blk_below H15.out HBc.out) _⟩, ⟨blk_alloc (blk_below H17.out HBc.out) _⟩, ⟨blk_new _ _⟩, ⟨below_alloc (HB.out.trans (HBc.out.mono HB.out.size)) _⟩⟩
                  case rest =>
                    clear HB H5 H6 H7 H9 H11 H13 H15 H17
                    obtain ⟨g19, rfl, rfl, H5, H6, H7, H9, H11, H13, H15, H17, H19, HB⟩ := hcut
                    go_upto_region 12 with fail
                    go_cut [21, 22] from 81 to 86 (fun v21 v22 wx => ∃ g21 : Nat, v21 = .pointer (some ⟨g21, 0, none⟩) ∧ v22 = .int .i64 14 ∧ Aside0 (laws_FnBounds.V g5 1 a (⟨#[]⟩ : ByteArray) wx) ∧ Aside0 (laws_FnBounds.V g6 1 b (⟨#[]⟩ : ByteArray) wx) ∧ Aside0 (laws_FnBounds.V g7 1 a (⟨#[]⟩ : ByteArray) wx) ∧ Aside0 (laws_FnBounds.V g9 y1 y2 y3 wx) ∧ Aside0 (laws_FnBounds.V g11 s1 s2 s3 wx) ∧ Aside0 (laws_FnBounds.V g13 s1 s2 s3 wx) ∧ Aside0 (laws_FnBounds.V g15 q1 0 q3 wx) ∧ Aside0 (laws_FnBounds.V g17 n1 n2 n3 wx) ∧ Aside0 (laws_FnBounds.V g19 1 a (⟨#[]⟩ : ByteArray) wx) ∧ Aside0 (laws_FnBounds.V g21 j1 j2 j3 wx) ∧ Aside0 (Below w.heap.size w wx))
                    case first =>
                      have x5_0 := blk_cell H5.out 0
                      have x5_1 := blk_cell H5.out 1
                      have x5_2 := blk_cell H5.out 2
                      have hcall : Calls Tryd.prog 19 #[.string (⟨#[109, 97, 120]⟩ : ByteArray), .slice (some ⟨wc.heap.size, 0, none⟩) 1 1] (wc.alloc (.cells #[.int .i64 1, .int .i64 a, .string (⟨#[]⟩ : ByteArray)] 29)) _ := impl_Builtin.calls k (⟨#[109, 97, 120]⟩ : ByteArray) (some ⟨wc.heap.size, 0, none⟩) 1 [(⟨1, a, (⟨#[]⟩ : ByteArray)⟩ : S29)] j1 j2 j3 14 (wc.alloc (.cells #[.int .i64 1, .int .i64 a, .string (⟨#[]⟩ : ByteArray)] 29)) (laws_FnBounds.row (blk_new _ _) (by rfl) (by simp)) (Nat.le_refl _) (My.tab_below hG (below_alloc HB.out _)) H8_.out
                      go_wp2_with (go_at_call 19; (with_reducible refine hcall.mono ?_); rintro e w' ⟨rfl, hb⟩; have HBc := Lib.hid hb; clear hb hcall)
                      go_meet
                      case rel => exact ⟨_, rfl, rfl, ⟨blk_alloc (blk_below (blk_alloc H5.out _) HBc.out) _⟩, ⟨blk_alloc (blk_below (blk_alloc H6.out _) HBc.out) _⟩, ⟨blk_alloc (blk_below (blk_alloc H7.out _) HBc.out) _⟩, ⟨blk_alloc (blk_below (blk_alloc H9.out _) HBc.out) _⟩, ⟨blk_alloc (blk_below (blk_alloc H11.out _) HBc.out) _⟩, ⟨blk_alloc (blk_below (blk_alloc H13.out _) HBc.out) _⟩, ⟨blk_alloc (blk_below (blk_alloc H15.out _) HBc.out) _⟩, ⟨blk_alloc (blk_below (blk_alloc H17.out _) HBc.out) _⟩, ⟨blk_alloc (blk_below (blk_alloc H19.out _) HBc.out) _⟩, ⟨blk_new _ _⟩, ⟨below_alloc ((below_alloc HB.out _).trans (HBc.out.mono (below_alloc HB.out _).size)) _⟩⟩
                    case rest =>
                      clear HB H5 H6 H7 H9 H11 H13 H15 H17 H19
                      obtain ⟨g21, rfl, rfl, H5, H6, H7, H9, H11, H13, H15, H17, H19, H21, HB⟩ := hcut
                      have x5_0 := blk_cell H5.out 0
                      have x5_1 := blk_cell H5.out 1
                      have x5_2 := blk_cell H5.out 2
                      have x6_0 := blk_cell H6.out 0
                      have x6_1 := blk_cell H6.out 1
                      have x6_2 := blk_cell H6.out 2
                      have x7_0 := blk_cell H7.out 0
                      have x7_1 := blk_cell H7.out 1
                      have x7_2 := blk_cell H7.out 2
                      have x11_0 := blk_cell H11.out 0
                      have x11_1 := blk_cell H11.out 1
                      have x11_2 := blk_cell H11.out 2
                      have x13_0 := blk_cell H13.out 0
                      have x13_1 := blk_cell H13.out 1
                      have x13_2 := blk_cell H13.out 2
                      have x15_0 := blk_cell H15.out 0
                      have x15_1 := blk_cell H15.out 1
                      have x15_2 := blk_cell H15.out 2
                      have x19_0 := blk_cell H19.out 0
                      have x19_1 := blk_cell H19.out 1
                      have x19_2 := blk_cell H19.out 2
                      go_upto_region 13 with fail
                      go_region_o
                      all_goals go_wp2_with fail
                      all_goals go_ret
                      all_goals exact ⟨by first | rfl | simp, by repeat (first | exact HB.out | apply below_drew)⟩
set_option maxHeartbeats 2000000 in
set_option maxRecDepth 100000 in
theorem laws_FnBounds.long (k : Nat) (A0 : Option Addr) (c0 : Nat) (l0 : List Int) (A1 : Option Addr) (c1 : Nat) (l1 : List Int) (w : World) (hr0 : Kd.C (Kd.int .u8) w A0 l0.length l0) (hc0 : l0.length ≤ c0) (hr1 : Kd.C (Kd.int .u8) w A1 l1.length l1) (hc1 : l1.length ≤ c1) (hm : l0.length > 1048576 ∨ l1.length > 1048576) :
    Calls Tryd.prog 7 #[.slice A0 l0.length c0, .slice A1 l1.length c1] w fun e w' => e = .returned (.bool true) ∧ Below w.heap.size w w' := by
  clear hr0 hc0 hr1 hc1
  by_cases h0 : l0.length > 1048576
  · have b0 : decide (1048576 < (l0.length : Int)) = true := decide_eq_true (by omega)
    have b2 : decide (1048576 < l0.length) = true := decide_eq_true (by omega)
    clear hm h0
    go_enter Tryd.func7, Tryd.ntmps7
    go_wp2_with fail
    go_ret
    exact ⟨rfl, Below.refl _ _⟩
  · have h1 := hm.resolve_left h0
    have b0 : decide (1048576 < (l0.length : Int)) = false := decide_eq_false (by omega)
    have b2 : decide (1048576 < l0.length) = false := decide_eq_false (by omega)
    have b1 : decide (1048576 < (l1.length : Int)) = true := decide_eq_true (by omega)
    have b3 : decide (1048576 < l1.length) = true := decide_eq_true (by omega)
    clear hm h0 h1
    go_enter Tryd.func7, Tryd.ntmps7
    go_wp2_with fail
    go_ret
    exact ⟨rfl, Below.refl _ _⟩
theorem laws_FnBounds.calls (k : Nat) (A0 : Option Addr) (c0 : Nat) (l0 : List Int) (A1 : Option Addr) (c1 : Nat) (l1 : List Int) (r : Bool) (w : World) (hr0 : Kd.C (Kd.int .u8) w A0 l0.length l0) (hc0 : l0.length ≤ c0) (hr1 : Kd.C (Kd.int .u8) w A1 l1.length l1) (hc1 : l1.length ≤ c1) (hG : Aside0 (My.Tab w)) (h : laws_FnBounds.f k l0 l1 = some r) :
    Calls Tryd.prog 7 #[.slice A0 l0.length c0, .slice A1 l1.length c1] w fun e w' => e = .returned (.bool r) ∧ Below w.heap.size w w' := by
  unfold laws_FnBounds.f at h
  by_cases hm : l0.length > 1048576 ∨ l1.length > 1048576
  · rw [if_pos hm] at h
    obtain rfl := Option.some.inj h
    exact laws_FnBounds.long k A0 c0 l0 A1 c1 l1 w hr0 hc0 hr1 hc1 hm
  rw [if_neg hm] at h
  obtain ⟨x, e1, h⟩ := Option.bind_eq_some_iff.1 h
  obtain ⟨y, e2, h⟩ := Option.bind_eq_some_iff.1 h
  generalize ea : wrap64 (x - 30000) = a at h
  generalize eb : wrap64 (y - 30000) = b at h
  by_cases hg : laws_FnBounds.good k a b = true
  case neg => rw [if_neg hg] at h; cases h
  rw [if_pos hg] at h
  obtain rfl := Option.some.inj h
  unfold laws_FnBounds.good at hg
  rw [Bool.and_eq_true, decide_eq_true_eq] at hg
  obtain ⟨Ex, hg⟩ := hg
  cases Ey : impl_Builtin.f k (⟨#[109, 105, 110]⟩ : ByteArray) [(⟨1, a, (⟨#[]⟩ : ByteArray)⟩ : S29), (⟨1, b, (⟨#[]⟩ : ByteArray)⟩ : S29)] with
  | none => simp [Ey] at hg
  | some Vy =>
  obtain ⟨Y1, Y2, Y3, Y4⟩ := Vy
  cases El : impl_Binary.f k (⟨#[60]⟩ : ByteArray) 1 a (⟨#[]⟩ : ByteArray) 1 b (⟨#[]⟩ : ByteArray) with
  | none => simp [Ey, El] at hg
  | some Vl =>
  obtain ⟨L1, L2, L3, L4⟩ := Vl
  cases En : impl_Unary.f (⟨#[45]⟩ : ByteArray) 1 a (⟨#[]⟩ : ByteArray) with
  | none => simp [Ey, El, En] at hg
  | some Vn =>
  obtain ⟨N1, N2, N3, N4⟩ := Vn
  cases Ej : impl_Builtin.f k (⟨#[109, 97, 120]⟩ : ByteArray) [(⟨1, a, (⟨#[]⟩ : ByteArray)⟩ : S29)] with
  | none => simp [Ey, El, En, Ej] at hg
  | some Vj =>
  obtain ⟨J1, J2, J3, J4⟩ := Vj
  cases Es : impl_Binary.f k (⟨#[43]⟩ : ByteArray) 1 (if a < b then b else a) (⟨#[]⟩ : ByteArray) Y1 Y2 Y3 with
  | none => simp [Ey, El, En, Ej, Es] at hg
  | some Vs =>
  obtain ⟨S1, S2, S3, S4⟩ := Vs
  simp only [Ey, El, En, Ej, Es, decide_eq_true_eq] at hg
  obtain ⟨rfl, Et, rfl, hl, rfl, rfl, Em, rfl⟩ := hg
  have m0 : l0.length ≤ 1048576 := by omega
  have m1 : l1.length ≤ 1048576 := by omega
  rcases Int.lt_trichotomy a b with hab | hab | hab
  · rw [if_pos hab] at Ex Es hl
    subst hl
    exact laws_FnBounds.walk_lt k A0 c0 l0 A1 c1 l1 w hr0 hc0 hr1 hc1 hG m0 m1 x y a b e1 e2 ea eb (Int.ne_of_lt hab) Y1 Y2 S1 S2 L1 N1 N2 J1 J2 Y3 S3 L3 N3 J3 Ex Ey Es Et El En Em Ej
  · have hab' : ¬ a < b := by omega
    rw [if_neg hab'] at Ex Es hl
    subst hl
    subst hab
    exact laws_FnBounds.walk_eq k A0 c0 l0 A1 c1 l1 w hr0 hc0 hr1 hc1 hG m0 m1 x y a e1 e2 ea eb Y1 Y2 S1 S2 L1 N1 N2 J1 J2 Y3 S3 L3 N3 J3 Ex Ey Es Et El En Em Ej
  · have hab' : ¬ a < b := by omega
    rw [if_neg hab'] at Ex Es hl
    subst hl
    exact laws_FnBounds.walk_gt k A0 c0 l0 A1 c1 l1 w hr0 hc0 hr1 hc1 hG m0 m1 x y a b e1 e2 ea eb (Int.ne_of_gt hab) Y1 Y2 S1 S2 L1 N1 N2 J1 J2 Y3 S3 L3 N3 J3 Ex Ey Es Et El En Em Ej

end Go.Proofs.YthclofmcinknlaaDoor.QFnBounds
