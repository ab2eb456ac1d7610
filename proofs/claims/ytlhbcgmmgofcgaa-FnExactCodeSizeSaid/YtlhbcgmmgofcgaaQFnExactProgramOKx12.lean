/- Functions that the law uses, as Lean functions with the same answers, and the walks that show it: by this session's program, after the form of the kit's print. No condition. -/
import Derived.Test.YtlhbcgmmgofcgaaQFnExactProgramOKx0
import Derived.Test.YtlhbcgmmgofcgaaQFnExactProgramOKx11
namespace Go.Proofs.Ytlhbcgmmgofcgaa.QFnExactProgramOK
open Go.RowKit Go.Proofs.YtlhbcgmmgofcgaaW.PrintWords Go.Proofs.YtlhbcgmmgofcgaaW.PrintLast Go.Proofs.YtlhbcgmmgofcgaaW.PrintMore
attribute [local go_sem] max2_int min2_int max_two min_two max_three min_three max_four min_four   -- for this text's walks alone
open Go.Proofs.Ytlhbcgmmgofcgaa
attribute [local go_sem high] My.binOp_gtr_flip
set_option linter.unusedVariables false
set_option linter.unusedSimpArgs false

/-! ### impl_standing: function 96 -/
def impl_standing.f (l0 : List S75) (a1 : Int) : Option (List S75) := if l0.length = 1 ∧ 1 ≤ a1 ∧ a1 ≤ 4096 then some (List.replicate a1.toNat (rd_T75 l0 0)) else none
/-- One element's cells, q times. -/
def impl_standing.fl (x : S75) (q : Nat) : List Value := (List.replicate q [Value.int .i64 x.f0, Value.int .i64 x.f1]).flatten
theorem impl_standing.fl_length (x : S75) (q : Nat) : (impl_standing.fl x q).length = q * 2 := by
  induction q with
  | zero => rfl
  | succ q ih =>
    unfold impl_standing.fl at ih ⊢
    rw [List.replicate_succ, List.flatten_cons, List.length_append, ih]
    simp only [List.length_cons, List.length_nil]
    omega
theorem impl_standing.fl_add (x : S75) (a b : Nat) : impl_standing.fl x (a + b) = impl_standing.fl x a ++ impl_standing.fl x b := by
  unfold impl_standing.fl
  rw [← List.replicate_append_replicate, List.flatten_append]
theorem impl_standing.fl_one (x : S75) (q : Nat) : ∀ v ∈ impl_standing.fl x q, v.oneCell' = true := by
  intro v hv
  obtain ⟨l, hl, hv⟩ := List.mem_flatten.1 hv
  obtain ⟨_, rfl⟩ := List.mem_replicate.1 hl
  rcases List.mem_cons.1 hv with rfl | hv
  · rfl
  · rw [List.mem_singleton.1 hv]
    rfl
theorem impl_standing.fl_reps (x : S75) (w : World) (base : Nat) (ok : Nat → Prop) (q : Nat) : Reps (k75.M w base ok) 2 (List.replicate q x) (impl_standing.fl x q) := by
  induction q with
  | zero => exact Reps.none _ _
  | succ q ih =>
    rw [List.replicate_succ', impl_standing.fl_add x q 1]
    exact ih.snoc (k75_mkM w base ok x) rfl
/-- The new row: its first q elements are written. -/
structure impl_standing.St (w : World) (x : S75) (n q : Nat) (cur : Array Value) (W : World) : Prop where
  row : W.heap[w.heap.size]? = some (.cells cur 75 (0, 0))
  size : cur.size = n * 2
  has : cur.toList.take (q * 2) = impl_standing.fl x q
  b : Below w.heap.size w W
theorem impl_standing.St.copy {w : World} {x : S75} {n q m : Nat} {cur : Array Value} {W W' : World} (h : impl_standing.St w x n q cur W) (hm : q + m ≤ n)
    (hr : Go.RowKit.Hid (W'.heap[w.heap.size]? = some (.cells (cur.toList.take (q * 2) ++ impl_standing.fl x m ++ cur.toList.drop (q * 2 + (impl_standing.fl x m).length)).toArray 75 (0, 0)))) (hb : Below w.heap.size w W') :
    impl_standing.St w x n (q + m) (cur.toList.take (q * 2) ++ impl_standing.fl x m ++ cur.toList.drop (q * 2 + (impl_standing.fl x m).length)).toArray W' := by
  refine ⟨hr.out, ?_, ?_, hb⟩
  · have := h.size
    simp [impl_standing.fl_length]
    omega
  · rw [h.has, ← impl_standing.fl_add]
    show List.take _ (_ ++ _) = _
    rw [List.take_append_of_le_length (by rw [impl_standing.fl_length]; exact Nat.le_refl _), ← impl_standing.fl_length x (q + m), List.take_length]
theorem impl_standing.St.cells {w : World} {x : S75} {n q m : Nat} {cur : Array Value} {W : World} (h : impl_standing.St w x n q cur W) (hm : m ≤ q) : ∀ j v, (impl_standing.fl x m)[j]? = some v → W.cell? ((⟨w.heap.size, 0, none⟩ : Addr).add j) = some v := by
  intro j v hj
  have hl : j < m * 2 := by rw [← impl_standing.fl_length x m]; exact (List.getElem?_eq_some_iff.1 hj).1
  have e : (impl_standing.fl x q)[j]? = some v := by
    rw [show q = m + (q - m) by omega, impl_standing.fl_add, List.getElem?_append_left (by rw [impl_standing.fl_length]; exact hl)]
    exact hj
  rw [← h.has, List.getElem?_take_of_lt (by omega), Array.getElem?_toList] at e
  have ea : (⟨w.heap.size, 0, none⟩ : Addr).add j = ⟨w.heap.size, j, none⟩ := by
    simp [Addr.add]
    omega
  rw [ea]
  simp [World.cell?, h.row, e]
theorem impl_standing.St.ends {w : World} {x : S75} {n : Nat} {cur : Array Value} {W : World} (h : impl_standing.St w x n n cur W) (hn : n ≤ 4096) : Kd.R k75 75 W w.heap.size (fun _ => True) (.slice (some ⟨w.heap.size, 0, none⟩) n n) (List.replicate n x) := by
  refine ⟨fun _ _ => trivial, impl_standing.fl x n, ⟨by rw [impl_standing.fl_length, List.length_replicate]; rfl, .inr ⟨w.heap.size, n, cur, by rw [List.length_replicate], Nat.le_refl _, h.row, by rw [List.length_replicate]; exact Nat.le_refl _, by unfold maxLen; omega, h.size, by rw [List.length_replicate]; exact h.has⟩⟩, impl_standing.fl_reps x _ _ _ n⟩
set_option maxHeartbeats 4000000 in
set_option maxRecDepth 100000 in
theorem impl_standing.calls (A0 : Option Addr) (c0 : Nat) (l0 : List S75) (a1 : Int) (r : List S75) (w : World) (hr0 : Kd.C k75 w A0 l0.length l0) (hc0 : l0.length ≤ c0) (h : impl_standing.f l0 a1 = some r) :
    Calls Try.prog 96 #[.slice A0 l0.length c0, .int .i64 a1] w fun e w' => ∃ v0_ : Value, e = .returned (v0_) ∧ Kd.R k75 75 w' w.heap.size (fun _ => True) v0_ r ∧ Below w.heap.size w w' := by
  unfold impl_standing.f at h
  by_cases hs : l0.length = 1 ∧ 1 ≤ a1 ∧ a1 ≤ 4096
  case neg => rw [if_neg hs] at h; cases h
  rw [if_pos hs] at h
  obtain rfl := Option.some.inj h
  clear h
  obtain ⟨hl, h1, h2⟩ := hs
  obtain ⟨n, rfl⟩ : ∃ n : Nat, a1 = (n : Int) := ⟨a1.toNat, by omega⟩
  obtain ⟨x, rfl⟩ := List.length_eq_one_iff.1 hl
  clear hl
  obtain ⟨ad, rfl, hc1, hc2⟩ := at_T75 hr0 0 (Int.le_refl _) (by show (0 : Int) < ((1 : Nat) : Int); omega)
  have hsrc : ∀ j v, (impl_standing.fl x 1)[j]? = some v → w.cell? (ad.add j) = some v := by
    intro j v hj
    match j, hj with
    | 0, hj => cases hj; exact hc1
    | 1, hj =>
      cases hj
      show w.cell? (ad.add (Int.toNat 0 * 2 + 1)) = _
      rw [add_field ad (Int.toNat 0 * 2) 1 (by omega)]
      exact hc2
  have HS := Lib.hid hsrc
  clear hc1 hc2 hr0 hsrc
  have hM : Calls Try.prog 120 #[.int .u64 1, .int .u64 (n : Int)] w fun e w' => e = .returned (.tuple #[.int .u64 0, .int .u64 (n : Int)]) ∧ w' = w := by
    have h3 := My.mul 1 n (by omega) (by omega) w
    rw [Nat.one_mul, Nat.div_eq_of_lt (by omega), Nat.mod_eq_of_lt (by omega)] at h3
    exact h3
  obtain ⟨i, hi, hz, hsz, hby⟩ := info_parts (P := Try.prog) (e := 75) (z := .agg #[.int .i64 0, .int .i64 0]) (size := 2) (bytes := 16) (by kernel_rfl)
  have hmk := fun W : World => run_make (P := Try.prog) (w := W) 71 75 i _ (Try.underlying71) hi hz .i64 .i64 (n : Int) (n : Int) (by omega) (Int.le_refl _) (by rw [hby]; omega) (by omega)
  rw [hsz, Int.toNat_natCast] at hmk
  show Calls Try.prog 96 #[.slice (some ad) 1 c0, .int .i64 (n : Int)] w _
  go_enter Try.func96, Try.ntmps96
  have hg1 : ¬ ((n : Int) < 0) := by omega
  go_upto_region 7 with (first | (go_at_call 120; refine hM.mono ?_; rintro e w' ⟨rfl, hw⟩; rw [hw]) | rw [hmk])
  have HS0 : impl_standing.St w x n 0 (madeCells #[Value.int IntKind.i64 0, Value.int IntKind.i64 0] (n * 2)) (w.alloc (Obj.cells (madeCells #[Value.int IntKind.i64 0, Value.int IntKind.i64 0] (n * 2)) 75)) := ⟨heap_alloc_new w _, by rw [size_madeCells], by simp [impl_standing.fl], below_alloc (Below.refl _ _) _⟩
  obtain ⟨cur0, hcur⟩ : ∃ cur0, madeCells #[Value.int IntKind.i64 0, Value.int IntKind.i64 0] (n * 2) = cur0 := ⟨_, rfl⟩
  rw [hcur] at HS0 ⊢
  clear hcur hmk
  generalize w.alloc (Obj.cells cur0 75) = w1 at HS0 ⊢
  have hin : (Try.prog.info? 75).map (·.size) = some 2 := by rw [hi, Option.map_some, hsz]
  have hsrc1 : ∀ j v, (impl_standing.fl x 1)[j]? = some v → w1.cell? (ad.add j) = some v := fun j v hj => (HS0.b.cell (World.block_lt_of_cell? w _ (HS.out j v hj))).trans (HS.out j v hj)
  have H0 := Aside0.mk HS0
  have H1 := Aside0.mk hsrc1
  have HN := Aside0.mk (And.intro h1 h2)
  clear HS0 hsrc1 HS hM hi hz hsz hby
  go_wp2_with (refine wpList_copy_sized 2 rfl (.tmp 31) (.tmp 32) 71 71 rfl 75 Try.underlying71 hin w.heap.size 0 n n ad 1 c0 rfl rfl cur0 75 H0.out.row (impl_standing.fl x 1) 1 (by have := HN.out; show Nat.min 1 n = 1; exact Nat.min_eq_left (by omega)) (by rw [impl_standing.fl_length]) H1.out (by have := HN.out; rw [impl_standing.fl_length, H0.out.size]; omega) (impl_standing.fl_one x 1) w.heap.size w H0.out.b (Nat.le_refl _) ?_; intro w2 hr hb)
  have H2 := Aside0.mk (H0.out.copy (m := 1) (by have := HN.out; omega) hr hb)
  clear hr hb H0 H1
  go_loopw [8] (fun v8 wr => ∃ (q : Nat) (cur : Array Value), 1 ≤ q ∧ q ≤ n ∧ v8 = .int .i64 (q : Int) ∧ Aside0 (impl_standing.St w x n q cur wr)) (fun v8 _ => n - (intOf v8).toNat)
  case atStart => exact ⟨1, _, Nat.le_refl _, by have := HN.out; omega, rfl, ⟨by simpa using H2.out⟩⟩
  case round =>
    clear H2
    obtain ⟨q, cur, hq1, hq2, rfl, HS⟩ := hrel
    by_cases hlt : q < n
    · have hd : (q : Int) < (n : Int) := by omega
      have hd0 : (0 : Int) ≤ (q : Int) := by omega
      go_upto_region 9 with fail
      obtain ⟨m, hm, hm2⟩ : ∃ m, Nat.min q (n - q) = m ∧ q + m ≤ n ∧ m ≤ q := ⟨_, rfl, by have : Nat.min q (n - q) ≤ n - q := Nat.min_le_right _ _; omega, Nat.min_le_left _ _⟩
      have hne : ¬ n = q := by omega
      have hm1 : 1 ≤ m := by rw [← hm]; exact Nat.le_min.2 ⟨hq1, by omega⟩
      have HM := Aside0.mk (And.intro hq1 (And.intro hq2 hlt))
      have C1 := Aside0.mk (HS.out.cells hm2.2)
      have C2 := Aside0.mk (show q * 2 + (impl_standing.fl x m).length ≤ cur.size by rw [impl_standing.fl_length, HS.out.size]; omega)
      go_region_law (refine step_copy_sized 2 rfl (.tmp 41) (.tmp 44) 71 71 rfl 75 Try.underlying71 hin w.heap.size (q * 2) (n - q) (n - q) ⟨w.heap.size, 0, none⟩ q n (by simp [Act.eval, Act.put, hne]) (by simp [Act.eval, Act.put]) cur 75 HS.out.row (impl_standing.fl x m) m hm (by rw [impl_standing.fl_length]) C1.out C2.out (impl_standing.fl_one x m) w.heap.size w (below_drew1 HS.out.b) (Nat.le_refl _) ?_; intro w3 hr hb)
      have H3 := Aside0.mk (HS.out.copy hm2.1 hr hb)
      have hw : IntKind.i64.wrap ((q : Int) + (m : Int)) = ((q + m : Nat) : Int) := by rw [IntKind.wrap_i64]; omega
      go_simp
      have hq : (q : Int) + (m : Int) = ((q + m : Nat) : Int) := by omega
      rw [hq]
      go_roundw
      case rel => exact ⟨_, _, _, _, _, _, _, _, _, _, _, _, _, _, ⟨q + m, _, by omega, hm2.1, rfl, H3⟩, rfl⟩
      case measure =>
        show n - (intOf (Value.int .i64 ((q + m : Nat) : Int))).toNat < n - (intOf (Value.int .i64 (q : Int))).toNat
        simp only [intOf]
        omega
    · have hd : ¬ (q : Int) < (n : Int) := by omega
      obtain rfl : q = n := by omega
      go_wp2
      go_ret
      exact ⟨.slice (some ⟨w.heap.size, 0, none⟩) q q, rfl, HS.out.ends (by have := HN.out; omega), HS.out.b⟩

/-! ### impl_Func_flow: function 67 -/
/-- A way on leads to an instruction, with a stack and open tries that are let. -/
def impl_Func_flow.inb (n : Nat) (y : S80) : Bool := decide (y.f0 < n) && decide (y.f1.f0 ≤ 200) && decide (y.f1.f1 ≤ 20)
def impl_Func_flow.fw (y : S80) : Nat × (Int × Int) := (y.f0.toNat, (y.f1.f0, y.f1.f1))
/-- The ways on from a place, as labels; none where one of them is not let. -/
def impl_Func_flow.nx (n : Nat) (on : Nat → Int × Int → List S80 × Bool) (k : Nat) (s : Int × Int) : Option (List (Nat × (Int × Int))) :=
  if k < n ∧ (on k s).2 = true ∧ (on k s).1.all (impl_Func_flow.inb n) = true then some ((on k s).1.map impl_Func_flow.fw) else none
/-- What is known: the labels that are set. -/
def impl_Func_flow.st (out : List S75) (k : Nat) : Option (Int × Int) := (out[k]?).bind fun s => if s.f0 < 0 then none else some (s.f0, s.f1)
def impl_Func_flow.unl (out : List S75) : Nat := out.countP fun s => decide (s.f0 < 0)
theorem impl_Func_flow.st_set (out : List S75) (i : Nat) (x : S75) (hi : i < out.length) (hx : 0 ≤ x.f0) : impl_Func_flow.st (out.set i x) = fun k => if k = i then some (x.f0, x.f1) else impl_Func_flow.st out k := by
  funext k
  unfold impl_Func_flow.st
  by_cases e : k = i
  · subst e
    rw [List.getElem?_set_self (by omega), if_pos rfl]
    show (if x.f0 < 0 then none else some (x.f0, x.f1)) = _
    rw [if_neg (by omega)]
  · rw [List.getElem?_set_ne (fun h => e h.symm), if_neg e]
theorem impl_Func_flow.st_at (out : List S75) (i : Nat) (hi : i < out.length) : impl_Func_flow.st out i = if (rd_T75 out i).f0 < 0 then none else some ((rd_T75 out i).f0, (rd_T75 out i).f1) := by
  unfold impl_Func_flow.st rd_T75
  rw [Int.toNat_natCast, List.getD_eq_getElem?_getD, List.getElem?_eq_getElem hi]
  rfl
theorem impl_Func_flow.come_new (out : List S75) (i : Nat) (x : S75) (hi : i < out.length) (hx : 0 ≤ x.f0) (h : (rd_T75 out i).f0 < 0) : Fl.come (impl_Func_flow.st out) i (x.f0, x.f1) = some (impl_Func_flow.st (out.set i x), [i]) := by
  unfold Fl.come
  rw [impl_Func_flow.st_at out i hi, if_pos h, impl_Func_flow.st_set out i x hi hx]
theorem impl_Func_flow.come_same (out : List S75) (i : Nat) (x : S75) (hi : i < out.length) (h : ¬ (rd_T75 out i).f0 < 0) (h0 : (rd_T75 out i).f0 = x.f0) (h1 : (rd_T75 out i).f1 = x.f1) : Fl.come (impl_Func_flow.st out) i (x.f0, x.f1) = some (impl_Func_flow.st out, []) := by
  unfold Fl.come
  rw [impl_Func_flow.st_at out i hi, if_neg h, h0, h1]
  exact if_pos rfl
theorem impl_Func_flow.come_clash (out : List S75) (i : Nat) (x : S75) (hi : i < out.length) (h : ¬ (rd_T75 out i).f0 < 0) (h0 : ¬ ((rd_T75 out i).f0 = x.f0 ∧ (rd_T75 out i).f1 = x.f1)) : Fl.come (impl_Func_flow.st out) i (x.f0, x.f1) = none := by
  unfold Fl.come
  rw [impl_Func_flow.st_at out i hi, if_neg h]
  exact if_neg (fun e => h0 ⟨congrArg Prod.fst e, congrArg Prod.snd e⟩)
theorem impl_Func_flow.unl_set (out : List S75) (i : Nat) (x : S75) (hi : i < out.length) (hx : 0 ≤ x.f0) (h : (rd_T75 out i).f0 < 0) : impl_Func_flow.unl (out.set i x) + 1 = impl_Func_flow.unl out := by
  have hr : rd_T75 out i = out[i] := by
    unfold rd_T75
    rw [Int.toNat_natCast, List.getD_eq_getElem?_getD, List.getElem?_eq_getElem hi]
    rfl
  rw [hr] at h
  have hp : 0 < impl_Func_flow.unl out := List.countP_pos_iff.2 ⟨out[i], List.getElem_mem hi, decide_eq_true h⟩
  unfold impl_Func_flow.unl at hp ⊢
  rw [List.countP_set (h := hi), if_pos (show decide (out[i].f0 < 0) = true from decide_eq_true h), if_neg (show ¬ decide (x.f0 < 0) = true from fun e => by have := of_decide_eq_true e; omega)]
  omega
theorem impl_Func_flow.unl_neg (out : List S75) (i : Nat) (x : S75) (hi : i < out.length) (hx : x.f0 < 0) (h : (rd_T75 out i).f0 < 0) : impl_Func_flow.unl (out.set i x) = impl_Func_flow.unl out := by
  have hr : rd_T75 out i = out[i] := by
    unfold rd_T75
    rw [Int.toNat_natCast, List.getD_eq_getElem?_getD, List.getElem?_eq_getElem hi]
    rfl
  rw [hr] at h
  have hp : 0 < impl_Func_flow.unl out := List.countP_pos_iff.2 ⟨out[i], List.getElem_mem hi, decide_eq_true h⟩
  unfold impl_Func_flow.unl at hp ⊢
  rw [List.countP_set (h := hi), if_pos (show decide (out[i].f0 < 0) = true from decide_eq_true h), if_pos (show decide (x.f0 < 0) = true from decide_eq_true hx)]
  omega
theorem impl_Func_flow.left_more {a b n : Nat} {k y : Int} (h0 : 0 ≤ k) (h : y = k + 1) (hy : y < n) (hab : a ≤ b) : a + (n - y.toNat) + 1 ≤ b + (n - k.toNat) := by omega
theorem impl_Func_flow.one_way {x m : Nat} (h : x < m) (h1 : m ≤ 1) : x + 1 = m := by omega
theorem impl_Func_flow.new_less {a b c n k : Nat} (h : a + (n + 1) = b) (h1 : b ≤ c) : a + (n - k) ≤ c := by omega
theorem impl_Func_flow.left_less {a b g n : Nat} {k : Int} {p : Prop} (h0 : 0 ≤ k) (hk : k < n) (h : a ≤ b ∨ (p ∧ a + 1 ≤ b + (n - k.toNat))) (hg : b + (n - k.toNat) ≤ g) : a < g ∧ a ≤ g := by omega
theorem impl_Func_flow.len_less {a p b : Nat} {n m x k : Nat} (h6 : a ≤ p) (h5 : p ≤ b ∨ (x = m ∧ p + 1 ≤ b + (n - k))) (h8 : b ≤ 160800) (h9 : n ≤ 400) : (a + 1) * 8 ≤ 140737488355328 := by omega
/-- What is left to do: of all that has no label, and of what is to be looked at. -/
def impl_Func_flow.phi (n : Nat) (out : List S75) (todo : List Int) : Nat := (n + 1) * impl_Func_flow.unl out + (todo.map fun k => n - k.toNat).sum
theorem impl_Func_flow.phi_snoc (n : Nat) (out : List S75) (todo : List Int) (k : Int) : impl_Func_flow.phi n out (todo ++ [k]) = impl_Func_flow.phi n out todo + (n - k.toNat) := by
  unfold impl_Func_flow.phi
  rw [List.map_append, List.sum_append]
  simp
  omega
theorem impl_Func_flow.phi_new (n : Nat) (out : List S75) (todo : List Int) (i : Nat) (x : S75) (h : impl_Func_flow.unl (out.set i x) + 1 = impl_Func_flow.unl out) : impl_Func_flow.phi n (out.set i x) todo + (n + 1) = impl_Func_flow.phi n out todo := by
  unfold impl_Func_flow.phi
  rw [← h, Nat.mul_add, Nat.mul_one]
  omega
theorem impl_Func_flow.phi_neg (n : Nat) (out : List S75) (todo : List Int) (i : Nat) (x : S75) (h : impl_Func_flow.unl (out.set i x) = impl_Func_flow.unl out) : impl_Func_flow.phi n (out.set i x) todo = impl_Func_flow.phi n out todo := by
  unfold impl_Func_flow.phi
  rw [h]
theorem impl_Func_flow.phi_len (n : Nat) (out : List S75) : ∀ (todo : List Int), (∀ k ∈ todo, 0 ≤ k ∧ k < (n : Int)) → todo.length ≤ impl_Func_flow.phi n out todo
  | [], _ => Nat.zero_le _
  | k :: todo, h => by
    have h1 := impl_Func_flow.phi_len n out todo (fun j hj => h j (List.mem_cons_of_mem _ hj))
    have h2 := h k List.mem_cons_self
    unfold impl_Func_flow.phi at h1 ⊢
    rw [List.map_cons, List.sum_cons, List.length_cons]
    omega
theorem impl_Func_flow.phi_most (n : Nat) (h : n ≤ 400) : (n + 1) * n + n ≤ 160800 := by
  have := Nat.mul_le_mul (show n + 1 ≤ 401 by omega) h
  omega
theorem impl_Func_flow.st_none (n : Nat) : impl_Func_flow.st (List.replicate n (⟨-1, 0⟩ : S75)) = fun _ => none := by
  funext k
  unfold impl_Func_flow.st
  rw [List.getElem?_replicate]
  split <;> rfl
theorem impl_Func_flow.st_start (n : Nat) (h : 1 ≤ n) : impl_Func_flow.st ((List.replicate n (⟨-1, 0⟩ : S75)).set 0 ⟨0, 0⟩) = fun k => if k = 0 then some ((0 : Int), (0 : Int)) else none := by
  rw [impl_Func_flow.st_set _ 0 _ (by rw [List.length_replicate]; omega) (Int.le_refl _), impl_Func_flow.st_none]
theorem impl_Func_flow.take_snoc {α : Type} (l : List α) (x : Nat) (y : α) (h : l[x]? = some y) : l.take (x + 1) = l.take x ++ [y] := by
  rw [List.take_add_one, h]
  rfl
/-- One way more. -/
theorem impl_Func_flow.comes_more {ways : List S80} {x : Nat} {y : S80} {st0 : Nat → Option (Int × Int)} {out' : List S75} {new : List Nat} (h : ways[x]? = some y) (h1 : Fl.comes ((ways.take x).map impl_Func_flow.fw) st0 = some (impl_Func_flow.st out', new)) :
    Fl.comes ((ways.take (x + 1)).map impl_Func_flow.fw) st0 = (Fl.come (impl_Func_flow.st out') y.f0.toNat (y.f1.f0, y.f1.f1)).bind fun r => some (r.1, new ++ r.2) := by
  rw [impl_Func_flow.take_snoc ways x y h, List.map_append, Fl.comes_append, h1]
  show ((Fl.come (impl_Func_flow.st out') y.f0.toNat (y.f1.f0, y.f1.f1)).bind fun r => some (r.1, r.2 ++ [])).bind (fun r2 => some (r2.1, new ++ r2.2)) = _
  cases Fl.come (impl_Func_flow.st out') y.f0.toNat (y.f1.f0, y.f1.f1) with
  | none => rfl
  | some r =>
    show some (r.1, new ++ (r.2 ++ [])) = some (r.1, new ++ r.2)
    rw [List.append_nil]
theorem impl_Func_flow.comes_stuck {ways : List S80} {x : Nat} {y : S80} {st0 : Nat → Option (Int × Int)} {out' : List S75} {new : List Nat} (h : ways[x]? = some y) (h1 : Fl.comes ((ways.take x).map impl_Func_flow.fw) st0 = some (impl_Func_flow.st out', new)) (h2 : Fl.come (impl_Func_flow.st out') y.f0.toNat (y.f1.f0, y.f1.f1) = none) :
    Fl.comes (ways.map impl_Func_flow.fw) st0 = none := by
  have h3 := impl_Func_flow.comes_more h h1
  rw [h2] at h3
  rw [← List.take_append_drop (x + 1) ways, List.map_append, Fl.comes_append, h3]
  rfl
theorem impl_Func_flow.all_more {ways : List S80} {x n : Nat} {y : S80} (h : ways[x]? = some y) (h1 : (ways.take x).all (impl_Func_flow.inb n) = true) (h2 : impl_Func_flow.inb n y = true) : (ways.take (x + 1)).all (impl_Func_flow.inb n) = true := by
  rw [impl_Func_flow.take_snoc ways x y h, List.all_append, h1, List.all_cons, h2]
  rfl
/-- Between rounds: the row of labels, the row of places to do. -/
structure impl_Func_flow.St (G : Prop) (w : World) (n : Nat) (v4 v5 : Value) (out : List S75) (todo : List Int) (W : World) : Prop where
  r4 : Kd.R k75 75 W w.heap.size (fun _ => True) v4 out
  r5 : (Kd.int .i64).R 3 W w.heap.size (fun _ => True) v5 todo
  len : out.length = n
  neg : G → ∀ s ∈ out, s.f0 < 0 → s = ⟨-1, 0⟩
  lab : ∀ s ∈ out, s.f0 ≤ 200 ∧ 0 ≤ s.f1 ∧ s.f1 ≤ 20
  tod : ∀ k ∈ todo, 0 ≤ k ∧ k < n
  b : Below w.heap.size w W
theorem impl_Func_flow.St.below {G : Prop} {w : World} {n : Nat} {v4 v5 : Value} {out : List S75} {todo : List Int} {W W' : World} (h : impl_Func_flow.St G w n v4 v5 out todo W) (hb : Below W.heap.size W W') : impl_Func_flow.St G w n v4 v5 out todo W' :=
  ⟨Kd.R_below h.r4 hb, Kd.R_below h.r5 hb, h.len, h.neg, h.lab, h.tod, h.b.trans (hb.mono h.b.size)⟩
theorem impl_Func_flow.St.pop {G : Prop} {w : World} {n g5 m c5 : Nat} {v4 : Value} {out : List S75} {ini : List Int} {k0 : Int} {W : World} (h : impl_Func_flow.St G w n v4 (.slice (some ⟨g5, 0, none⟩) (m + 1) c5) out (ini ++ [k0]) W) (hm : ini.length = m) : impl_Func_flow.St G w n v4 (.slice (some ⟨g5, 0, none⟩) m c5) out ini W := by
  have h5 := Kd.R_take h.r5 (m := m) (by simp; omega)
  rw [List.take_append_of_le_length (by omega), ← hm, List.take_length] at h5
  rw [hm] at h5
  exact ⟨h.r4, h5, h.len, h.neg, h.lab, fun k hk => h.tod k (by simp [hk]), h.b⟩
/-- A row over a store elsewhere; over an append elsewhere. -/
theorem impl_Func_flow.over {α : Type} {d : Kd α} {e base g t : Nat} {W w1 : World} {v : Value} {xs : List α} {cells : Array Value} (h : d.R e W base (fun _ => True) v xs) (hb : W.heap[g]? = some (.cells cells t (0, 0))) (ht : ∀ q, q ∈ e :: d.E → q ≠ t) (hg : W.grownBy w1 (some g)) : d.R e w1 base (fun _ => True) v xs :=
  Kd.R_mono (Kd.R_grown (Kd.R_types h hb ht) hg (fun k hk he => hk.2 (by injection he))) (fun _ _ => trivial)
theorem impl_Func_flow.over2 {α β : Type} {d : Kd α} {d2 : Kd β} {e e2 base b2 : Nat} {ok2 : Nat → Prop} {W w1 : World} {v v2 : Value} {xs : List α} {ys : List β} (h : d.R e W base (fun _ => True) v xs) (h2 : d2.R e2 W b2 ok2 v2 ys) (ht : ∀ q, q ∈ e :: d.E → q ≠ e2) (hg : W.grownBy w1 v2.ownBlock) : d.R e w1 base (fun _ => True) v xs := by
  cases hv : v2.ownBlock with
  | none => rw [hv] at hg; exact Kd.R_grown h hg (fun k _ => by simp)
  | some g =>
    rw [hv] at hg
    obtain ⟨cells, hc⟩ := Kd.R_typed h2 g hv
    exact impl_Func_flow.over h hc ht hg
/-- A label in its row. -/
theorem impl_Func_flow.St.at {G : Prop} {w : World} {n g4 c4 : Nat} {v5 : Value} {out : List S75} {todo : List Int} {W : World} (h : impl_Func_flow.St G w n (.slice (some ⟨g4, 0, none⟩) n c4) v5 out todo W) (k : Int) (h0 : 0 ≤ k) (h1 : k < n) :
    W.cell? ⟨g4, k.toNat * 2, none⟩ = some (.int .i64 (rd_T75 out k).f0) ∧ W.cell? ⟨g4, k.toNat * 2 + 1, none⟩ = some (.int .i64 (rd_T75 out k).f1) := by
  obtain ⟨c, _, hM, hc, _⟩ := Kd.R_elem h.r4 z75 k h0 h1
  rw [k75_openM hM] at hc
  exact ⟨hc 0 _ rfl, hc 1 _ rfl⟩
theorem impl_Func_flow.rd_mem (out : List S75) (k : Int) (h0 : 0 ≤ k) (h1 : k < out.length) : rd_T75 out k ∈ out := by
  have hk : k.toNat < out.length := by omega
  unfold rd_T75
  rw [List.getD_eq_getElem?_getD, List.getElem?_eq_getElem hk]
  exact List.getElem_mem hk
set_option maxHeartbeats 4000000 in
set_option maxRecDepth 100000 in
theorem impl_Func_flow.calls (G : Prop) (K : Nat) (ad : Addr) (A : Option Addr) (c : Nat) (l : List S61) (on : Nat → Int × Int → List S80 × Bool) (w : World)
    (hcell : w.cell? ⟨ad.block, ad.off + 3, none⟩ = some (.slice A l.length c)) (hl : Kd.C k61 w A l.length l) (hc : l.length ≤ c) (h1 : 1 ≤ l.length) (h2 : l.length ≤ 400)
    (hon : ∀ (k : Int) (s : S75), 0 ≤ k → k < l.length → s.f0 ≤ 200 → 0 ≤ s.f1 → s.f1 ≤ 20 → impl_Ins_onward.f K (rd_T61 l k).f0 (rd_T61 l k).f1 (rd_T61 l k).f2 (rd_T61 l k).f3 (rd_T61 l k).f4.f0 (rd_T61 l k).f4.f1 (rd_T61 l k).f4.f2 k s.f0 s.f1 = some (on k.toNat (s.f0, s.f1)) ∧ (on k.toNat (s.f0, s.f1)).1.length ≤ 2 ∧ ∀ y ∈ (on k.toNat (s.f0, s.f1)).1, 0 ≤ y.f0 ∧ (0 ≤ y.f1.f0 ∨ ((on k.toNat (s.f0, s.f1)).1.length ≤ 1 ∧ y.f0 = k + 1 ∧ ¬ G)) ∧ 0 ≤ y.f1.f1) :
    Calls Try.prog 67 #[.pointer (some ad)] w fun e w' => Below w.heap.size w w' ∧
      ((∃ v out, e = .returned (.tuple #[v, .bool true]) ∧ Kd.R k75 75 w' w.heap.size (fun _ => True) v out ∧ out.length = l.length ∧ (G → Fl.Okay (impl_Func_flow.nx l.length on) (0, 0)) ∧ (G → ∀ k s, impl_Func_flow.st out k = some s ↔ Fl.R (impl_Func_flow.nx l.length on) (0, 0) k s) ∧ (G → ∀ s ∈ out, s.f0 < 0 → s = ⟨-1, 0⟩)) ∨
       (e = .returned (.tuple #[.slice none 0 0, .bool false]) ∧ (G → ¬ Fl.Okay (impl_Func_flow.nx l.length on) (0, 0)))) := by
  obtain ⟨n, hn⟩ : ∃ n, l.length = n := ⟨_, rfl⟩
  obtain ⟨bb, oo, ss⟩ := ad
  have hcell' : w.cell? ⟨bb, oo + 3, none⟩ = some (.slice A n c) := by rw [← hn]; exact hcell
  have HL := Lib.hid hl
  have HON := Lib.hid hon
  clear hon
  have HCE := Lib.hid hcell'
  clear hcell hl
  obtain ⟨WA, hWA⟩ : ∃ WA, w.alloc (Obj.cells #[Value.int .i64 (-1), Value.int .i64 0] 75) = WA := ⟨_, rfl⟩
  have hbA : Below w.heap.size w WA := by rw [← hWA]; exact below_alloc (Below.refl _ _) _
  have hC : Kd.C k75 WA (some ⟨w.heap.size, 0, none⟩) 1 [(⟨-1, 0⟩ : S75)] := by
    have hh : WA.heap[w.heap.size]? = some (.cells #[Value.int .i64 (-1), Value.int .i64 0] 75 (0, 0)) := by rw [← hWA]; exact heap_alloc_new w _
    refine ⟨rfl, by decide, fun _ => ⟨_, rfl, fun j p hj => ?_⟩⟩
    match j, hj with
    | 0, hj =>
      cases hj
      refine ⟨[.int .i64 (-1), .int .i64 0], rfl, k75_mk _ ⟨-1, 0⟩, fun i u hu => ?_⟩
      match i, hu with
      | 0, hu => cases hu; simp [World.cell?, hh, Addr.add]
      | 1, hu => cases hu; simp [World.cell?, hh, Addr.add]
  have hrep : Calls Try.prog 96 #[.slice (some ⟨w.heap.size, 0, none⟩) 1 1, .int .i64 (n : Int)] WA fun e w' => ∃ v0_ : Value, e = .returned (v0_) ∧ Kd.R k75 75 w' WA.heap.size (fun _ => True) v0_ (List.replicate n (⟨-1, 0⟩ : S75)) ∧ Below WA.heap.size WA w' := impl_standing.calls (some ⟨w.heap.size, 0, none⟩) 1 [(⟨-1, 0⟩ : S75)] (n : Int) (List.replicate n (⟨-1, 0⟩ : S75)) WA hC (Nat.le_refl _) (by
    unfold impl_standing.f
    rw [if_pos ⟨rfl, by omega, by omega⟩, Int.toNat_natCast]
    rfl)
  have HREP := Lib.hid hrep
  have hcA := (hbA.cell (World.block_lt_of_cell? w _ hcell')).trans hcell'
  clear hrep hC
  go_enter Try.func67, Try.ntmps67
  go_upto_region 2 with (go_at_call 96; (with_reducible refine HREP.out.mono ?_); rintro e W1 ⟨v4, rfl, hr1, hb1⟩)
  obtain ⟨g4, c4, rfl, hg4, hlt4, cells4, hcells4⟩ := Kd.R_form hr1 (by rw [List.length_replicate]; omega)
  simp only [List.length_replicate] at hr1 ⊢
  have hr1' := Kd.R_lower hr1 hbA.size
  have hb1' := hbA.trans (hb1.mono hbA.size)
  obtain ⟨cs0, hcl0, _, hcc0, _⟩ := Kd.R_elem hr1' z75 0 (Int.le_refl _) (by omega)
  obtain ⟨ca, cb, rfl⟩ : ∃ a b, cs0 = [a, b] := by
    match cs0, hcl0 with
    | [a, b], _ => exact ⟨a, b, rfl⟩
  have hpos : (0 : Int) < (n : Int) := by omega
  clear hr1 hb1 HREP hcA hcells4 hWA hbA
  go_upto_region 3 with (refine Kd.R_store k75 w.heap.size rfl rfl 75 (.tmp 21) (.tmp 20) rfl 75 0 0 (List.replicate n ⟨-1, 0⟩) (⟨0, 0⟩ : S75) (.agg #[.int .i64 0, .int .i64 0]) [.int .i64 0, .int .i64 0] [ca, cb] (fun _ => True) (fun _ => False) rfl rfl rfl rfl (by kernel_rfl) (by intro q hq; rcases List.mem_cons.1 hq with rfl | hq; rfl; rw [List.mem_singleton.1 hq]; rfl) hr1' (Int.le_refl _) hpos rfl hcc0 (Nat.le_refl _) (k75_mkM _ _ _ (⟨0, 0⟩ : S75)) (fun _ hk => hk.elim) hb1' ?_; intro W2 hr2 hb2 hg2)
  clear hr1' hb1' hcc0
  obtain ⟨out0, hout0⟩ : ∃ out0, (List.replicate n (⟨-1, 0⟩ : S75)).set 0 ⟨0, 0⟩ = out0 := ⟨_, rfl⟩
  have hr2' : Kd.R k75 75 W2 w.heap.size (fun _ => True) (.slice (some ⟨g4, 0, none⟩) n c4) out0 := by rw [← hout0]; exact hr2
  clear hr2
  go_wp2_with (refine Kd.R_lit (Kd.int .i64) w.heap.size 3 rfl (N := 22) rfl (xs := ([0] : List Int)) (inner := [.int .i64 0]) (ok := fun _ => True) (okp := fun _ => True) ?hr ?hp (fun _ hk => hk) trivial hb2 hb2.size (by simp) ?_; (case hr => first | (go_simp; done) | (go_simp; rfl)); (case hp => exact (Reps.one (show Kd.M (Kd.int .i64) _ _ _ 0 [.int .i64 0] from rfl) (Reps.none _ _))); intro v5 W3 hr5 hb3 hg3 hnew3)
  have hr4 := Kd.R_grown hr2' hg3 (fun k _ => by simp)
  clear hr2' hb2 hg2 hg3 hnew3
  have HSt : impl_Func_flow.St G w n (.slice (some ⟨g4, 0, none⟩) n c4) v5 out0 [0] W3 := by
    refine ⟨hr4, hr5, by rw [← hout0]; simp, ?_, ?_, fun k hk => by rw [List.mem_singleton.1 hk]; omega, hb3⟩
    · rw [← hout0]
      intro _ s hs h0
      rcases List.mem_or_eq_of_mem_set hs with hs | rfl
      · exact (List.mem_replicate.1 hs).2
      · exact absurd h0 (by decide)
    · rw [← hout0]
      intro s hs
      rcases List.mem_or_eq_of_mem_set hs with hs | rfl
      · rw [(List.mem_replicate.1 hs).2]
        exact ⟨by decide, by decide, by decide⟩
      · exact ⟨by decide, by decide, by decide⟩
  have HInv : Fl.Inv (impl_Func_flow.nx n on) (0, 0) (impl_Func_flow.st out0) (([0] : List Int).map Int.toNat) := by
    rw [← hout0, impl_Func_flow.st_start n (by omega)]
    exact Fl.Inv.init _ _
  have hU : impl_Func_flow.phi n out0 [0] ≤ (n + 1) * n + n := by
    have : impl_Func_flow.unl out0 ≤ out0.length := List.countP_le_length
    rw [← hout0] at this ⊢
    simp at this
    have h3 := Nat.mul_le_mul_left (n + 1) this
    unfold impl_Func_flow.phi
    simp
    omega
  have H1 := Aside0.mk HSt
  have H2 := Aside0.mk (fun _ : G => HInv)
  clear HSt HInv hr4 hr5 hb3 hout0
  go_loopg [5] ((n + 1) * n + n) (fun g v5 wr => ∃ (out : List S75) (todo : List Int), impl_Func_flow.phi n out todo ≤ g ∧ impl_Func_flow.phi n out todo ≤ (n + 1) * n + n ∧ Aside0 (impl_Func_flow.St G w n (.slice (some ⟨g4, 0, none⟩) n c4) v5 out todo wr) ∧ Aside0 (G → Fl.Inv (impl_Func_flow.nx n on) (0, 0) (impl_Func_flow.st out) (todo.map Int.toNat)))
  case atStart => exact ⟨out0, [0], hU, hU, H1, H2⟩
  case round =>
    clear H1 H2 hU
    obtain ⟨out, todo, hU, hU2, HS, HI⟩ := hrel
    have HN := Aside0.mk (And.intro h1 h2)
    rcases List.eq_nil_or_concat todo with rfl | ⟨ini, k0, rfl⟩
    · obtain ⟨A5, c5, rfl⟩ := Kd.R_slice HS.out.r5
      go_wp2
      go_ret2
      have hE := fun h : G => Fl.Inv.ends (HI.out h)
      refine ⟨HS.out.b, .inl ⟨_, out, rfl, HS.out.r4, by rw [hn]; exact HS.out.len, ?_, ?_, HS.out.neg⟩⟩
      · rw [hn]; exact fun h => (hE h).1
      · rw [hn]; exact fun h => (hE h).2
    · rw [List.concat_eq_append] at HS HI hU hU2
      obtain ⟨g5, c5, rfl, hg5, hlt5, cells5, hcells5⟩ := Kd.R_form HS.out.r5 (by simp)
      obtain ⟨m, hm⟩ : ∃ m, ini.length = m := ⟨_, rfl⟩
      have hlen : (ini ++ [k0]).length = m + 1 := by rw [← hm]; simp
      have hk0 := HS.out.tod k0 (by simp)
      obtain ⟨ck, _, hMk, hck, _⟩ := Kd.R_elem HS.out.r5 0 (m : Int) (by omega) (by omega)
      have hck0 : wr.cell? ⟨g5, m, none⟩ = some (.int .i64 k0) := by
        have e : (ini ++ [k0]).getD (m : Int).toNat 0 = k0 := by
          rw [Int.toNat_natCast, ← hm, List.getD_eq_getElem?_getD, List.getElem?_append_right (Nat.le_refl _), Nat.sub_self]
          rfl
        rw [e] at hMk
        rw [show ck = [Value.int .i64 k0] from hMk] at hck
        have h3 : wr.cell? ⟨g5, (m : Int).toNat * 1 + 0, none⟩ = some (.int .i64 k0) := hck 0 _ rfl
        rw [Int.toNat_natCast, Nat.mul_one] at h3
        exact h3
      have hmb : m < 9223372036854775807 := by
        have := (Kd.R_reads' HS.out.r5).2.2
        have := this.2.1
        omega
      rw [hlen]
      have hw1 : IntKind.i64.wrap (((m + 1 : Nat) : Int) - 1) = (m : Int) := by rw [IntKind.wrap_i64]; omega
      have hw2 : ((m + 1 : Nat) : Int) - 1 = (m : Int) := by omega
      have hpos1 : (0 : Int) < ((m + 1 : Nat) : Int) := by omega
      have hmc : (m : Int) ≤ (c5 : Int) := by
        have := (Kd.R_reads' HS.out.r5).2.1
        omega
      clear hck hMk hcells5
      have HS2 : Aside0 (impl_Func_flow.St G w n (.slice (some ⟨g4, 0, none⟩) n c4) (.slice (some ⟨g5, 0, none⟩) m c5) out ini wr) := ⟨impl_Func_flow.St.pop (by have h3 := HS.out; rw [hlen] at h3; exact h3) hm⟩
      have hlk : k0 < (out.length : Int) := by rw [HS.out.len]; exact hk0.2
      have hs0 : G → impl_Func_flow.st out k0.toNat = some ((rd_T75 out k0).f0, (rd_T75 out k0).f1) := fun hG => by
        obtain ⟨s0, hs0⟩ := (HI.out hG).todo_in k0.toNat (by simp)
        have hst := hs0
        rw [impl_Func_flow.st_at out k0.toNat (by omega), Int.toNat_of_nonneg hk0.1] at hst
        have hf : ¬ (rd_T75 out k0).f0 < 0 := fun h => by rw [if_pos h] at hst; cases hst
        rw [if_neg hf] at hst
        obtain rfl := Option.some.inj hst
        exact hs0
      have hbd := HS.out.lab _ (impl_Func_flow.rd_mem out k0 hk0.1 hlk)
      obtain ⟨hone, hw2l, hpos2⟩ := HON.out k0 (rd_T75 out k0) hk0.1 (by rw [hn]; exact hk0.2) hbd.1 hbd.2.1 hbd.2.2
      obtain ⟨⟨ways, okb⟩, hW⟩ : ∃ r, on k0.toNat ((rd_T75 out k0).f0, (rd_T75 out k0).f1) = r := ⟨_, rfl⟩
      rw [hW] at hone hpos2 hw2l
      have HWL := Aside0.mk (show ways.length ≤ 2 from hw2l)
      clear hw2l
      have hcW := (HS.out.b.cell (World.block_lt_of_cell? w _ hcell')).trans hcell'
      obtain ⟨x0, x1⟩ := HS2.out.at k0 hk0.1 hk0.2
      obtain ⟨aL, rfl, y0, y1, y2, y3, y4, y5, y6⟩ := at_T61 (Kd.C_below HL.out HS.out.b) k0 hk0.1 (by rw [hn]; exact hk0.2)
      have hk1 := hk0.1
      have hk2 := hk0.2
      have HO := Aside0.mk hone
      have HP := Aside0.mk hpos2
      have HWY := Aside0.mk hW
      have HST := Aside0.mk hs0
      clear hone hpos2 hW hs0 hbd
      go_upto_region 7 with fail
      go_cut [7, 8] from 37 to 52 (fun v7 v8 wx => v8 = .bool okb ∧ Aside0 (Kd.R k80 80 wx w.heap.size (fun _ => True) v7 ways) ∧ Aside0 (impl_Func_flow.St G w n (.slice (some ⟨g4, 0, none⟩) n c4) (.slice (some ⟨g5, 0, none⟩) m c5) out ini wx))
      case first =>
        -- first
        go_region_with (go_at_call 40; (with_reducible refine (impl_Ins_onward.calls K _ _ _ _ _ _ _ _ _ _ ways okb _ HO.out).mono ?_); rintro e w7 ⟨v7, rfl, hr7, hb7⟩)
        all_goals go_wp2_with fail
        all_goals go_meet
        all_goals exact ⟨rfl, ⟨Kd.R_lower hr7 HS2.out.b.size⟩, ⟨HS2.out.below ((by repeat (first | exact Below.refl _ _ | apply pw_below_drewN | apply below_drew1) : Below wr.heap.size wr _).trans (hb7.mono (Nat.le_refl _)))⟩⟩
        -- end
      case rest =>
        obtain ⟨rfl, H7, HS3⟩ := hcut
        go_upto_region 8 with fail
        cases okb with
        | false =>
          go_wp2
          go_ret2
          refine ⟨HS3.out.b, .inr ⟨rfl, ?_⟩⟩
          try rw [hn]
          intro hG
          refine Fl.Inv.stops (HI.out hG) (HST.out hG) ?_
          unfold impl_Func_flow.nx
          rw [HWY.out]
          exact if_neg (fun h => by cases h.2.1)
        | true =>
          obtain ⟨A7, c7, rfl⟩ := Kd.R_slice H7.out
          clear x0 x1 y0 y1 y2 y3 y4 y5 y6 hcW hck0
          go_wp2
          have H30 := Aside0.mk (show impl_Func_flow.phi n out ini ≤ impl_Func_flow.phi n out ini ∨ (0 = ways.length ∧ impl_Func_flow.phi n out ini + 1 ≤ impl_Func_flow.phi n out ini + (n - k0.toNat)) from .inl (Nat.le_refl _))
          go_loopw [5, 57] (fun v5 i wx => ∃ (x : Nat) (out' : List S75) (todo' : List Int) (new : List Nat), x ≤ ways.length ∧ i = .int .i64 (x : Int) ∧ Aside0 (G → Fl.comes ((ways.take x).map impl_Func_flow.fw) (impl_Func_flow.st out) = some (impl_Func_flow.st out', new)) ∧ Aside0 (todo'.map Int.toNat = ini.map Int.toNat ++ new) ∧ Aside0 (impl_Func_flow.phi n out' todo' ≤ impl_Func_flow.phi n out ini ∨ (x = ways.length ∧ impl_Func_flow.phi n out' todo' + 1 ≤ impl_Func_flow.phi n out ini + (n - k0.toNat))) ∧ Aside0 ((ways.take x).all (impl_Func_flow.inb n) = true) ∧ Aside0 (Kd.R k80 80 wx w.heap.size (fun _ => True) (.slice A7 ways.length c7) ways) ∧ Aside0 (impl_Func_flow.St G w n (.slice (some ⟨g4, 0, none⟩) n c4) v5 out' todo' wx)) (fun _ i _ => ways.length - (intOf i).toNat)
          case atStart => exact ⟨0, out, ini, [], Nat.zero_le _, rfl, ⟨fun _ => rfl⟩, ⟨by simp⟩, H30, ⟨rfl⟩, H7, HS3⟩
          case round =>
            clear H30 H7 HS3
            obtain ⟨x, out', todo', new, hx, rfl, E1, E2, E3, E4, H7, HS3⟩ := hrel
            by_cases hlt : x < ways.length
            · have hlt2 : (x : Int) < (ways.length : Int) := by omega
              have hx0 : (0 : Int) ≤ (x : Int) := by omega
              obtain ⟨a7, rfl, z0, z1, z2⟩ := at_T80 (Kd.R_reads' H7.out).2.2 (x : Int) hx0 hlt2
              obtain ⟨y, hy⟩ : ∃ y, rd_T80 ways (x : Int) = y := ⟨_, rfl⟩
              have hym : ways[x]? = some y := by
                rw [← hy]
                unfold rd_T80
                rw [Int.toNat_natCast, List.getD_eq_getElem?_getD, List.getElem?_eq_getElem hlt]
                rfl
              obtain ⟨p0, p1, p2⟩ := HP.out y (List.mem_of_getElem? hym)
              rw [hy, Int.toNat_natCast] at z0 z1 z2
              have HYM := Aside0.mk hym
              clear hy hym
              go_upto_region 13 with fail
              obtain ⟨wA, hwA⟩ : ∃ wA, wr.alloc (Obj.cells #[Value.int .i64 y.f0, Value.int .i64 y.f1.f0, Value.int .i64 y.f1.f1] 80) = wA := ⟨_, rfl⟩
              have bA : Below wr.heap.size wr wA := by rw [← hwA]; exact below_alloc (Below.refl _ _) _
              have BK := Aside0.mk (show wA.heap[wr.heap.size]? = some (.cells #[Value.int .i64 y.f0, Value.int .i64 y.f1.f0, Value.int .i64 y.f1.f1] 80 (0, 0)) by rw [← hwA]; exact heap_alloc_new wr _)
              have HS4 := Aside0.mk (HS3.out.below bA)
              have H8 := Aside0.mk (Kd.R_below H7.out bA)
              obtain ⟨g8, hg8⟩ : ∃ g8, wr.heap.size = g8 := ⟨_, rfl⟩
              rw [hg8] at BK
              rw [hwA, hg8]
              clear hwA bA hg8 HS3 H7 z0 z1 z2
              go_cut [61] from 62 to 81 (fun v61 wx => v61 = .bool (!(impl_Func_flow.inb n y)) ∧ Aside0 (wx.heap[g8]? = some (.cells #[Value.int .i64 y.f0, Value.int .i64 y.f1.f0, Value.int .i64 y.f1.f1] 80 (0, 0))) ∧ Aside0 (Kd.R k80 80 wx w.heap.size (fun _ => True) (.slice (some a7) ways.length c7) ways) ∧ Aside0 (impl_Func_flow.St G w n (.slice (some ⟨g4, 0, none⟩) n c4) u5 out' todo' wx))
              case first =>
                have b0 := blk_cell BK.out 0
                have b1 := blk_cell BK.out 1
                have b2 := blk_cell BK.out 2
                have hcB := (HS4.out.b.cell (World.block_lt_of_cell? w _ HCE.out)).trans HCE.out
                have hmx : Try.prog.follows Departure.mixedOrders = true := by kernel_rfl
                by_cases q0 : (n : Int) ≤ y.f0
                · have q0a : ¬ y.f0 < (n : Int) := by omega
                  have q0b : decide ((n : Int) ≤ y.f0) = true := decide_eq_true q0
                  have HB := Aside0.mk (show impl_Func_flow.inb n y = false by unfold impl_Func_flow.inb; simp; omega)
                  go_region_o
                  all_goals go_wp2_with fail
                  all_goals go_meet
                  all_goals (case rel => exact ⟨by rw [HB.out]; rfl, ⟨BK.out⟩, ⟨H8.out⟩, ⟨HS4.out.below (by repeat (first | exact Below.refl _ _ | apply pw_below_drewN | apply below_drew1))⟩⟩)
                · by_cases q1 : (200 : Int) < y.f1.f0
                  · have HB := Aside0.mk (show impl_Func_flow.inb n y = false by unfold impl_Func_flow.inb; simp; omega)
                    -- first
                    go_region_o
                    all_goals go_wp2_with fail
                    all_goals go_meet
                    all_goals (case rel => exact ⟨by rw [HB.out]; rfl, ⟨BK.out⟩, ⟨H8.out⟩, ⟨HS4.out.below (by repeat (first | exact Below.refl _ _ | apply pw_below_drewN | apply below_drew1))⟩⟩)
                    -- end
                  · by_cases q2 : (20 : Int) < y.f1.f1
                    · have HB := Aside0.mk (show impl_Func_flow.inb n y = false by unfold impl_Func_flow.inb; simp; omega)
                      -- first
                      go_region_o
                      all_goals go_wp2_with fail
                      all_goals go_meet
                      all_goals (case rel => exact ⟨by rw [HB.out]; rfl, ⟨BK.out⟩, ⟨H8.out⟩, ⟨HS4.out.below (by repeat (first | exact Below.refl _ _ | apply pw_below_drewN | apply below_drew1))⟩⟩)
                      -- end
                    · have HB := Aside0.mk (show impl_Func_flow.inb n y = true by unfold impl_Func_flow.inb; simp; omega)
                      -- first
                      go_region_o
                      all_goals go_wp2_with fail
                      all_goals go_meet
                      all_goals (case rel => exact ⟨by rw [HB.out]; rfl, ⟨BK.out⟩, ⟨H8.out⟩, ⟨HS4.out.below (by repeat (first | exact Below.refl _ _ | apply pw_below_drewN | apply below_drew1))⟩⟩)
                      -- end
              case rest =>
                clear BK HS4 H8
                obtain ⟨rfl, BK, H8, HS4⟩ := hcut
                go_upto_if 61 with fail
                cases hib : impl_Func_flow.inb n y with
                | false =>
                  go_wp2
                  go_ret2
                  refine ⟨HS4.out.b, .inr ⟨rfl, ?_⟩⟩
                  try rw [hn]
                  intro hG
                  refine Fl.Inv.stops (HI.out hG) (HST.out hG) ?_
                  unfold impl_Func_flow.nx
                  rw [HWY.out]
                  refine if_neg (fun h => ?_)
                  have h3 := List.all_eq_true.1 h.2.2 y (List.mem_of_getElem? HYM.out)
                  rw [hib] at h3
                  cases h3
                | true =>
                  obtain ⟨q0, q1, q2⟩ : y.f0 < (n : Int) ∧ y.f1.f0 ≤ 200 ∧ y.f1.f1 ≤ 20 := by
                    unfold impl_Func_flow.inb at hib
                    simp at hib
                    exact ⟨hib.1.1, hib.1.2, hib.2⟩
                  have HIB := Aside0.mk hib
                  clear hib
                  have b0 := blk_cell BK.out 0
                  have b1 := blk_cell BK.out 1
                  have b2 := blk_cell BK.out 2
                  obtain ⟨x0, x1⟩ := HS4.out.at y.f0 p0 q0
                  have hlo : out'.length = n := HS4.out.len
                  have hyo : (y.f0.toNat : Int) = y.f0 := Int.toNat_of_nonneg p0
                  have hw3 : wrap64 ((x : Int) + 1) = ((x + 1 : Nat) : Int) := by have := HWL.out; unfold wrap64; omega
                  by_cases hneg : (rd_T75 out' y.f0).f0 < 0
                  · -- a new label
                    have hP1 : G → 0 ≤ y.f1.f0 := fun hG => by
                      rcases p1 with h | h
                      · exact h
                      · exact absurd hG h.2.2
                    have E1' := Aside0.mk (show G → Fl.comes ((ways.take (x + 1)).map impl_Func_flow.fw) (impl_Func_flow.st out) = some (impl_Func_flow.st (out'.set y.f0.toNat y.f1), new ++ [y.f0.toNat]) from fun hG => by
                      have hcm := impl_Func_flow.comes_more HYM.out (E1.out hG)
                      have h3 := impl_Func_flow.come_new out' y.f0.toNat y.f1 (by omega) (hP1 hG) (by rw [hyo]; exact hneg)
                      rw [h3] at hcm
                      exact hcm)
                    have E3' := Aside0.mk (show impl_Func_flow.phi n (out'.set y.f0.toNat y.f1) (todo' ++ [y.f0]) ≤ impl_Func_flow.phi n out ini ∨ (x + 1 = ways.length ∧ impl_Func_flow.phi n (out'.set y.f0.toNat y.f1) (todo' ++ [y.f0]) + 1 ≤ impl_Func_flow.phi n out ini + (n - k0.toNat)) by
                      have h3 : impl_Func_flow.phi n out' todo' ≤ impl_Func_flow.phi n out ini := by
                        rcases E3.out with h | h
                        · exact h
                        · exact absurd hlt (by rw [h.1]; exact Nat.lt_irrefl _)
                      rw [impl_Func_flow.phi_snoc]
                      by_cases hy0 : 0 ≤ y.f1.f0
                      · have h4 := impl_Func_flow.phi_new n out' todo' y.f0.toNat y.f1 (impl_Func_flow.unl_set out' y.f0.toNat y.f1 (by omega) hy0 (by rw [hyo]; exact hneg))
                        exact .inl (impl_Func_flow.new_less h4 h3)
                      · have h4 := impl_Func_flow.phi_neg n out' todo' y.f0.toNat y.f1 (impl_Func_flow.unl_neg out' y.f0.toNat y.f1 (by omega) (by omega) (by rw [hyo]; exact hneg))
                        obtain ⟨h5, h6, _⟩ : ways.length ≤ 1 ∧ y.f0 = k0 + 1 ∧ ¬ G := by
                          rcases p1 with h | h
                          · exact absurd h hy0
                          · exact h
                        rw [h4]
                        exact .inr ⟨impl_Func_flow.one_way hlt h5, impl_Func_flow.left_more hk0.1 h6 q0 h3⟩)
                    have E2' := Aside0.mk (show (todo' ++ [y.f0]).map Int.toNat = ini.map Int.toNat ++ (new ++ [y.f0.toNat]) by rw [List.map_append, E2.out, List.append_assoc]; rfl)
                    have E4' := Aside0.mk (impl_Func_flow.all_more HYM.out E4.out HIB.out)
                    obtain ⟨cs0, hcl0, _, hcc0, _⟩ := Kd.R_elem HS4.out.r4 z75 y.f0 p0 q0
                    obtain ⟨ca, cb, rfl⟩ : ∃ a b, cs0 = [a, b] := by
                      match cs0, hcl0 with
                      | [a, b], _ => exact ⟨a, b, rfl⟩
                    have HCC := Aside0.mk hcc0
                    clear hcc0
                    go_upto_region 17 with (refine Kd.R_store k75 w.heap.size rfl rfl 75 (.tmp 95) (.tmp 94) rfl 75 y.f0 0 out' y.f1 (.agg #[.int .i64 y.f1.f0, .int .i64 y.f1.f1]) [.int .i64 y.f1.f0, .int .i64 y.f1.f1] [ca, cb] (fun _ => True) (fun _ => False) rfl rfl rfl rfl (by kernel_rfl) (by intro q hq; rcases List.mem_cons.1 hq with rfl | hq; rfl; rw [List.mem_singleton.1 hq]; rfl) HS4.out.r4 p0 q0 rfl HCC.out (Nat.le_refl _) (k75_mkM _ _ _ y.f1) (fun _ hk => hk.elim) HS4.out.b ?_; intro W6 hr6 hb6 hg6)
                    obtain ⟨cel4, hcel4⟩ := Kd.R_typed HS4.out.r4 g4 rfl
                    have r5' := impl_Func_flow.over HS4.out.r5 hcel4 (fun q hq => by rw [List.mem_singleton.1 (show q ∈ [3] from hq)]; decide) hg6
                    have h8' := impl_Func_flow.over H8.out hcel4 (fun q hq => by rw [List.mem_singleton.1 (show q ∈ [80] from hq)]; decide) hg6
                    have hne : some g8 ≠ some g4 := fun h => by
                      injection h with h
                      have h2 := BK.out
                      rw [h, hcel4] at h2
                      injection h2 with h2
                      injection h2 with _ h2
                      exact absurd h2 (by decide)
                    have BK6 := (hg6.block g8 (blk_lt BK.out) hne).trans BK.out
                    have b60 := blk_cell BK6 0
                    have hal : (todo'.length + 1) * 8 ≤ 140737488355328 := by
                      have h5 := E3.out
                      have h6 := impl_Func_flow.phi_len n out' todo' HS4.out.tod
                      have h7 := impl_Func_flow.phi_most n (by rw [← hn]; exact HN.out.2)
                      have h8 : impl_Func_flow.phi n out ini ≤ 160800 := by
                        rw [impl_Func_flow.phi_snoc] at hU2
                        exact Nat.le_trans (Nat.le_trans (Nat.le_add_right _ _) hU2) h7
                      exact impl_Func_flow.len_less h6 h5 h8 (by rw [← hn]; exact HN.out.2)
                    have R4 := Aside0.mk hr6
                    have R5 := Aside0.mk r5'
                    have R8 := Aside0.mk h8'
                    have HW3 := Aside0.mk hw3
                    have HB6 := Aside0.mk hb6
                    have HAL := Aside0.mk hal
                    clear hr6 r5' h8' hw3 hb6 hal hg6 hcel4 hne b0 b1 b2 x0 x1 BK6
                    go_wp2_with (at_builtin; refine Kd.R_append (Kd.int .i64) (w0 := w) w.heap.size rfl (.tmp 96) (.tmp 99) 37 3 (.int .i64 0) 8 rfl Try.underlying37 (by kernel_rfl) rfl (by decide) (by decide) u5 todo' y.f0 [.int .i64 y.f0] (fun _ => True) (fun _ => False) rfl rfl rfl (fun _ hk => hk.elim) (fun _ _ => trivial) R5.out HB6.out HB6.out.size HAL.out ?_; intro v7 W7 hr7 hb7 hg7 hat7)
                    refine ⟨⟨x + 1, out'.set y.f0.toNat y.f1, todo' ++ [y.f0], new ++ [y.f0.toNat], Nat.succ_le_of_lt hlt, congrArg (Value.int .i64) HW3.out, E1', E2', E3', E4', ⟨impl_Func_flow.over2 R8.out R5.out (fun q hq => by rw [List.mem_singleton.1 (show q ∈ [80] from hq)]; decide) hg7⟩, ⟨impl_Func_flow.over2 R4.out R5.out (fun q hq => by rw [List.mem_singleton.1 (show q ∈ [75] from hq)]; decide) hg7, hr7, by rw [List.length_set]; exact HS4.out.len, fun hG s hs h0 => ?_, fun s hs => ?_, fun k hk => ?_, hb7⟩⟩, ?_⟩
                    · rcases List.mem_or_eq_of_mem_set hs with hs | rfl
                      · exact HS4.out.neg hG s hs h0
                      · exact absurd h0 (Int.not_lt.2 (hP1 hG))
                    · rcases List.mem_or_eq_of_mem_set hs with hs | rfl
                      · exact HS4.out.lab s hs
                      · exact ⟨q1, p2, q2⟩
                    · rcases List.mem_append.1 hk with hk | hk
                      · exact HS4.out.tod k hk
                      · rw [List.mem_singleton.1 hk]
                        exact ⟨p0, q0⟩
                    · rw [HW3.out]
                      show ways.length - ((x + 1 : Nat) : Int).toNat < ways.length - ((x : Nat) : Int).toNat
                      rw [Int.toNat_natCast, Int.toNat_natCast]
                      exact Nat.sub_lt_sub_left hlt (Nat.lt_succ_self x)
                  · skip
                    by_cases heq : (rd_T75 out' y.f0).f0 = y.f1.f0 ∧ (rd_T75 out' y.f0).f1 = y.f1.f1
                    · -- the same
                      rw [heq.1] at x0
                      rw [heq.2] at x1
                      go_upto_region 18 with fail
                      go_cut [101] from 102 to 109 (fun v101 wx => v101 = .bool false ∧ Aside0 (wx.heap[g8]? = some (.cells #[Value.int .i64 y.f0, Value.int .i64 y.f1.f0, Value.int .i64 y.f1.f1] 80 (0, 0))) ∧ Aside0 (Kd.R k80 80 wx w.heap.size (fun _ => True) (.slice (some a7) ways.length c7) ways) ∧ Aside0 (impl_Func_flow.St G w n (.slice (some ⟨g4, 0, none⟩) n c4) u5 out' todo' wx))
                      case first =>
                        have hmx : Try.prog.follows Departure.mixedOrders = true := by kernel_rfl
                        go_region_o
                        all_goals go_wp2_with fail
                        all_goals go_meet
                        all_goals (case rel => exact ⟨rfl, ⟨BK.out⟩, ⟨H8.out⟩, ⟨HS4.out.below (by repeat (first | exact Below.refl _ _ | apply pw_below_drewN | apply below_drew1))⟩⟩)
                      case rest =>
                        clear BK HS4 H8 b0 b1 b2 x0 x1
                        obtain ⟨rfl, BK, H8, HS4⟩ := hcut
                        have hcm2 : G → Fl.comes ((ways.take (x + 1)).map impl_Func_flow.fw) (impl_Func_flow.st out) = some (impl_Func_flow.st out', new) := fun hG => by
                          have hcm := impl_Func_flow.comes_more HYM.out (E1.out hG)
                          have h3 := impl_Func_flow.come_same out' y.f0.toNat y.f1 (by omega) (by rw [hyo]; exact hneg) (by rw [hyo]; exact heq.1) (by rw [hyo]; exact heq.2)
                          rw [h3] at hcm
                          rw [hcm]
                          show some (impl_Func_flow.st out', new ++ []) = _
                          rw [List.append_nil]
                        have E1' := Aside0.mk hcm2
                        have E3' := Aside0.mk (show impl_Func_flow.phi n out' todo' ≤ impl_Func_flow.phi n out ini ∨ (x + 1 = ways.length ∧ impl_Func_flow.phi n out' todo' + 1 ≤ impl_Func_flow.phi n out ini + (n - k0.toNat)) by
                          rcases E3.out with h | h
                          · exact .inl h
                          · exact absurd hlt (by rw [h.1]; exact Nat.lt_irrefl _))
                        have E4' := Aside0.mk (impl_Func_flow.all_more HYM.out E4.out HIB.out)
                        clear hcm2 heq
                        go_wp2
                        refine ⟨⟨x + 1, out', todo', new, Nat.succ_le_of_lt hlt, congrArg (Value.int .i64) hw3, E1', E2, E3', E4', H8, HS4⟩, ?_⟩
                        rw [hw3]
                        show ways.length - ((x + 1 : Nat) : Int).toNat < ways.length - ((x : Nat) : Int).toNat
                        rw [Int.toNat_natCast, Int.toNat_natCast]
                        exact Nat.sub_lt_sub_left hlt (Nat.lt_succ_self x)
                    · -- they do not agree
                      have hcl := fun hG : G => impl_Func_flow.comes_stuck HYM.out (E1.out hG) (by
                        have h3 := impl_Func_flow.come_clash out' y.f0.toNat y.f1 (by omega) (by rw [hyo]; exact hneg) (by rw [hyo]; exact heq)
                        exact h3)
                      have hnx : impl_Func_flow.nx n on k0.toNat ((rd_T75 out k0).f0, (rd_T75 out k0).f1) = some (ways.map impl_Func_flow.fw) ∨ impl_Func_flow.nx n on k0.toNat ((rd_T75 out k0).f0, (rd_T75 out k0).f1) = none := by
                        unfold impl_Func_flow.nx
                        rw [HWY.out]
                        by_cases h3 : k0.toNat < n ∧ true = true ∧ ways.all (impl_Func_flow.inb n) = true
                        · exact .inl (if_pos h3)
                        · exact .inr (if_neg h3)
                      have hNO : G → ¬ Fl.Okay (impl_Func_flow.nx n on) (0, 0) := fun hG => by
                        rcases hnx with h3 | h3
                        · exact Fl.Inv.clash (HI.out hG) (HST.out hG) h3 (hcl hG)
                        · exact Fl.Inv.stops (HI.out hG) (HST.out hG) h3
                      have HNO := Aside0.mk hNO
                      clear hNO hnx hcl
                      go_upto_region 18 with fail
                      go_cut [101] from 102 to 109 (fun v101 wx => v101 = .bool true ∧ Aside0 (wx.heap[g8]? = some (.cells #[Value.int .i64 y.f0, Value.int .i64 y.f1.f0, Value.int .i64 y.f1.f1] 80 (0, 0))) ∧ Aside0 (Kd.R k80 80 wx w.heap.size (fun _ => True) (.slice (some a7) ways.length c7) ways) ∧ Aside0 (impl_Func_flow.St G w n (.slice (some ⟨g4, 0, none⟩) n c4) u5 out' todo' wx))
                      case first =>
                        have hmx : Try.prog.follows Departure.mixedOrders = true := by kernel_rfl
                        by_cases hq0 : (rd_T75 out' y.f0).f0 = y.f1.f0
                        · have hq1 : ¬ (rd_T75 out' y.f0).f1 = y.f1.f1 := fun h => heq ⟨hq0, h⟩
                          rw [hq0] at x0
                          clear heq hq0
                          go_region_o
                          all_goals go_wp2_with fail
                          all_goals go_meet
                          all_goals (case rel => exact ⟨rfl, ⟨BK.out⟩, ⟨H8.out⟩, ⟨HS4.out.below (by repeat (first | exact Below.refl _ _ | apply pw_below_drewN | apply below_drew1))⟩⟩)
                        · clear heq
                          go_region_o
                          all_goals go_wp2_with fail
                          all_goals go_meet
                          all_goals (case rel => exact ⟨rfl, ⟨BK.out⟩, ⟨H8.out⟩, ⟨HS4.out.below (by repeat (first | exact Below.refl _ _ | apply pw_below_drewN | apply below_drew1))⟩⟩)
                      case rest =>
                        clear BK HS4 H8 b0 b1 b2 x0 x1
                        obtain ⟨rfl, BK, H8, HS4⟩ := hcut
                        go_wp2
                        go_ret2
                        exact ⟨HS4.out.b, .inr ⟨rfl, by try rw [hn]
                                                        exact HNO.out⟩⟩
            · obtain rfl : x = ways.length := by omega
              have hnl : ¬ (ways.length : Int) < (ways.length : Int) := by omega
              go_wp2
              go_roundg (impl_Func_flow.phi n out' todo')
              case measure =>
                rw [impl_Func_flow.phi_snoc] at hU
                exact (impl_Func_flow.left_less hk0.1 hk0.2 E3.out hU).1
              case rel =>
                have hall : ways.all (impl_Func_flow.inb n) = true := by have := E4.out; rwa [List.take_length] at this
                have hc1 (hG : G) : Fl.comes (ways.map impl_Func_flow.fw) (impl_Func_flow.st out) = some (impl_Func_flow.st out', new) := by have := E1.out hG; rwa [List.take_length] at this
                have hnx : impl_Func_flow.nx n on k0.toNat ((rd_T75 out k0).f0, (rd_T75 out k0).f1) = some (ways.map impl_Func_flow.fw) := by
                  unfold impl_Func_flow.nx
                  rw [HWY.out]
                  exact if_pos ⟨by omega, rfl, hall⟩
                refine ⟨out', todo', Nat.le_refl _, (by rw [impl_Func_flow.phi_snoc] at hU2; exact (impl_Func_flow.left_less hk0.1 hk0.2 E3.out hU2).2), HS3, ⟨fun hG => ?_⟩⟩
                refine Fl.Inv.round (rest := ini.map Int.toNat) (HI.out hG) (fun y => ?_) (HST.out hG) hnx (hc1 hG) _ (fun y => ?_)
                · rw [List.map_append, List.mem_append]
                  simp [or_comm]
                · rw [E2.out, List.mem_append]

end Go.Proofs.Ytlhbcgmmgofcgaa.QFnExactProgramOK
