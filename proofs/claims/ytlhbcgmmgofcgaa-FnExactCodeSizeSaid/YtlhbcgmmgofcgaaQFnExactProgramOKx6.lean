/- Functions that the law uses, as Lean functions with the same answers, and the walks that show it: by this session's program, after the form of the kit's print. No condition. -/
import Derived.Test.YtlhbcgmmgofcgaaQFnExactProgramOKx0
import Derived.Test.YtlhbcgmmgofcgaaQFnExactProgramOKx4
import Derived.Test.YtlhbcgmmgofcgaaQFnExactProgramOKx5
namespace Go.Proofs.Ytlhbcgmmgofcgaa.QFnExactProgramOK
open Go.RowKit Go.Proofs.YtlhbcgmmgofcgaaW.PrintWords Go.Proofs.YtlhbcgmmgofcgaaW.PrintLast Go.Proofs.YtlhbcgmmgofcgaaW.PrintMore
attribute [local go_sem] max2_int min2_int max_two min_two max_three min_three max_four min_four   -- for this text's walks alone
open Go.Proofs.Ytlhbcgmmgofcgaa
attribute [local go_sem high] My.binOp_gtr_flip
set_option linter.unusedVariables false
set_option linter.unusedSimpArgs false

/-! ### spec_l05Over: function 35 -/
open Hd
theorem spec_l05Over.mixed : Try.prog.follows Departure.mixedOrders = true := by kernel_rfl
abbrev spec_l05Over.T := List Int × List Int × Bool × Int
/-- The ways on from a place, with the stack's height and the open tries; none where nothing goes on. -/
def spec_l05Over.ways (op N k h on t : Int) : Option (List (Int × Int × Int)) :=
  if op = 12 ∨ op = 13 then none else some (if op = 6 then [(N, h, t)] else if op = 7 then [(wrap64 (k + 1), h, t), (N, h, t)] else if op = 8 ∨ op = 9 then [(wrap64 (k + 1), h, t), (N, wrap64 (h + 1), t)] else if op = 14 then [(wrap64 (k + 1), h, wrap64 (t + 1)), (N, wrap64 (h + 1), t)] else if op = 15 then [(wrap64 (k + 1), h, wrap64 (t - 1))] else [(wrap64 (k + 1), wrap64 (h + on), t)])
def spec_l05Over.flat (l : List (Int × Int × Int)) : List Int := (l.map fun p => [p.1, p.2.1, p.2.2]).flatten
/-- All ways come. -/
def spec_l05Over.comes (n : Nat) : List (Int × Int × Int) → spec_l05Over.T × List Int → spec_l05Over.T × List Int
  | [], s => s
  | p :: l, s => spec_l05Over.comes n l ((spec_l05Flow_come.come n s.1 p.1 p.2.1 p.2.2).1, if (spec_l05Flow_come.come n s.1 p.1 p.2.1 p.2.2).2 = true then s.2 ++ [p.1] else s.2)
/-- The rounds: what is to be looked at, the state. -/
def spec_l05Over.OV (l : List S61) (n : Nat) : Nat → List Int → spec_l05Over.T → Option spec_l05Over.T
  | 0, _, _ => none
  | _ + 1, [], st => some st
  | f + 1, k :: rest, st =>
    if st.2.2.1 = true then
      if 0 ≤ k ∧ k < (n : Int) ∧ rest.length ≤ 100000 then
        (spec_l05Grow.f 64 (rd_T61 l k).f0 (rd_T61 l k).f1 (rd_T61 l k).f2 (rd_T61 l k).f3 (rd_T61 l k).f4.f0 (rd_T61 l k).f4.f1 (rd_T61 l k).f4.f2).bind fun g =>
          if wrap64 (rd st.1 k - g.1) < 0 then some (st.1, st.2.1, false, st.2.2.2)
          else match spec_l05Over.ways (rd_T61 l k).f0 (rd_T61 l k).f1 k (wrap64 (rd st.1 k - g.1)) g.2 (rd st.2.1 k) with
            | none => spec_l05Over.OV l n f rest (st.1, st.2.1, st.2.2.1, max st.2.2.2 (wrap64 (wrap64 (rd st.1 k - g.1) + g.2)))
            | some ws => spec_l05Over.OV l n f (spec_l05Over.comes n ws ((st.1, st.2.1, st.2.2.1, max st.2.2.2 (wrap64 (wrap64 (rd st.1 k - g.1) + g.2))), rest)).2 (spec_l05Over.comes n ws ((st.1, st.2.1, st.2.2.1, max st.2.2.2 (wrap64 (wrap64 (rd st.1 k - g.1) + g.2))), rest)).1
      else none
    else some st
theorem spec_l05Over.ways_len {op N k h on t : Int} {ws : List (Int × Int × Int)} (h1 : spec_l05Over.ways op N k h on t = some ws) : ws.length ≤ 2 := by
  unfold spec_l05Over.ways at h1
  split at h1
  · cases h1
  · rw [← Option.some.inj h1]
    repeat' split
    all_goals simp
theorem spec_l05Over.flat_len : ∀ ws : List (Int × Int × Int), (spec_l05Over.flat ws).length = 3 * ws.length
  | [] => rfl
  | p :: ws => by
    show (p.1 :: p.2.1 :: p.2.2 :: spec_l05Over.flat ws).length = 3 * (ws.length + 1)
    simp only [List.length_cons, spec_l05Over.flat_len ws]
    omega
theorem spec_l05Over.flat_at : ∀ (ws : List (Int × Int × Int)) (x : Nat) (p : Int × Int × Int), ws[x]? = some p → (spec_l05Over.flat ws)[3 * x]? = some p.1 ∧ (spec_l05Over.flat ws)[3 * x + 1]? = some p.2.1 ∧ (spec_l05Over.flat ws)[3 * x + 2]? = some p.2.2
  | [], x, p, h => by simp at h
  | q :: ws, 0, p, h => by
    obtain rfl : q = p := by simpa using h
    exact ⟨rfl, rfl, rfl⟩
  | q :: ws, x + 1, p, h => by
    have h2 := spec_l05Over.flat_at ws x p (by simpa using h)
    show (q.1 :: q.2.1 :: q.2.2 :: spec_l05Over.flat ws)[3 * (x + 1)]? = _ ∧ (q.1 :: q.2.1 :: q.2.2 :: spec_l05Over.flat ws)[3 * (x + 1) + 1]? = _ ∧ (q.1 :: q.2.1 :: q.2.2 :: spec_l05Over.flat ws)[3 * (x + 1) + 2]? = _
    rw [show 3 * (x + 1) = 3 * x + 1 + 1 + 1 by omega, show 3 * x + 1 + 1 + 1 + 1 = (3 * x + 1) + 1 + 1 + 1 by omega, show 3 * x + 1 + 1 + 1 + 2 = (3 * x + 2) + 1 + 1 + 1 by omega]
    simp only [List.getElem?_cons_succ]
    exact h2
theorem spec_l05Over.cell_at {w : World} {b t : Nat} {ws : List (Int × Int × Int)} (h : w.heap[b]? = some (.cells (spec_l05Flow_come.iv (spec_l05Over.flat ws)).toArray t (0, 0))) (j : Nat) (v : Int) (hv : (spec_l05Over.flat ws)[j]? = some v) : w.cell? ⟨b, j, none⟩ = some (.int .i64 v) := by
  rw [blk_cell h]
  unfold spec_l05Flow_come.iv
  rw [List.getElem?_toArray, List.getElem?_map, hv]
  rfl
theorem spec_l05Over.comes_drop {n : Nat} {ws : List (Int × Int × Int)} {x : Nat} {p : Int × Int × Int} (h : ws[x]? = some p) (s : spec_l05Over.T × List Int) :
    spec_l05Over.comes n (ws.drop x) s = spec_l05Over.comes n (ws.drop (x + 1)) ((spec_l05Flow_come.come n s.1 p.1 p.2.1 p.2.2).1, if (spec_l05Flow_come.come n s.1 p.1 p.2.1 p.2.2).2 = true then s.2 ++ [p.1] else s.2) := by
  obtain ⟨hx, e⟩ := List.getElem?_eq_some_iff.1 h
  rw [List.drop_eq_getElem_cons hx, e]
  rfl
theorem spec_l05Over.info : (Try.prog.info? 3).map (fun i => (i.zero, i.size, i.bytes)) = some (some (.int .i64 0), 1, 8) := by kernel_rfl
theorem spec_l05Over.made (n : Nat) : madeCells (Value.int .i64 0).cells n = (spec_l05Flow_come.iv (List.replicate n 0)).toArray := by
  unfold madeCells spec_l05Flow_come.iv
  apply Array.ext
  · simp
  · intro i h1 h2
    simp [Value.cells, Nat.mod_one]
theorem spec_l05Over.make (n : Nat) (hn : n ≤ 400) (w : World) : (Instr.makeSlice 37 (.int .i64 (n : Int)) (.int .i64 (n : Int))).run Try.prog w = .ok (.slice (some ⟨w.heap.size, 0, none⟩) n n) (w.alloc (.cells (spec_l05Flow_come.iv (List.replicate n 0)).toArray 3)) := by
  obtain ⟨i0, hi, hzz⟩ := Option.map_eq_some_iff.1 spec_l05Over.info
  simp only [Prod.mk.injEq] at hzz
  obtain ⟨hz0, hz1, hz2⟩ := hzz
  have hr := run_make (P := Try.prog) w 37 3 i0 (.int .i64 0) Try.underlying37 hi hz0 .i64 .i64 (n : Int) (n : Int) (by omega) (by omega) (by rw [hz2]; omega) (by omega)
  rw [Int.toNat_natCast, hz1, Nat.mul_one, spec_l05Over.made] at hr
  exact hr
theorem spec_l05Over.ne_own {α : Type} {d : Kd α} {e base g t : Nat} {ok : Nat → Prop} {w : World} {v : Value} {xs : List α} {cs : Array Value} (h : d.Q e w base ok v xs) (hb : w.heap[g]? = some (.cells cs t (0, 0))) (ht : t ≠ e) : some g ≠ v.ownBlock := fun he => by
  obtain ⟨_, inner, ho, _⟩ := h
  obtain ⟨_, cells, hc⟩ := q_typed ho g he.symm
  rw [hc] at hb
  injection hb with hb
  injection hb with _ hb
  exact ht hb.symm
/-- -1 as far as was come, 0 behind. -/
def spec_l05Over.part (n i : Nat) : List Int := List.replicate i (-1) ++ List.replicate (n - i) 0
theorem spec_l05Over.part_set (n i : Nat) (h : i < n) : (spec_l05Over.part n i).set i (-1) = spec_l05Over.part n (i + 1) := by
  unfold spec_l05Over.part
  rw [List.set_append_right _ _ (by rw [List.length_replicate]; exact Nat.le_refl _), List.length_replicate, Nat.sub_self, show n - i = (n - (i + 1)) + 1 by omega, List.replicate_succ, List.set_cons_zero, List.replicate_succ', List.append_assoc]
  rfl
theorem spec_l05Over.part_zero (n : Nat) : spec_l05Over.part n 0 = List.replicate n 0 := by unfold spec_l05Over.part; simp
theorem spec_l05Over.part_all (n : Nat) : spec_l05Over.part n n = List.replicate n (-1) := by unfold spec_l05Over.part; simp
theorem spec_l05Over.first (n : Nat) (h : 1 ≤ n) : (spec_l05Flow_come.come n (List.replicate n (-1), List.replicate n 0, true, 0) 0 0 0).2 = true := by
  have e : rd (List.replicate n (-1)) 0 = -1 := by
    unfold rd
    rw [List.getD_eq_getElem?_getD, List.getElem?_replicate, if_pos (show (0 : Int).toNat < n from h)]
    rfl
  unfold spec_l05Flow_come.come
  rw [if_pos (by unfold spec_l05Flow_come.inr; simp; omega), if_pos (by rw [e]; decide)]
/-- The state that is handed back. -/
def spec_l05Over.Post (nm : ByteArray) (pa sl : Int) (A : Option Addr) (n c : Nat) (w : World) (res : spec_l05Over.T) (e : Ending) (w' : World) : Prop := ∃ g bh bt, e = .returned (.pointer (some ⟨g, 0, none⟩)) ∧ spec_l05Flow_come.At g bh bt nm pa sl A n c n n res.1 res.2.1 res.2.2.1 res.2.2.2 w' ∧ Below w.heap.size w w' ∧ w.heap.size ≤ g ∧ w.heap.size ≤ bh ∧ w.heap.size ≤ bt
set_option maxHeartbeats 16000000 in
set_option maxRecDepth 100000 in
theorem spec_l05Over.go (nm : ByteArray) (pa sl : Int) (A : Option Addr) (n c : Nat) (l : List S61) (w : World) (hl : Kd.C k61 w A n l) (hc : n ≤ c) (h1 : 1 ≤ n) (hn : n ≤ 400) (K : Nat) (res : spec_l05Over.T)
    (h : spec_l05Over.OV l n K [0] (spec_l05Flow_come.come n (List.replicate n (-1), List.replicate n 0, true, 0) 0 0 0).1 = some res) :
    Calls Try.prog 35 #[.agg #[.string nm, .int .i64 pa, .int .i64 sl, .slice A n c]] w fun e w' => spec_l05Over.Post nm pa sl A n c w res e w' := by
  have huF := Try.underlying57
  have huI := Try.underlying61
  have hm := spec_l05Over.mixed
  have hmk := spec_l05Over.make n hn
  have HL := Aside0.mk hl
  have HF := Aside0.mk h
  have hn0 : (0 : Int) < (n : Int) := by omega
  clear hl h
  go_enter Try.func35, Try.ntmps35
  go_upto_region 1 with fail
  go_cut [3] from 14 to 28 (fun s3 wx => ∃ g bh bt : Nat, s3 = .pointer (some ⟨g, 0, none⟩) ∧ w.heap.size < g ∧ w.heap.size < bh ∧ w.heap.size < bt ∧ spec_l05Flow_come.At g bh bt nm pa sl A n c n n (List.replicate n 0) (List.replicate n 0) true 0 wx ∧ Below w.heap.size w wx ∧ wx.heap[w.heap.size]? = some (.cells #[.string nm, .int .i64 pa, .int .i64 sl, .slice A n c] 57 (0, 0)))
  case first =>
    have hn1 : decide (0 < n) = true := decide_eq_true h1
    have hn2 := eq_true (show 0 < n from h1)
    go_region_o
    all_goals go_wp2_with fail
    all_goals go_meet
    all_goals (case rel =>
      first
      | (refine ⟨w.heap.size + 1 + 1 + 1, w.heap.size + 1, w.heap.size + 1 + 1, rfl, by omega, by omega, by omega, ⟨?_, ?_, ?_, by simp, by simp, by omega⟩, by repeat (first | exact Below.refl _ _ | apply below_alloc | apply below_drew), blk_alloc (blk_alloc (blk_alloc (blk_new _ _) _) _) _⟩
         · exact blk_drew (Hd.at_alloc _ _ _ (by simp only [Hd.size_alloc]))
         · exact blk_drew (blk_alloc (blk_alloc (Hd.at_alloc _ _ _ (by simp only [Hd.size_alloc])) _) _)
         · exact blk_drew (blk_alloc (Hd.at_alloc _ _ _ (by simp only [Hd.size_alloc])) _))
      | (refine ⟨w.heap.size + 1 + 1 + 1, w.heap.size + 1 + 1, w.heap.size + 1, rfl, by omega, by omega, by omega, ⟨?_, ?_, ?_, by simp, by simp, by omega⟩, by repeat (first | exact Below.refl _ _ | apply below_alloc | apply below_drew), blk_alloc (blk_alloc (blk_alloc (blk_new _ _) _) _) _⟩
         · exact blk_drew (Hd.at_alloc _ _ _ (by simp only [Hd.size_alloc]))
         · exact blk_drew (blk_alloc (Hd.at_alloc _ _ _ (by simp only [Hd.size_alloc])) _)
         · exact blk_drew (blk_alloc (blk_alloc (Hd.at_alloc _ _ _ (by simp only [Hd.size_alloc])) _) _)))
  case rest =>
    obtain ⟨g, bh, bt, rfl, hg, hbh, hbt, ha, hB, hF⟩ := hcut
    have HG := Aside0.mk (And.intro hg (And.intro hbh hbt))
    have AF0 := Aside0.mk hF
    have AA0 := Aside0.mk (show spec_l05Flow_come.At g bh bt nm pa sl A n c n n (spec_l05Over.part n 0) (List.replicate n 0) true 0 wc by rw [spec_l05Over.part_zero]; exact ha)
    have AB0 := Aside0.mk hB
    clear hg hbh hbt ha hB hF hmk hm
    go_wp2_with fail
    go_loopw [4] (fun i wr => ∃ x : Nat, x ≤ n ∧ i = .int .i64 (x : Int) ∧ Aside0 (spec_l05Flow_come.At g bh bt nm pa sl A n c n n (spec_l05Over.part n x) (List.replicate n 0) true 0 wr) ∧ Aside0 (Below w.heap.size w wr) ∧ Aside0 (wr.heap[w.heap.size]? = some (.cells #[.string nm, .int .i64 pa, .int .i64 sl, .slice A n c] 57 (0, 0)))) (fun i _ => n - (intOf i).toNat)
    case atStart => exact ⟨0, Nat.zero_le _, rfl, AA0, AB0, AF0⟩
    case round =>
      clear AA0 AB0 AF0
      obtain ⟨x, hx, rfl, AA, AB, AF⟩ := hrel
      have z4 := blk_cell AA.out.st 4
      have y3 := blk_cell AF.out 3
      by_cases hlt : x < n
      · have b2 : (x : Int) < (n : Int) := by omega
        have b2' : decide ((x : Int) < (n : Int)) = true := decide_eq_true b2
        have fr := blk_frozen AA.out.rh x
        have yr := spec_l05Flow_come.row_cell AA.out.rh (x : Int) (by rw [AA.out.lh]; omega)
        rw [Int.toNat_natCast] at yr
        have hw : IntKind.i64.wrap ((x : Int) + 1) = ((x + 1 : Nat) : Int) := by rw [IntKind.wrap_i64]; omega
        have hx0 : (0 : Int) ≤ (x : Int) := by omega
        have HX := Aside0.mk hlt
        go_wp2
        go_roundw
        case rel => exact ⟨x + 1, HX.out, by first | rfl | (rw [← hw]; rfl) | (rw [hw]), ⟨by rw [← spec_l05Over.part_set n x HX.out]; exact AA.out.high x (-1)⟩, ⟨AB.out.trans (Below.setCell (Below.refl _ _) (by have := HG.out.2.1; show w.heap.size ≤ bh; omega) _)⟩, ⟨blk_far AF.out (by have := HG.out.2.1; show w.heap.size ≠ bh; omega) _⟩⟩
        case measure => have := HX.out; first | (rw [hw]; simp only [intOf]; omega) | (simp only [intOf]; omega)
      · obtain rfl : n = x := by omega
        have b2' : decide ((n : Int) < (n : Int)) = false := decide_eq_false (by omega)
        rw [spec_l05Over.part_all] at AA
        clear hlt hx
        go_upto_region 6 with fail
        clear z4 y3 b2'
        have hb0 := AB.out
        have OK := Aside0.mk (show ∀ k, wr.heap.size ≤ k → k ≠ g ∧ k ≠ bh ∧ k ≠ bt from fun k hk => by
          have e1 := blk_lt AA.out.st
          have e2 := blk_lt AA.out.rh
          have e3 := blk_lt AA.out.rt
          exact ⟨by omega, by omega, by omega⟩)
        go_upto_region 7 with (refine Kd.R_lit (Kd.int .i64) w.heap.size 3 rfl (N := 42) rfl (xs := ([] : List Int)) (inner := []) (ok := fun k => k ≠ g ∧ k ≠ bh ∧ k ≠ bt) (okp := fun k => k ≠ g ∧ k ≠ bh ∧ k ≠ bt) ?hr ?hp (fun _ hk => hk) (OK.out _ (Nat.le_refl _)) hb0 hb0.size (by simp) ?_; (case hr => first | (go_simp; done) | (go_simp; rfl)); (case hp => exact Reps.none _ _); intro v5 W3 hr5 hb3 hg3 hnew3)
        have AA3 := Aside0.mk (show spec_l05Flow_come.At g bh bt nm pa sl A n c n n (List.replicate n (-1)) (List.replicate n 0) true 0 W3 from ⟨blk_grown AA.out.st hg3 (by simp), blk_grown AA.out.rh hg3 (by simp), blk_grown AA.out.rt hg3 (by simp), AA.out.lh, AA.out.lt, AA.out.ne⟩)
        have AF3 := Aside0.mk (blk_grown AF.out hg3 (by simp))
        have AB3 := Aside0.mk hb3
        have AR3 := Aside0.mk (Kd.Q_of_R hr5)
        clear OK hr5 hb3 hg3 hnew3 hb0 AA AB AF
        have hcall := spec_l05Flow_come.calls g bh bt nm pa sl A n c n n (List.replicate n (-1), List.replicate n 0, true, 0) 0 0 0 W3 AA3.out hn (Nat.le_refl _) (Nat.le_refl _)
        have hfirst := spec_l05Over.first n h1
        obtain ⟨r0, hr0⟩ : ∃ r0, r0 = spec_l05Flow_come.come n (List.replicate n (-1), List.replicate n 0, true, 0) 0 0 0 := ⟨_, rfl⟩
        have hf := HF.out
        rw [← hr0] at hcall hfirst hf
        rw [hfirst] at hcall
        obtain ⟨st0, b0⟩ := r0
        obtain rfl : b0 = true := hfirst
        have HF1 := Aside0.mk hf
        have z6 := blk_cell AA3.out.st 6
        clear HF hf hr0
        go_upto_if 50 with (go_at_call 59; (with_reducible refine hcall.mono ?_); rintro e W4 ⟨rfl, ha4, hm4⟩; have AA4 := Aside0.mk ha4; have AM4 := Aside0.mk hm4; clear ha4 hm4)
        have HS := Aside0.mk (show ∀ k, (k = g ∨ k = bh ∨ k = bt) → w.heap.size ≤ k from fun k hk => by
          have := HG.out
          rcases hk with rfl | rfl | rfl <;> omega)
        have AB4 := Aside0.mk (spec_l05Flow_come.Mv.below AB3.out AM4.out AB3.out.size HS.out)
        have AF4 := Aside0.mk ((AM4.out.block _ (blk_lt AF3.out) (fun hk => by
          have := HG.out
          rcases hk with hk | hk | hk <;> omega)).trans AF3.out)
        have AR4 := Aside0.mk (Kd.Q_step AR3.out (fun k ho hk => AM4.out.block k hk (fun hs => by rcases hs with rfl | rfl | rfl; exact ho.1 rfl; exact ho.2.1 rfl; exact ho.2.2 rfl)))
        have OK := Aside0.mk (show ∀ k, W4.heap.size ≤ k → k ≠ g ∧ k ≠ bh ∧ k ≠ bt from fun k hk => by
          have e1 := blk_lt AA4.out.st
          have e2 := blk_lt AA4.out.rh
          have e3 := blk_lt AA4.out.rt
          exact ⟨by omega, by omega, by omega⟩)
        clear AA3 AM4 AB3 AF3 AR3 z6 hcall
        go_upto_region 9 with (at_builtin; refine Kd.Q_append (Kd.int .i64) (w0 := w) w.heap.size rfl (.tmp 51) (.tmp 52) 37 3 (.int .i64 0) 8 rfl Try.underlying37 (by kernel_rfl) rfl (by decide) (by decide) v5 [] 0 [.int .i64 0] (fun k => k ≠ g ∧ k ≠ bh ∧ k ≠ bt) (fun _ => False) rfl rfl rfl (fun _ hk => hk.elim) OK.out AR4.out AB4.out AB4.out.size (by decide) ?_; intro v7 W7 hr7 hb7 hg7 hat7)
        have AA7 := Aside0.mk (show spec_l05Flow_come.At g bh bt nm pa sl A n c n n st0.1 st0.2.1 st0.2.2.1 st0.2.2.2 W7 from ⟨blk_grown AA4.out.st hg7 (fun e => (AR4.out.1 g e.symm).1 rfl), blk_grown AA4.out.rh hg7 (fun e => (AR4.out.1 bh e.symm).2.1 rfl), blk_grown AA4.out.rt hg7 (fun e => (AR4.out.1 bt e.symm).2.2 rfl), AA4.out.lh, AA4.out.lt, AA4.out.ne⟩)
        have AF7 := Aside0.mk (blk_grown AF4.out hg7 (spec_l05Over.ne_own AR4.out AF4.out (by decide)))
        have AB7 := Aside0.mk hb7
        have AR7 := Aside0.mk hr7
        clear AA4 AF4 AB4 AR4 OK hr7 hb7 hg7 hat7
        go_loopg [5] K (fun q v5 wr => ∃ (todo : List Int) (st : spec_l05Over.T), Aside0 (spec_l05Over.OV l n q todo st = some res) ∧ Aside0 (spec_l05Flow_come.At g bh bt nm pa sl A n c n n st.1 st.2.1 st.2.2.1 st.2.2.2 wr) ∧ Aside0 (Kd.Q (Kd.int .i64) 3 wr w.heap.size (fun k => k ≠ g ∧ k ≠ bh ∧ k ≠ bt) v5 todo) ∧ Aside0 (Below w.heap.size w wr) ∧ Aside0 (wr.heap[w.heap.size]? = some (.cells #[.string nm, .int .i64 pa, .int .i64 sl, .slice A n c] 57 (0, 0))))
        case atStart => exact ⟨[0], st0, HF1, AA7, AR7, AB7, AF7⟩
        case round =>
          clear AA7 AR7 AB7 AF7 HF1
          obtain ⟨todo, st, AV, AA, AR, AB, AF⟩ := hrel
          cases gk with
          | zero => exact absurd AV.out (by simp [spec_l05Over.OV])
          | succ q =>
            have z6 := blk_cell AA.out.st 6
            cases todo with
            | nil =>
              obtain rfl : st = res := Option.some.inj AV.out
              obtain ⟨A5, c5, rfl, hc5⟩ := Kd.Q_slice AR.out
              go_wp2
              go_ret
              have := HG.out
              exact ⟨g, bh, bt, rfl, AA.out, AB.out, by omega, by omega, by omega⟩
            | cons k rest =>
              obtain ⟨g5, o5, c5, rfl, hg5, hlt5, cells5, hcells5⟩ := Kd.Q_form AR.out (by simp)
              have hck : wr.cell? ⟨g5, o5, none⟩ = some (.int .i64 k) := (Kd.Q_cell 0 AR.out 0 (by omega) (by simp)).1
              obtain ⟨m, hm⟩ : ∃ m, rest.length = m := ⟨_, rfl⟩
              have hlen : (k :: rest).length = m + 1 := by rw [← hm]; rfl
              rw [hlen] at AR ⊢
              have hpos1 : (0 : Int) < ((m + 1 : Nat) : Int) := by omega
              have hpos2 : decide ((0 : Int) < ((m + 1 : Nat) : Int)) = true := decide_eq_true hpos1
              clear hcells5
              have hv := AV.out
              rw [spec_l05Over.OV] at hv
              cases hok : st.2.2.1 with
              | false =>
                rw [hok, if_neg (by decide)] at hv
                obtain rfl : st = res := Option.some.inj hv
                have z6' : wr.cell? ⟨g, 6, none⟩ = some (.bool false) := by rw [z6, hok]; rfl
                clear z6 hv
                go_wp2
                go_ret
                have := HG.out
                exact ⟨g, bh, bt, rfl, AA.out, AB.out, by omega, by omega, by omega⟩
              | true =>
                rw [hok, if_pos rfl] at hv
                have z6' : wr.cell? ⟨g, 6, none⟩ = some (.bool true) := by rw [z6, hok]; rfl
                by_cases hk : 0 ≤ k ∧ k < (n : Int) ∧ rest.length ≤ 100000
                case neg => rw [if_neg hk] at hv; cases hv
                case pos =>
                  rw [if_pos hk] at hv
                  obtain ⟨⟨off, on⟩, hgr, hv⟩ := Option.bind_eq_some_iff.1 hv
                  have HV := Aside0.mk hv
                  have HGR := Aside0.mk hgr
                  clear z6 hv hgr
                  go_upto_region 12 with fail
                  have AR1 := Aside0.mk (show Kd.Q (Kd.int .i64) 3 wr w.heap.size (fun k => k ≠ g ∧ k ≠ bh ∧ k ≠ bt) (.slice (if c5 = 1 then some ⟨g5, o5, none⟩ else some ⟨g5, o5 + 1, none⟩) m (c5 - 1)) rest from Kd.Q_drop (k := 1) AR.out (by simp))
                  obtain ⟨v5', hv5'⟩ : ∃ v, v = Value.slice (if c5 = 1 then some ⟨g5, o5, none⟩ else some ⟨g5, o5 + 1, none⟩) m (c5 - 1) := ⟨_, rfl⟩
                  rw [← hv5'] at AR1 ⊢
                  clear hv5' AR hck hpos1 hpos2 hlen z6' hm hg5 hlt5
                  have hk0 := hk.1
                  have hk1 := hk.2.1
                  have hk2 := hk.2.2
                  have y3 := blk_cell AF.out 3
                  obtain ⟨aL, rfl, x0, x1, x2, x3, x4, x5, x6⟩ := at_T61 (Kd.C_below HL.out AB.out) k hk0 hk1
                  have hkc : k.toNat < c := by omega
                  obtain ⟨i, hi⟩ : ∃ i, i = rd_T61 l k := ⟨_, rfl⟩
                  rw [← hi] at x0 x1 x2 x3 x4 x5 x6
                  have HI := Aside0.mk hi
                  clear hi hk
                  have hk0' := eq_true hk0
                  have hk1' := eq_true hk1
                  go_upto_region 13 with fail
                  obtain ⟨g7, hg7⟩ : ∃ g7, wr.heap.size = g7 := ⟨_, rfl⟩
                  obtain ⟨WB, hWB⟩ : ∃ WB, wr.alloc (Obj.cells #[.int .i64 i.f0, .int .i64 i.f1, .int .i64 i.f2, .string i.f3, .int .i64 i.f4.f0, .int .i64 i.f4.f1, .string i.f4.f2] 61) = WB := ⟨_, rfl⟩
                  have hbB : Below wr.heap.size wr WB := by rw [← hWB]; exact below_alloc (Below.refl _ _) _
                  have BI := Aside0.mk (show WB.heap[wr.heap.size]? = some (.cells #[.int .i64 i.f0, .int .i64 i.f1, .int .i64 i.f2, .string i.f3, .int .i64 i.f4.f0, .int .i64 i.f4.f1, .string i.f4.f2] 61 (0, 0)) by rw [← hWB]; exact heap_alloc_new wr _)
                  rw [hg7] at BI
                  rw [hWB, hg7]
                  have AA1 := Aside0.mk (AA.out.below hbB)
                  have AF1 := Aside0.mk (blk_below AF.out hbB)
                  have AB1 := Aside0.mk (AB.out.trans (hbB.mono AB.out.size))
                  have AR2 := Aside0.mk (Kd.Q_below AR1.out hbB)
                  clear hWB hg7 hbB AA AF AB AR1 x0 x1 x2 x3 x4 x5 x6 y3 hkc
                  have x0 := blk_cell BI.out 0
                  have x1 := blk_cell BI.out 1
                  have x2 := blk_cell BI.out 2
                  have x3 := blk_cell BI.out 3
                  have x4 := blk_cell BI.out 4
                  have x5 := blk_cell BI.out 5
                  have x6 := blk_cell BI.out 6
                  go_upto_region 14 with (go_at_call 60; (with_reducible refine (spec_l05Grow.calls 64 _ _ _ _ _ _ _ off on _ (by have h3 := HGR.out; rw [← HI.out] at h3; exact h3)).mono ?_); rintro e W8 ⟨rfl, hb8⟩; have HB8 := Aside0.mk hb8; clear hb8)
                  have AA := Aside0.mk (AA1.out.below HB8.out)
                  have AF := Aside0.mk (blk_below AF1.out HB8.out)
                  have AB := Aside0.mk (AB1.out.trans (HB8.out.mono AB1.out.size))
                  have AR := Aside0.mk (Kd.Q_below AR2.out HB8.out)
                  have BI8 := Aside0.mk (blk_below BI.out HB8.out)
                  clear AA1 AF1 AB1 AR2 BI HB8 x0 x1 x2 x3 x4 x5 x6
                  have z4 := blk_cell AA.out.st 4
                  have z5 := blk_cell AA.out.st 5
                  have z6 := blk_cell AA.out.st 6
                  have z7 := blk_cell AA.out.st 7
                  have f6 := blk_frozen AA.out.st 6
                  have f7 := blk_frozen AA.out.st 7
                  have hkn : k.toNat < n := by omega
                  have yh := spec_l05Flow_come.row_cell AA.out.rh k (by rw [AA.out.lh]; exact hkn)
                  have yt := spec_l05Flow_come.row_cell AA.out.rt k (by rw [AA.out.lt]; exact hkn)
                  obtain ⟨h, hh⟩ : ∃ h, wrap64 (rd st.1 k - off) = h := ⟨_, rfl⟩
                  have he : IntKind.i64.wrap (rd st.1 k - off) = h := by rw [← hh, IntKind.wrap_i64]; unfold wrap64; omega
                  have hv := HV.out
                  simp only [hh] at hv
                  clear HV
                  by_cases hneg : h < 0
                  · rw [if_pos hneg] at hv
                    obtain rfl := Option.some.inj hv
                    clear hv
                    go_wp2
                    go_ret
                    have := HG.out
                    exact ⟨g, bh, bt, rfl, AA.out.fail, AB.out.trans (Below.setCell (Below.refl _ _) (by show w.heap.size ≤ g; omega) _), by omega, by omega, by omega⟩
                  · rw [if_neg hneg] at hv
                    have HV := Aside0.mk hv
                    clear hv
                    have hmx : ∀ x y : Int, (if x < y then y else x) = max x y := fun x y => by rw [Int.max_def]; split <;> split <;> omega
                    go_upto_region 19 with fail
                    clear hmx
                    obtain ⟨st1, hst1⟩ : ∃ st1 : spec_l05Over.T, st1 = (st.1, st.2.1, true, max st.2.2.2 (wrap64 (h + on))) := ⟨_, rfl⟩
                    obtain ⟨W9, hW9⟩ : ∃ W9, W8.setCell ⟨g, 7, none⟩ (.int .i64 (max st.2.2.2 (wrap64 (h + on)))) = W9 := ⟨_, rfl⟩
                    have AA2 := Aside0.mk (show spec_l05Flow_come.At g bh bt nm pa sl (some aL) n c n n st1.1 st1.2.1 st1.2.2.1 st1.2.2.2 W9 by rw [hst1, ← hW9]; have h3 := AA.out.max (max st.2.2.2 (wrap64 (h + on))); rw [hok] at h3; exact h3)
                    have hgw : w.heap.size ≤ g := by have := HG.out; omega
                    have hgf : w.heap.size ≠ g := by have := HG.out; omega
                    have AF2 := Aside0.mk (show W9.heap[w.heap.size]? = some (.cells #[.string nm, .int .i64 pa, .int .i64 sl, .slice (some aL) n c] 57 (0, 0)) by rw [← hW9]; exact blk_far AF.out hgf _)
                    have AB2 := Aside0.mk (show Below w.heap.size w W9 by rw [← hW9]; exact AB.out.trans (Below.setCell (Below.refl _ _) hgw _))
                    have AR3 := Aside0.mk (show Kd.Q (Kd.int .i64) 3 W9 w.heap.size (fun k => k ≠ g ∧ k ≠ bh ∧ k ≠ bt) v5' rest by rw [← hW9]; exact Kd.Q_far AR.out (fun k hk => hk.1) _)
                    have BI9 := Aside0.mk (show W9.heap[g7]? = some (.cells #[.int .i64 i.f0, .int .i64 i.f1, .int .i64 i.f2, .string i.f3, .int .i64 i.f4.f0, .int .i64 i.f4.f1, .string i.f4.f2] 61 (0, 0)) by rw [← hW9]; exact blk_far BI8.out (blk_ne BI8.out AA.out.st (by decide)) _)
                    have hv := HV.out
                    rw [← hst1] at hv
                    rw [hW9]
                    have HV := Aside0.mk hv
                    clear hW9 AA AF AB AR BI8 hv hst1 z4 z5 z6 z7 f6 f7 yh yt hgw hgf he
                    have x0 := blk_cell BI9.out 0
                    have x1 := blk_cell BI9.out 1
                    go_upto_region 20 with fail
                    obtain ⟨WC, hWC⟩ : ∃ WC, W9.alloc (Obj.cells #[] 3) = WC := ⟨_, rfl⟩
                    have hbC : Below W9.heap.size W9 WC := by rw [← hWC]; exact below_alloc (Below.refl _ _) _
                    rw [hWC]
                    have AA := Aside0.mk (AA2.out.below hbC)
                    have AF := Aside0.mk (blk_below AF2.out hbC)
                    have AB := Aside0.mk (AB2.out.trans (hbC.mono AB2.out.size))
                    have AR := Aside0.mk (Kd.Q_below AR3.out hbC)
                    have BI := Aside0.mk (blk_below BI9.out hbC)
                    clear hWC hbC AA2 AF2 AB2 AR3 BI9 x0 x1
                    have x0 := blk_cell BI.out 0
                    go_cut [112] from 111 to 111 (fun s wx => s = .int .i64 i.f0 ∧ wx = WC)
                    case first =>
                      go_wp2_with fail
                      go_meet
                      case rel => exact ⟨rfl, rfl⟩
                    case rest =>
                      obtain ⟨rfl, rfl⟩ := hcut
                      clear x0
                      go_step
                      obtain ⟨gn, hgn⟩ : ∃ gn, wc.heap.size = gn := ⟨_, rfl⟩
                      have N1 := Aside0.mk (show gn ≠ g ∧ gn ≠ bh ∧ gn ≠ bt from by
                        have e1 := blk_lt AA.out.st
                        have e2 := blk_lt AA.out.rh
                        have e3 := blk_lt AA.out.rt
                        exact ⟨by omega, by omega, by omega⟩)
                      have N2 := Aside0.mk (show some gn ≠ v5'.ownBlock from fun e => by
                        obtain ⟨_, inner, ho, _⟩ := AR.out
                        obtain ⟨_, cells, hcs⟩ := q_typed ho gn e.symm
                        have := blk_lt hcs
                        omega)
                      have x0 := blk_cell BI.out 0
                      have x1 := blk_cell BI.out 1
                      have HWS : ∀ ws, spec_l05Over.ways i.f0 i.f1 k h on (rd st.2.1 k) = some ws → Aside0 (spec_l05Over.OV l n q (spec_l05Over.comes n ws (st1, rest)).2 (spec_l05Over.comes n ws (st1, rest)).1 = some res) := fun ws e => ⟨by
                        have h3 := HV.out
                        rw [← HI.out, e] at h3
                        exact h3⟩
                      have HW0 : spec_l05Over.ways i.f0 i.f1 k h on (rd st.2.1 k) = none → Aside0 (spec_l05Over.OV l n q rest st1 = some res) := fun e => ⟨by
                        have h3 := HV.out
                        rw [← HI.out, e] at h3
                        exact h3⟩
                      have HKW := Aside0.mk (show wrap64 (k + 1) = k + 1 by unfold wrap64; omega)
                      clear HV
                      go_cut [12] from 63 to 174 (fun s12 wx => ∃ (ws : List (Int × Int × Int)) (L : Nat), s12 = .slice (some ⟨gn, 0, none⟩) L L ∧ Aside0 (L = 3 * ws.length) ∧ Aside0 (spec_l05Over.ways i.f0 i.f1 k h on (rd st.2.1 k) = some ws) ∧ Aside0 (wx.heap[gn]? = some (.cells (spec_l05Flow_come.iv (spec_l05Over.flat ws)).toArray 3 (0, 0))) ∧ Aside0 (spec_l05Flow_come.At g bh bt nm pa sl (some aL) n c n n st1.1 st1.2.1 st1.2.2.1 st1.2.2.2 wx) ∧ Aside0 (wx.heap[w.heap.size]? = some (.cells #[.string nm, .int .i64 pa, .int .i64 sl, .slice (some aL) n c] 57 (0, 0))) ∧ Aside0 (Below w.heap.size w wx) ∧ Aside0 (Kd.Q (Kd.int .i64) 3 wx w.heap.size (fun k => k ≠ g ∧ k ≠ bh ∧ k ≠ bt) v5' rest))
                      case first =>
                        have FIN : ∀ (ws : List (Int × Int × Int)) (o : Array Value), o = (spec_l05Flow_come.iv (spec_l05Over.flat ws)).toArray → spec_l05Over.ways i.f0 i.f1 k h on (rd st.2.1 k) = some ws → Hid (Aside0 (spec_l05Over.ways i.f0 i.f1 k h on (rd st.2.1 k) = some ws) ∧ Aside0 ((wc.alloc (.cells o 3)).heap[gn]? = some (.cells (spec_l05Flow_come.iv (spec_l05Over.flat ws)).toArray 3 (0, 0))) ∧ Aside0 (spec_l05Flow_come.At g bh bt nm pa sl (some aL) n c n n st1.1 st1.2.1 st1.2.2.1 st1.2.2.2 (wc.alloc (.cells o 3))) ∧ Aside0 ((wc.alloc (.cells o 3)).heap[w.heap.size]? = some (.cells #[.string nm, .int .i64 pa, .int .i64 sl, .slice (some aL) n c] 57 (0, 0))) ∧ Aside0 (Below w.heap.size w (wc.alloc (.cells o 3))) ∧ Aside0 (Kd.Q (Kd.int .i64) 3 (wc.alloc (.cells o 3)) w.heap.size (fun k => k ≠ g ∧ k ≠ bh ∧ k ≠ bt) v5' rest)) := fun ws o e1 e2 =>
                          have hal : Below wc.heap.size wc (wc.alloc (.cells o 3)) := below_alloc (Below.refl _ _) _
                          Lib.hid ⟨⟨e2⟩, ⟨by rw [← e1, ← hgn]; exact heap_alloc_new wc _⟩, ⟨AA.out.below hal⟩, ⟨blk_below AF.out hal⟩, ⟨AB.out.trans (hal.mono AB.out.size)⟩, ⟨Kd.Q_below AR.out hal⟩⟩
                        by_cases o12 : i.f0 = 12 ∨ i.f0 = 13
                        · have hw0 := HW0 (by unfold spec_l05Over.ways; rw [if_pos o12])
                          clear FIN HWS HW0
                          rcases o12 with o12 | o12
                          · go_wp2_with fail
                            go_roundg q
                            case measure => exact Nat.lt_succ_self q
                            case rel => exact ⟨rest, st1, hw0, AA, AR, AB, AF⟩
                          · go_wp2_with fail
                            go_roundg q
                            case measure => exact Nat.lt_succ_self q
                            case rel => exact ⟨rest, st1, hw0, AA, AR, AB, AF⟩
                        · clear HW0
                          have n12 : ¬ i.f0 = 12 := fun e => o12 (.inl e)
                          have n13 : ¬ i.f0 = 13 := fun e => o12 (.inr e)
                          have b12 : (i.f0 == 12) = false := beq_eq_false_iff_ne.mpr n12
                          have b13 : (i.f0 == 13) = false := beq_eq_false_iff_ne.mpr n13
                          by_cases o6 : i.f0 = 6
                          · have hw : spec_l05Over.ways i.f0 i.f1 k h on (rd st.2.1 k) = some [(i.f1, h, rd st.2.1 k)] := by unfold spec_l05Over.ways; rw [if_neg o12, if_pos o6]
                            clear HWS
                            go_wp2_with fail
                            go_meet
                            case rel => refine ⟨_, _, rfl, ⟨?_⟩, (FIN _ _ ?_ hw).out⟩; rfl; first | rfl | (rw [HKW.out]; rfl)
                          have n6 := o6
                          have b6 : (i.f0 == 6) = false := beq_eq_false_iff_ne.mpr n6
                          by_cases o7 : i.f0 = 7
                          · have hw : spec_l05Over.ways i.f0 i.f1 k h on (rd st.2.1 k) = some [(wrap64 (k + 1), h, rd st.2.1 k), (i.f1, h, rd st.2.1 k)] := by unfold spec_l05Over.ways; rw [if_neg o12, if_neg n6, if_pos o7]
                            clear HWS
                            go_wp2_with fail
                            go_meet
                            case rel => refine ⟨_, _, rfl, ⟨?_⟩, (FIN _ _ ?_ hw).out⟩; rfl; first | rfl | (rw [HKW.out]; rfl)
                          have n7 := o7
                          have b7 : (i.f0 == 7) = false := beq_eq_false_iff_ne.mpr n7
                          by_cases o8 : i.f0 = 8
                          · have hw : spec_l05Over.ways i.f0 i.f1 k h on (rd st.2.1 k) = some [(wrap64 (k + 1), h, rd st.2.1 k), (i.f1, wrap64 (h + 1), rd st.2.1 k)] := by unfold spec_l05Over.ways; rw [if_neg o12, if_neg n6, if_neg n7, if_pos (Or.inl o8)]
                            clear HWS
                            go_wp2_with fail
                            go_meet
                            case rel => refine ⟨_, _, rfl, ⟨?_⟩, (FIN _ _ ?_ hw).out⟩; rfl; first | rfl | (rw [HKW.out]; rfl)
                          have n8 := o8
                          have b8 : (i.f0 == 8) = false := beq_eq_false_iff_ne.mpr n8
                          by_cases o9 : i.f0 = 9
                          · have hw : spec_l05Over.ways i.f0 i.f1 k h on (rd st.2.1 k) = some [(wrap64 (k + 1), h, rd st.2.1 k), (i.f1, wrap64 (h + 1), rd st.2.1 k)] := by unfold spec_l05Over.ways; rw [if_neg o12, if_neg n6, if_neg n7, if_pos (Or.inr o9)]
                            clear HWS
                            go_wp2_with fail
                            go_meet
                            case rel => refine ⟨_, _, rfl, ⟨?_⟩, (FIN _ _ ?_ hw).out⟩; rfl; first | rfl | (rw [HKW.out]; rfl)
                          have n9 := o9
                          have b9 : (i.f0 == 9) = false := beq_eq_false_iff_ne.mpr n9
                          by_cases o14 : i.f0 = 14
                          · have hw : spec_l05Over.ways i.f0 i.f1 k h on (rd st.2.1 k) = some [(wrap64 (k + 1), h, wrap64 (rd st.2.1 k + 1)), (i.f1, wrap64 (h + 1), rd st.2.1 k)] := by unfold spec_l05Over.ways; rw [if_neg o12, if_neg n6, if_neg n7, if_neg (by rintro (e | e); exact n8 e; exact n9 e), if_pos o14]
                            clear HWS
                            go_wp2_with fail
                            go_meet
                            case rel => refine ⟨_, _, rfl, ⟨?_⟩, (FIN _ _ ?_ hw).out⟩; rfl; first | rfl | (rw [HKW.out]; rfl)
                          have n14 := o14
                          have b14 : (i.f0 == 14) = false := beq_eq_false_iff_ne.mpr n14
                          by_cases o15 : i.f0 = 15
                          · have hw : spec_l05Over.ways i.f0 i.f1 k h on (rd st.2.1 k) = some [(wrap64 (k + 1), h, wrap64 (rd st.2.1 k - 1))] := by unfold spec_l05Over.ways; rw [if_neg o12, if_neg n6, if_neg n7, if_neg (by rintro (e | e); exact n8 e; exact n9 e), if_neg n14, if_pos o15]
                            clear HWS
                            go_wp2_with fail
                            go_meet
                            case rel => refine ⟨_, _, rfl, ⟨?_⟩, (FIN _ _ ?_ hw).out⟩; rfl; first | rfl | (rw [HKW.out]; rfl)
                          have n15 := o15
                          have b15 : (i.f0 == 15) = false := beq_eq_false_iff_ne.mpr n15
                          have hw : spec_l05Over.ways i.f0 i.f1 k h on (rd st.2.1 k) = some [(wrap64 (k + 1), wrap64 (h + on), rd st.2.1 k)] := by unfold spec_l05Over.ways; rw [if_neg o12, if_neg n6, if_neg n7, if_neg (by rintro (e | e); exact n8 e; exact n9 e), if_neg n14, if_neg n15]
                          clear HWS
                          go_wp2_with fail
                          go_meet
                          case rel => refine ⟨_, _, rfl, ⟨?_⟩, (FIN _ _ ?_ hw).out⟩; rfl; first | rfl | (rw [HKW.out]; rfl)
                      case rest =>
                        clear AA AF AB AR BI HW0 HKW x0 x1
                        obtain ⟨ws, L, rfl, HL3, HWY, HN, AA, AF, AB, AR⟩ := hcut
                        have HE := HWS ws HWY.out
                        have HW2 := Aside0.mk (spec_l05Over.ways_len HWY.out)
                        clear HWS HWY
                        go_wp2_with fail
                        go_loopw [5, 13] (fun v5 v13 wx => ∃ (y x : Nat) (st' : spec_l05Over.T) (todo' : List Int), v13 = .int .i64 (y : Int) ∧ Aside0 (y = 3 * x ∧ x ≤ ws.length) ∧ Aside0 (spec_l05Over.comes n (ws.drop x) (st', todo') = spec_l05Over.comes n ws (st1, rest)) ∧ Aside0 (todo'.length ≤ rest.length + x) ∧ Aside0 (some gn ≠ v5.ownBlock) ∧ Aside0 (wx.heap[gn]? = some (.cells (spec_l05Flow_come.iv (spec_l05Over.flat ws)).toArray 3 (0, 0))) ∧ Aside0 (spec_l05Flow_come.At g bh bt nm pa sl (some aL) n c n n st'.1 st'.2.1 st'.2.2.1 st'.2.2.2 wx) ∧ Aside0 (wx.heap[w.heap.size]? = some (.cells #[.string nm, .int .i64 pa, .int .i64 sl, .slice (some aL) n c] 57 (0, 0))) ∧ Aside0 (Below w.heap.size w wx) ∧ Aside0 (Kd.Q (Kd.int .i64) 3 wx w.heap.size (fun k => k ≠ g ∧ k ≠ bh ∧ k ≠ bt) v5 todo')) (fun _ i _ => L - (intOf i).toNat)
                        case atStart => exact ⟨0, 0, st1, rest, rfl, ⟨rfl, Nat.zero_le _⟩, ⟨rfl⟩, ⟨Nat.le_refl _⟩, N2, HN, AA, AF, AB, AR⟩
                        case round =>
                          clear N2 HN AA AF AB AR
                          obtain ⟨y, x, st', todo', rfl, EX, EC, EL, N2, HN, AA, AF, AB, AR⟩ := hrel
                          have hy1 := EX.out.1
                          have hy2 := EX.out.2
                          have hl3 := HL3.out
                          have hw2 := HW2.out
                          by_cases hlt : x < ws.length
                          · obtain ⟨p, hp⟩ : ∃ p, ws[x]? = some p := ⟨_, List.getElem?_eq_getElem hlt⟩
                            obtain ⟨q0, q1, q2⟩ := spec_l05Over.flat_at ws x p hp
                            rw [← hy1] at q0 q1 q2
                            have c0 := spec_l05Over.cell_at HN.out y _ q0
                            have c1 := spec_l05Over.cell_at HN.out (y + 1) _ q1
                            have c2 := spec_l05Over.cell_at HN.out (y + 2) _ q2
                            have b0 : y < L := by omega
                            have b1 : y + 1 < L := by omega
                            have b2 : y + 2 < L := by omega
                            have b3 : (y : Int) < (L : Int) := by omega
                            have b4 : decide ((y : Int) < (L : Int)) = true := decide_eq_true b3
                            have b5 : decide (y < L) = true := decide_eq_true b0
                            have e1 : IntKind.i64.wrap ((y : Int) + 1) = (y : Int) + 1 := by rw [IntKind.wrap_i64]; omega
                            have m1 := eq_true (show (y : Int) + 1 < (L : Int) by omega)
                            have n1 := eq_true (show 0 ≤ (y : Int) + 1 by omega)
                            have t1 : ((y : Int) + 1).toNat = y + 1 := by omega
                            have r1 : (y + 1 < L) = True := eq_true b1
                            have e2 : IntKind.i64.wrap ((y : Int) + 2) = (y : Int) + 2 := by rw [IntKind.wrap_i64]; omega
                            have m2 := eq_true (show (y : Int) + 2 < (L : Int) by omega)
                            have n2 := eq_true (show 0 ≤ (y : Int) + 2 by omega)
                            have t2 : ((y : Int) + 2).toNat = y + 2 := by omega
                            have r2 : (y + 2 < L) = True := eq_true b2
                            have e3 : IntKind.i64.wrap ((y : Int) + 3) = ((y + 3 : Nat) : Int) := by rw [IntKind.wrap_i64]; omega
                            have HLT := Aside0.mk hlt
                            have HP := Aside0.mk hp
                            have HY := Aside0.mk (And.intro hy1 (And.intro hl3 hw2))
                            clear hlt hp q0 q1 q2 hy1 hy2 hl3 hw2
                            go_upto_region 38 with fail
                            have AAd := Aside0.mk (AA.out.below (below_drew (Below.refl _ _)))
                            have hcall := spec_l05Flow_come.calls g bh bt nm pa sl (some aL) n c n n st' p.1 p.2.1 p.2.2 _ AAd.out hn (Nat.le_refl _) (Nat.le_refl _)
                            obtain ⟨r, hr⟩ : ∃ r, r = spec_l05Flow_come.come n st' p.1 p.2.1 p.2.2 := ⟨_, rfl⟩
                            rw [← hr] at hcall
                            have HR := Aside0.mk hr
                            clear hr
                            refine wp_region_still_tail 15 spec_l05Over.mixed (by kernel_rfl) ?_
                            simp only [List.take_succ_cons, List.take_zero, List.drop_succ_cons, List.drop_zero]
                            repeat with_reducible still_step
                            (with_reducible refine wpStill_nil ?_)
                            change wpList _ _ _ _ _ wr.drew
                            go_upto_if 196 with (go_at_call 59; (with_reducible refine hcall.mono ?_); rintro e W6 ⟨rfl, ha6, hm6⟩; have AA6 := Aside0.mk ha6; have AM6 := Aside0.mk hm6; clear ha6 hm6)
                            have hSn : ∀ j, (j ≠ g ∧ j ≠ bh ∧ j ≠ bt) → ¬ (j = g ∨ j = bh ∨ j = bt) := fun j h1 h2 => by rcases h2 with rfl | rfl | rfl; exact h1.1 rfl; exact h1.2.1 rfl; exact h1.2.2 rfl
                            have hFS : ¬ (w.heap.size = g ∨ w.heap.size = bh ∨ w.heap.size = bt) := fun hk => by
                              have := HG.out
                              rcases hk with hk | hk | hk <;> omega
                            have hbd : Below wr.heap.size wr wr.drew := below_drew (Below.refl _ _)
                            have AF6 := Aside0.mk ((AM6.out.block _ (blk_lt (blk_drew AF.out)) hFS).trans AF.out)
                            have AB6 := Aside0.mk (spec_l05Flow_come.Mv.below (below_drew AB.out) AM6.out (below_drew AB.out).size HS.out)
                            have AR6 := Aside0.mk (Kd.Q_step (Kd.Q_below AR.out hbd) (fun j ho hj => AM6.out.block j hj (hSn j ho)))
                            have HN6 := Aside0.mk ((AM6.out.block _ (blk_lt (blk_drew HN.out)) (hSn _ N1.out)).trans HN.out)
                            clear hSn hFS hbd AM6 AAd AA AF AB AR HN hcall c1 c2 m1 n1 t1 r1 m2 n2 t2 r2 e1 e2 b1 b2
                            have c0 := spec_l05Over.cell_at HN6.out y _ (by
                              obtain ⟨q0, _, _⟩ := spec_l05Over.flat_at ws x p HP.out
                              rw [← HY.out.1] at q0
                              exact q0)
                            have hcd := spec_l05Over.comes_drop HP.out (n := n) (st', todo')
                            have hec := EC.out
                            simp only at hcd
                            rw [← HR.out] at hcd
                            rw [hcd] at hec
                            clear hcd EC HR
                            obtain ⟨r1, rb⟩ := r
                            cases rb with
                            | false =>
                              have EC' := Aside0.mk (show spec_l05Over.comes n (ws.drop (x + 1)) (r1, todo') = spec_l05Over.comes n ws (st1, rest) from hec)
                              clear hec
                              go_wp2
                              go_roundw
                              case rel => exact ⟨y + 3, x + 1, r1, todo', rfl, ⟨by have := HY.out.1; omega, HLT.out⟩, EC', ⟨by have := EL.out; omega⟩, N2, HN6, AA6, AF6, AB6, AR6⟩
                              case measure => have := HY.out; have := HLT.out; simp only [intOf]; omega
                            | true =>
                              have EC' := Aside0.mk (show spec_l05Over.comes n (ws.drop (x + 1)) (r1, todo' ++ [p.1]) = spec_l05Over.comes n ws (st1, rest) from hec)
                              have HAL := Aside0.mk (show (todo'.length + 1) * 8 ≤ 140737488355328 by have := EL.out; have := HY.out; have := HLT.out; omega)
                              have OK := Aside0.mk (show ∀ j, W6.heap.size ≤ j → j ≠ g ∧ j ≠ bh ∧ j ≠ bt from fun j hj => by
                                have e1 := blk_lt AA6.out.st
                                have e2 := blk_lt AA6.out.rh
                                have e3 := blk_lt AA6.out.rt
                                exact ⟨by omega, by omega, by omega⟩)
                              clear hec
                              go_wp2_with (at_builtin; refine Kd.Q_append (Kd.int .i64) (w0 := w) w.heap.size rfl (.tmp 197) (.tmp 202) 37 3 (.int .i64 0) 8 rfl Try.underlying37 (by kernel_rfl) rfl (by decide) (by decide) u5 todo' p.1 [.int .i64 p.1] (fun k => k ≠ g ∧ k ≠ bh ∧ k ≠ bt) (fun _ => False) rfl rfl rfl (fun _ hk => hk.elim) OK.out AR6.out AB6.out AB6.out.size HAL.out ?_; intro v7 W7 hr7 hb7 hg7 hat7)
                              go_roundw
                              case rel =>
                                refine ⟨y + 3, x + 1, r1, todo' ++ [p.1], rfl, ⟨by have := HY.out.1; omega, HLT.out⟩, EC', ⟨by rw [List.length_append, List.length_singleton]; have := EL.out; omega⟩, ⟨?_⟩, ⟨blk_grown HN6.out hg7 N2.out⟩, ⟨⟨blk_grown AA6.out.st hg7 (fun e => (AR6.out.1 g e.symm).1 rfl), blk_grown AA6.out.rh hg7 (fun e => (AR6.out.1 bh e.symm).2.1 rfl), blk_grown AA6.out.rt hg7 (fun e => (AR6.out.1 bt e.symm).2.2 rfl), AA6.out.lh, AA6.out.lt, AA6.out.ne⟩⟩, ⟨blk_grown AF6.out hg7 (spec_l05Over.ne_own AR6.out AF6.out (by decide))⟩, ⟨hb7⟩, ⟨hr7⟩⟩
                                rcases hat7 with e | ⟨b, e, hb⟩
                                · rw [e]; exact N2.out
                                · rw [e]
                                  intro e2
                                  injection e2 with e2
                                  have := blk_lt HN6.out
                                  omega
                              case measure => have := HY.out; have := HLT.out; simp only [intOf]; omega
                          · obtain rfl : ws.length = x := by omega
                            have b2 : decide ((y : Int) < (L : Int)) = false := decide_eq_false (by omega)
                            have b3 : decide (y < L) = false := decide_eq_false (by omega)
                            have b4 : ¬ (y : Int) < (L : Int) := by omega
                            clear hy1 hy2 hl3 hw2
                            go_wp2
                            go_roundg q
                            case measure => exact Nat.lt_succ_self q
                            case rel =>
                              have e := EC.out
                              rw [List.drop_length] at e
                              have e2 := HE.out
                              rw [← e] at e2
                              exact ⟨todo', st', ⟨e2⟩, AA, AR, AB, AF⟩

end Go.Proofs.Ytlhbcgmmgofcgaa.QFnExactProgramOK
