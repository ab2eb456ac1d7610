/- Functions that the law uses, as Lean functions with the same answers, and the walks that show it: by this session's program, after the form of the kit's print. No condition. -/
import Derived.Test.YtlhbcgmmgofcgaaQFnExactProgramOKx0
import Derived.Test.YtlhbcgmmgofcgaaQFnExactProgramOKx8
import Derived.Test.YtlhbcgmmgofcgaaQFnExactProgramOKx10
import Derived.Test.YtlhbcgmmgofcgaaQFnExactProgramOKx11
import Derived.Test.YtlhbcgmmgofcgaaQFnExactProgramOKx12
namespace Go.Proofs.Ytlhbcgmmgofcgaa.QFnExactProgramOK
open Go.RowKit Go.Proofs.YtlhbcgmmgofcgaaW.PrintWords Go.Proofs.YtlhbcgmmgofcgaaW.PrintLast Go.Proofs.YtlhbcgmmgofcgaaW.PrintMore
attribute [local go_sem] max2_int min2_int max_two min_two max_three min_three max_four min_four   -- for this text's walks alone
open Go.Proofs.Ytlhbcgmmgofcgaa
attribute [local go_sem high] My.binOp_gtr_flip
set_option linter.unusedVariables false
set_option linter.unusedSimpArgs false

/-! ### impl_Program_flows: function 37 -/
theorem impl_Program_flows.mixed : Try.prog.follows Departure.mixedOrders = true := by kernel_rfl
def impl_Program_flows.ident (t : ByteArray) : Bool := (impl_identOK.f 64 t).getD false
/-- Is an instruction of a function right. -/
def impl_Program_flows.okI (ps : List S57) (fn : S57) (i : S61) : Bool := (impl_Program_insOK.f ps fn.f2 fn.f3.length i).getD false
/-- The ways on. -/
def impl_Program_flows.on (fn : S57) (k : Nat) (s : Int × Int) : List S80 × Bool := (impl_Ins_onward.f 64 (rd_T61 fn.f3 k).f0 (rd_T61 fn.f3 k).f1 (rd_T61 fn.f3 k).f2 (rd_T61 fn.f3 k).f3 (rd_T61 fn.f3 k).f4.f0 (rd_T61 fn.f3 k).f4.f1 (rd_T61 fn.f3 k).f4.f2 k s.1 s.2).getD ([], false)
/-- Are all functions' counts of parameters in bounds. -/
def impl_Program_flows.Tame (ps : List S57) : Prop := ∀ fn ∈ ps, 0 ≤ fn.f1 ∧ fn.f1 ≤ 4
def impl_Program_flows.named (k : Nat) (fn : S57) : Bool := if k = 0 then fn.f0.toList == ([] : List UInt8) && fn.f1 == 1 else impl_Program_flows.ident fn.f0
def impl_Program_flows.head (k : Nat) (fn : S57) : Bool := impl_Program_flows.named k fn && ((decide (0 ≤ fn.f1) && decide (fn.f1 ≤ 4)) && ((decide (fn.f1 ≤ fn.f2) && decide (fn.f2 ≤ 20)) && (decide (1 ≤ (fn.f3.length : Int)) && decide ((fn.f3.length : Int) ≤ 400))))
def impl_Program_flows.body (ps : List S57) (fn : S57) : Bool := fn.f3.all (impl_Program_flows.okI ps fn)
def impl_Program_flows.Flows (fn : S57) : Prop := Fl.Okay (impl_Func_flow.nx fn.f3.length (impl_Program_flows.on fn)) (0, 0)
/-- A right program. -/
def impl_Program_flows.Good (ps : List S57) : Prop := (1 ≤ ps.length ∧ ps.length ≤ 9) ∧ ∀ k (h : k < ps.length), impl_Program_flows.head k ps[k] = true ∧ impl_Program_flows.body ps ps[k] = true ∧ impl_Program_flows.Flows ps[k]
/-- What the functions used within tell of all there is. -/
structure impl_Program_flows.All (ps : List S57) : Prop where
  names : ∀ fn ∈ ps, impl_identOK.f 64 fn.f0 = some (impl_Program_flows.ident fn.f0)
  ins : ∀ fn ∈ ps, ∀ i, impl_Program_insOK.f ps fn.f2 fn.f3.length i = some (impl_Program_flows.okI ps fn i)
  ways : ∀ fn ∈ ps, impl_Program_flows.body ps fn = true → ∀ (k : Int) (s : S75), 0 ≤ k → k < fn.f3.length → s.f0 ≤ 200 → 0 ≤ s.f1 → s.f1 ≤ 20 → impl_Ins_onward.f 64 (rd_T61 fn.f3 k).f0 (rd_T61 fn.f3 k).f1 (rd_T61 fn.f3 k).f2 (rd_T61 fn.f3 k).f3 (rd_T61 fn.f3 k).f4.f0 (rd_T61 fn.f3 k).f4.f1 (rd_T61 fn.f3 k).f4.f2 k s.f0 s.f1 = some (impl_Program_flows.on fn k.toNat (s.f0, s.f1)) ∧ (impl_Program_flows.on fn k.toNat (s.f0, s.f1)).1.length ≤ 2 ∧ ∀ y ∈ (impl_Program_flows.on fn k.toNat (s.f0, s.f1)).1, 0 ≤ y.f0 ∧ (0 ≤ y.f1.f0 ∨ ((impl_Program_flows.on fn k.toNat (s.f0, s.f1)).1.length ≤ 1 ∧ y.f0 = k + 1 ∧ ¬ impl_Program_flows.Tame ps)) ∧ 0 ≤ y.f1.f1
/-- How the stack stands at each instruction of a function: its label, or -1 where nothing comes. -/
def impl_Program_flows.Row (fn : S57) (row : List S75) : Prop := row.length = fn.f3.length ∧ (∀ k s, impl_Func_flow.st row k = some s ↔ Fl.R (impl_Func_flow.nx fn.f3.length (impl_Program_flows.on fn)) (0, 0) k s) ∧ ∀ s ∈ row, s.f0 < 0 → s = ⟨-1, 0⟩
/-- Between rounds. -/
structure impl_Program_flows.Inv (ps : List S57) (w1 : World) (k : Nat) (v4 : Value) (rows : List (List S75)) (W : World) : Prop where
  r : Kd.R (Kd.slice 75 k75) 71 W w1.heap.size (fun _ => True) v4 rows
  b : Below w1.heap.size w1 W
  n : rows.length = k
  h : ∀ j (hj : j < ps.length), j < k → impl_Program_flows.head j ps[j] = true ∧ impl_Program_flows.body ps ps[j] = true
  o : impl_Program_flows.Tame ps → ∀ j (hj : j < ps.length) (hj' : j < rows.length), impl_Program_flows.Flows ps[j] ∧ impl_Program_flows.Row ps[j] rows[j]
theorem impl_Program_flows.Inv.below {ps : List S57} {w1 : World} {k : Nat} {v4 : Value} {rows : List (List S75)} {W W' : World} (h : impl_Program_flows.Inv ps w1 k v4 rows W) (hb : Below W.heap.size W W') : impl_Program_flows.Inv ps w1 k v4 rows W' :=
  ⟨Kd.R_below h.r hb, h.b.trans (hb.mono h.b.size), h.n, h.h, h.o⟩
theorem impl_Program_flows.head_bounds {k : Nat} {fn : S57} (h : impl_Program_flows.head k fn = true) : 0 ≤ fn.f1 ∧ fn.f1 ≤ 4 ∧ fn.f1 ≤ fn.f2 ∧ fn.f2 ≤ 20 ∧ 1 ≤ fn.f3.length ∧ fn.f3.length ≤ 400 := by
  unfold impl_Program_flows.head at h
  simp only [Bool.and_eq_true, decide_eq_true_eq] at h
  omega
theorem impl_Program_flows.good_tame {ps : List S57} (h : ∀ k (h : k < ps.length), impl_Program_flows.head k ps[k] = true) : impl_Program_flows.Tame ps := fun fn hf => by
  obtain ⟨k, hk, rfl⟩ := List.getElem_of_mem hf
  have := impl_Program_flows.head_bounds (h k hk)
  exact ⟨this.1, this.2.1⟩
theorem impl_Program_flows.elem {α : Type} {d : Kd α} {e base : Nat} {ok : Nat → Prop} {w : World} {v : Value} {xs : List α} (h : d.R e w base ok v xs) : (Kd.slice e d).M w base ok xs [v] :=
  show (∃ v', [v] = [v'] ∧ d.R e w base ok v' xs) from ⟨v, rfl, h⟩
set_option maxRecDepth 100000 in
theorem impl_Program_flows.within (a b c : Int) (w : World) : Calls Try.prog 62 #[.int .i64 a, .int .i64 b, .int .i64 c] w fun e w' => e = .returned (.bool (decide (b ≤ a) && decide (a ≤ c))) ∧ w' = w := impl_Program_insOK.within a b c w
theorem impl_Program_flows.rd_is (ps : List S57) (k : Nat) (h : k < ps.length) : rd_T57 ps (k : Int) = ps[k] := by
  unfold rd_T57
  rw [Int.toNat_natCast, List.getD_eq_getElem?_getD, List.getElem?_eq_getElem h]
  rfl
set_option maxHeartbeats 16000000 in
set_option maxRecDepth 100000 in
theorem impl_Program_flows.go (ps : List S57) (A : Option Addr) (c gp : Nat) (w : World) (hp : w.cell? ⟨gp, 0, none⟩ = some (.slice A ps.length c)) (hps : Kd.C k57 w A ps.length ps) (hpc : ps.length ≤ c) (ha : impl_Program_flows.All ps) :
    Calls Try.prog 37 #[.pointer (some ⟨gp, 0, none⟩)] w fun e w' => Below w.heap.size w w' ∧
      ((∃ v rows, e = .returned (.tuple #[v, .bool true]) ∧ Kd.R (Kd.slice 75 k75) 71 w' w.heap.size (fun _ => True) v rows ∧ rows.length = ps.length ∧ impl_Program_flows.Good ps ∧ ∀ k (h : k < ps.length) (h' : k < rows.length), impl_Program_flows.Row ps[k] rows[k]) ∨
       (e = .returned (.tuple #[.slice none 0 0, .bool false]) ∧ ¬ impl_Program_flows.Good ps)) := by
  have hu55 := Try.underlying55
  have HPS := Aside0.mk (And.intro hps hpc)
  have HA := Aside0.mk ha
  have HP := Aside0.mk hp
  clear hps hpc ha hp
  have hin0 := fun w => impl_Program_flows.within (ps.length : Int) 1 9 w
  go_enter Try.func37, Try.ntmps37
  go_upto_region 1 with fail
  obtain ⟨bp, hbp⟩ : ∃ bp, w.heap.size = bp := ⟨_, rfl⟩
  generalize hw1 : World.alloc w _ = w1
  have b1 : Below w.heap.size w w1 := by rw [← hw1]; exact below_alloc (Below.refl _ _) _
  have cb : w1.cell? ⟨w.heap.size, 0, none⟩ = some (.pointer (some ⟨gp, 0, none⟩)) := by rw [← hw1]; exact blk_cell (heap_alloc_new w _) 0
  have cp := pw_cell_below b1 HP.out
  have HP1 := Aside0.mk (show w1.cell? ⟨gp, 0, none⟩ = some (.slice A ps.length c) from cp)
  have HPS1 := Aside0.mk (Kd.C_below HPS.out.1 b1)
  have HPC := Aside0.mk HPS.out.2
  have HB1 := Aside0.mk b1
  rw [hbp] at cb ⊢
  have HCB := Aside0.mk cb
  clear hw1 b1 HP HPS hbp
  by_cases hlen : 1 ≤ ps.length ∧ ps.length ≤ 9
  case neg =>
    have hc := hin0 w1
    rw [show (decide ((1 : Int) ≤ (ps.length : Int)) && decide ((ps.length : Int) ≤ 9)) = false by rw [← Bool.decide_and]; exact decide_eq_false (by omega)] at hc
    have HN := Aside0.mk hlen
    clear hlen hin0
    go_wp2_with (go_at_call 62; (with_reducible refine hc.mono ?_); rintro e_ w' ⟨rfl, hw'⟩; obtain rfl := hw'.symm)
    go_ret2
    exact ⟨HB1.out, .inr ⟨rfl, fun h => HN.out h.1⟩⟩
  case pos =>
    have hc := hin0 w1
    rw [show (decide ((1 : Int) ≤ (ps.length : Int)) && decide ((ps.length : Int) ≤ 9)) = true by rw [← Bool.decide_and]; exact decide_eq_true (by omega)] at hc
    have HN := Aside0.mk hlen
    clear hlen hin0
    go_upto_region 3 with (go_at_call 62; (with_reducible refine hc.mono ?_); rintro e_ w' ⟨rfl, hw'⟩; obtain rfl := hw'.symm)
    have hbr := Below.refl w1.heap.size w1
    go_upto_region 4 with (refine Kd.R_lit (Kd.slice 75 k75) w1.heap.size 71 rfl (N := 17) rfl (xs := []) (inner := []) (ok := fun _ => True) (okp := fun _ => True) ?hr ?hp (fun _ hk => hk) trivial hbr (Nat.le_refl _) (by simp) ?_; (case hr => first | (go_simp; done) | (go_simp; rfl)); (case hp => exact Reps.none _ _); intro v4 W3 hr4 hb3 hg3 hnew3)
    have I0 := Aside0.mk (show impl_Program_flows.Inv ps w1 0 v4 [] W3 from ⟨hr4, hb3, rfl, fun j _ h => absurd h (Nat.not_lt_zero _), fun _ j _ h => absurd h (Nat.not_lt_zero _)⟩)
    have cb3 := pw_cell_below hb3 HCB.out
    have cp3 := pw_cell_below hb3 HP1.out
    clear hr4 hb3 hg3 hnew3 cb cp hbr hc
    go_wp2_with fail
    go_loopw [4, 23] (fun v4 i wr => ∃ (k : Nat) (rows : List (List S75)), i = .int .i64 (k : Int) ∧ Aside0 (k ≤ ps.length) ∧ Aside0 (impl_Program_flows.Inv ps w1 k v4 rows wr)) (fun _ i _ => ps.length - (intOf i).toNat)
    case atStart => exact ⟨0, [], rfl, ⟨Nat.zero_le _⟩, I0⟩
    case round =>
      clear I0 cb3 cp3
      obtain ⟨k, rows, rfl, HK, HI⟩ := hrel
      have cb := pw_cell_below HI.out.b HCB.out
      have cp := pw_cell_below HI.out.b HP1.out
      have hk := HK.out
      by_cases hlt : k < ps.length
      · have q0 : (k : Int) < (ps.length : Int) := by omega
        have q1 : decide ((k : Int) < (ps.length : Int)) = true := decide_eq_true q0
        have q2 : (0 : Int) ≤ (k : Int) := by omega
        have hkc : k < c := Nat.lt_of_lt_of_le hlt HPC.out
        obtain ⟨ad, A3, c3, rfl, z0, z1, z2, z3, z3c, z3r⟩ := at_T57 (Kd.C_below HPS1.out HI.out.b) (k : Int) q2 q0
        rw [impl_Program_flows.rd_is ps k hlt, Int.toNat_natCast] at z0 z1 z2 z3
        rw [impl_Program_flows.rd_is ps k hlt] at z3c z3r
        obtain ⟨fn, hfn⟩ : ∃ fn, fn = ps[k] := ⟨_, rfl⟩
        rw [← hfn] at z0 z1 z2 z3 z3c z3r
        have HFN := Aside0.mk hfn
        have HM := Aside0.mk (show fn ∈ ps by rw [hfn]; exact List.getElem_mem hlt)
        have HLT := Aside0.mk hlt
        clear hfn hk
        go_upto_region 8 with fail
        obtain ⟨⟨fb, fo, fs⟩, hfa⟩ : ∃ fa, ad.add (k * 4) = fa := ⟨_, rfl⟩
        rw [hfa] at z0 z1 z2 z3 ⊢
        obtain ⟨bf, hbf⟩ : ∃ bf, wr.heap.size = bf := ⟨_, rfl⟩
        generalize hW2 : World.alloc wr _ = W2
        have b2 : Below wr.heap.size wr W2 := by rw [← hW2]; exact below_alloc (Below.refl _ _) _
        have cf : W2.cell? ⟨wr.heap.size, 0, none⟩ = some (.pointer (some ⟨fb, fo, fs⟩)) := by rw [← hW2]; exact blk_cell (heap_alloc_new wr _) 0
        have AI := Aside0.mk (HI.out.below b2)
        have AR := Aside0.mk (And.intro z3c (Kd.C_below z3r b2))
        have y0 := pw_cell_below b2 z0
        have y1 := pw_cell_below b2 z1
        have y2 := pw_cell_below b2 z2
        have y3 := pw_cell_below b2 z3
        rw [hbf] at cf ⊢
        have AY := Aside0.mk (And.intro y0 (And.intro y1 (And.intro y2 (And.intro y3 cf))))
        have HGD : impl_Program_flows.Good ps → impl_Program_flows.head k fn = true ∧ impl_Program_flows.body ps fn = true ∧ impl_Program_flows.Flows fn := fun h => by rw [HFN.out]; exact h.2 k HLT.out
        have HGT : impl_Program_flows.Good ps → impl_Program_flows.Tame ps := fun h => impl_Program_flows.good_tame (fun j hj => (h.2 j hj).1)
        clear hW2 b2 z0 z1 z2 z3 z3c z3r hfa hbf cb cp HI
        obtain ⟨nm, hnm⟩ : ∃ nm, nm = impl_Program_flows.named k fn := ⟨_, rfl⟩
        have HNM := Aside0.mk hnm
        clear hnm
        go_cut [7] from 32 to 58 (fun s wx => s = .bool nm ∧ Aside0 (Below W2.heap.size W2 wx))
        case first =>
          have e := HNM.out
          unfold impl_Program_flows.named at e
          clear HGD HGT HFN HPS1 HP1 HCB AI AR AY
          by_cases k0 : k = 0
          · rw [if_pos k0] at e
            have d0 : ((k : Int) == 0) = true := beq_iff_eq.mpr (by omega)
            have d1 : decide ((0 : Int) < (k : Int)) = false := decide_eq_false (by omega)
            have d2 : decide (0 < k) = false := decide_eq_false (by omega)
            have d3 : ((k : Int) = 0) = True := eq_true (by omega)
            have d4 : (0 < k) = False := eq_false (by omega)
            clear k0 HK HLT
            cases te : (fn.f0.toList == ([] : List UInt8)) with
            | false =>
              rw [te] at e
              obtain rfl : nm = false := e
              go_wp2_with fail
              go_meet
              exact ⟨rfl, ⟨Below.refl _ _⟩⟩
            | true =>
              rw [te, Bool.true_and] at e
              cases pe : (fn.f1 == 1) with
              | false =>
                rw [pe] at e
                obtain rfl : nm = false := e
                go_wp2_with fail
                go_meet
                exact ⟨rfl, ⟨Below.refl _ _⟩⟩
              | true =>
                rw [pe] at e
                obtain rfl : nm = true := e
                go_wp2_with fail
                go_meet
                exact ⟨rfl, ⟨Below.refl _ _⟩⟩
          · rw [if_neg k0] at e
            have d0 : ((k : Int) == 0) = false := beq_eq_false_iff_ne.mpr (by omega)
            have d1 : decide ((0 : Int) < (k : Int)) = true := decide_eq_true (by omega)
            have d2 : decide (0 < k) = true := decide_eq_true (by omega)
            have d3 : ((k : Int) = 0) = False := eq_false (by omega)
            have d4 : (0 < k) = True := eq_true (by omega)
            have hc := fun w => impl_identOK.calls 64 fn.f0 (impl_Program_flows.ident fn.f0) w (HA.out.names fn HM.out)
            rw [← e] at hc
            clear k0 HK HLT e
            go_wp2_with (go_at_call 63; (with_reducible refine (hc _).mono ?_); rintro e_ w' ⟨rfl, hb⟩; have HB7 := Aside0.mk hb; clear hb)
            go_meet
            exact ⟨rfl, HB7⟩
        case rest =>
          obtain ⟨rfl, HC⟩ := hcut
          obtain ⟨y0, y1, y2, y3, cf⟩ := AY.out
          have AI2 := Aside0.mk (AI.out.below HC.out)
          have AR2 := Aside0.mk (And.intro AR.out.1 (Kd.C_below AR.out.2 HC.out))
          replace y0 := pw_cell_below HC.out y0
          replace y1 := pw_cell_below HC.out y1
          replace y2 := pw_cell_below HC.out y2
          replace y3 := pw_cell_below HC.out y3
          replace cf := pw_cell_below HC.out cf
          have AY2 := Aside0.mk (And.intro y0 (And.intro y1 (And.intro y2 (And.intro y3 cf))))
          clear HC AI AR AY
          obtain ⟨hd, hhd⟩ : ∃ hd, hd = impl_Program_flows.head k fn := ⟨_, rfl⟩
          have HHD := Aside0.mk hhd
          clear hhd
          go_upto_region 9 with fail
          go_cut [89] from 59 to 88 (fun s wx => s = .bool (!hd) ∧ wx = wc.drew)
          case first =>
            have e := HHD.out
            unfold impl_Program_flows.head at e
            rw [← HNM.out] at e
            have h1 := impl_Program_flows.within fn.f1 0 4 wc.drew
            have h2 := impl_Program_flows.within fn.f2 fn.f1 20 wc.drew
            have h3 := impl_Program_flows.within (fn.f3.length : Int) 1 400 wc.drew
            clear HGD HGT HFN HPS1 HP1 HCB AI2 AR2 AY2 HNM HHD HM HLT HK
            obtain ⟨p1, hp1⟩ : ∃ p1, p1 = (decide (0 ≤ fn.f1) && decide (fn.f1 ≤ 4)) := ⟨_, rfl⟩
            obtain ⟨p2, hp2⟩ : ∃ p2, p2 = (decide (fn.f1 ≤ fn.f2) && decide (fn.f2 ≤ 20)) := ⟨_, rfl⟩
            obtain ⟨p3, hp3⟩ : ∃ p3, p3 = (decide (1 ≤ (fn.f3.length : Int)) && decide ((fn.f3.length : Int) ≤ 400)) := ⟨_, rfl⟩
            rw [← hp1] at h1
            rw [← hp2] at h2
            rw [← hp3] at h3
            rw [← hp1, ← hp2, ← hp3] at e
            clear hp1 hp2 hp3
            cases nm with
            | false =>
              obtain rfl : hd = false := e
              refine wp_region_still_lit impl_Program_flows.mixed (by kernel_rfl) ?_
              repeat with_reducible still_step
              (with_reducible refine wpStill_nil ?_)
              go_wp2_with fail
              go_meet
              exact ⟨rfl, rfl⟩
            | true =>
              cases p1 with
              | false =>
                obtain rfl : hd = false := e
                refine wp_region_still_lit impl_Program_flows.mixed (by kernel_rfl) ?_
                repeat with_reducible still_step
                still_call h1
                repeat with_reducible still_step
                (with_reducible refine wpStill_nil ?_)
                go_wp2_with fail
                go_meet
                exact ⟨rfl, rfl⟩
              | true =>
                cases p2 with
                | false =>
                  obtain rfl : hd = false := e
                  refine wp_region_still_lit impl_Program_flows.mixed (by kernel_rfl) ?_
                  repeat with_reducible still_step
                  still_call h1
                  repeat with_reducible still_step
                  still_call h2
                  repeat with_reducible still_step
                  (with_reducible refine wpStill_nil ?_)
                  go_wp2_with fail
                  go_meet
                  exact ⟨rfl, rfl⟩
                | true =>
                  obtain rfl : hd = p3 := e
                  refine wp_region_still_lit impl_Program_flows.mixed (by kernel_rfl) ?_
                  repeat with_reducible still_step
                  still_call h1
                  repeat with_reducible still_step
                  still_call h2
                  repeat with_reducible still_step
                  still_call h3
                  repeat with_reducible still_step
                  (with_reducible refine wpStill_nil ?_)
                  go_wp2_with fail
                  go_meet
                  exact ⟨rfl, rfl⟩
          case rest =>
            obtain ⟨rfl, rfl⟩ := hcut
            have AI3 := Aside0.mk (AI2.out.below (below_drew (Below.refl _ _)))
            have AR3 := Aside0.mk (And.intro AR2.out.1 (Kd.C_below AR2.out.2 (below_drew (Below.refl _ _))))
            have AY3 := Aside0.mk AY2.out
            cases hd with
            | false =>
              have HHF := Aside0.mk (show ¬ impl_Program_flows.Good ps from fun h => by
                have h2 := (HGD h).1
                rw [← HHD.out] at h2
                cases h2)
              clear HGD HGT
              go_wp2
              go_ret2
              have hb := (AI3.out.b.mono (Nat.le_refl _))
              exact ⟨HB1.out.trans (AI3.out.b.mono HB1.out.size), .inr ⟨rfl, HHF.out⟩⟩
            | true =>
              have hh := impl_Program_flows.head_bounds HHD.out.symm
              obtain ⟨y0, y1, y2, y3, cf⟩ := AY3.out
              have y2' : wc.drew.cell? ⟨fb, fo + 2, none⟩ = some (.int .i64 fn.f2) := y2
              have y3' : wc.drew.cell? ⟨fb, fo + 3, none⟩ = some (.slice A3 fn.f3.length c3) := y3
              have cf' : wc.drew.cell? ⟨bf, 0, none⟩ = some (.pointer (some ⟨fb, fo, fs⟩)) := cf
              have cb' : wc.drew.cell? ⟨bp, 0, none⟩ = some (.pointer (some ⟨gp, 0, none⟩)) := pw_cell_below AI3.out.b HCB.out
              have cp' : wc.drew.cell? ⟨gp, 0, none⟩ = some (.slice (some ad) ps.length c) := pw_cell_below AI3.out.b HP1.out
              have hcont := impl_Ins_64.go (fun x => !(impl_Program_flows.okI ps fn x)) 65 (.pointer (some ⟨bp, 0, none⟩)) (.pointer (some ⟨bf, 0, none⟩)) A3 c3 fn.f3 wc.drew AR3.out.2 AR3.out.1 (by omega)
                (fun x W hW => (impl_Program_flows_1.go ps (some ad) c bp bf gp fb fo fs fn.f2 A3 fn.f3.length c3 x (impl_Program_flows.okI ps fn x) W (pw_cell_below hW cb') (pw_cell_below hW cf') (pw_cell_below hW cp') (Kd.C_below (Kd.C_below HPS1.out AI3.out.b) hW) HPC.out (pw_cell_below hW y2') (pw_cell_below hW y3') HN.out.2 hh.2.2.2.2.2 (by omega) hh.2.2.2.1 (HA.out.ins fn HM.out x)).mono fun e w' h => ⟨h.1, below_step hW h.2⟩)
                (enters_of Try.func65 (by kernel_rfl) rfl)
              rw [show fn.f3.any (fun x => !(impl_Program_flows.okI ps fn x)) = !(impl_Program_flows.body ps fn) by unfold impl_Program_flows.body; rw [List.not_all_eq_any_not]] at hcont
              obtain ⟨bd, hbd⟩ : ∃ bd, bd = impl_Program_flows.body ps fn := ⟨_, rfl⟩
              rw [← hbd] at hcont
              have HBD := Aside0.mk hbd
              have HH := Aside0.mk hh
              have HYS := Aside0.mk (And.intro y2' (And.intro y3' (And.intro cf' cb')))
              clear hbd hh y0 y1 y2 y2' y3' cb' cp' AY2 AY3 AI2 AR2
              cases bd with
              | false =>
                have HHF := Aside0.mk (show ¬ impl_Program_flows.Good ps from fun h => by
                  have h2 := (HGD h).2.1
                  rw [← HBD.out] at h2
                  cases h2)
                clear HGD HGT
                go_wp2_with (go_at_call 64; (with_reducible refine hcont.mono ?_); rintro e_ w' ⟨rfl, hb⟩; have HB7 := Aside0.mk hb; clear hb)
                go_ret2
                exact ⟨HB1.out.trans ((AI3.out.b.trans (HB7.out.mono AI3.out.b.size)).mono HB1.out.size), .inr ⟨rfl, HHF.out⟩⟩
              | true =>
                go_upto_region 13 with (go_at_call 64; (with_reducible refine hcont.mono ?_); rintro e_ W5 ⟨rfl, hb⟩; have HB7 := Aside0.mk hb; clear hb)
                have AI5 := Aside0.mk (AI3.out.below HB7.out)
                have y3 := pw_cell_below HB7.out HYS.out.2.1
                have cf := pw_cell_below HB7.out HYS.out.2.2.1
                have hflow := impl_Func_flow.calls (impl_Program_flows.Tame ps) 64 ⟨fb, fo, fs⟩ A3 c3 fn.f3 (impl_Program_flows.on fn) W5 y3 (Kd.C_below AR3.out.2 HB7.out) AR3.out.1 HH.out.2.2.2.2.1 HH.out.2.2.2.2.2 (HA.out.ways fn HM.out HBD.out.symm)
                clear hcont HYS AI3 AR3 HB7
                go_cut [8, 9] from 96 to 100 (fun s8 s9 wx => ∃ b, s9 = .bool b ∧ Aside0 (Below W5.heap.size W5 wx) ∧ Aside0 (b = true → ∃ out, Kd.R k75 75 wx W5.heap.size (fun _ => True) s8 out ∧ (impl_Program_flows.Tame ps → impl_Program_flows.Flows fn ∧ impl_Program_flows.Row fn out)) ∧ Aside0 (b = false → impl_Program_flows.Tame ps → ¬ impl_Program_flows.Flows fn))
                case first =>
                  go_wp2_with (go_at_call 67; (with_reducible refine hflow.mono ?_); rintro e_ w' ⟨hb, (⟨v, out, rfl, hR, hlo, hO, hRR, hng⟩ | ⟨rfl, hno⟩)⟩)
                  · go_wp2_with fail
                    go_meet
                    exact ⟨true, rfl, ⟨hb⟩, ⟨fun _ => ⟨out, hR, fun ht => ⟨hO ht, hlo, hRR ht, hng ht⟩⟩⟩, ⟨fun h => by cases h⟩⟩
                  · go_wp2_with fail
                    go_meet
                    exact ⟨false, rfl, ⟨hb⟩, ⟨fun h => by cases h⟩, ⟨fun _ => hno⟩⟩
                case rest =>
                  obtain ⟨b, rfl, HB8, HT8, HF8⟩ := hcut
                  cases b with
                  | false =>
                    have HHF := Aside0.mk (show ¬ impl_Program_flows.Good ps from fun h => HF8.out rfl (HGT h) (HGD h).2.2)
                    clear HGD HGT HT8 HF8 hflow y3 cf
                    go_wp2
                    go_ret2
                    exact ⟨HB1.out.trans ((AI5.out.b.trans (HB8.out.mono AI5.out.b.size)).mono HB1.out.size), .inr ⟨rfl, HHF.out⟩⟩
                  | true =>
                    obtain ⟨out, hR, hT⟩ := HT8.out rfl
                    obtain ⟨A8, c8, rfl⟩ := Kd.R_slice hR
                    have AI8 := Aside0.mk (AI5.out.below HB8.out)
                    have hlt5 : ∀ j, u4.ownBlock = some j → j < W5.heap.size := Kd.R_lt AI5.out.r
                    have HR := Aside0.mk (show Kd.R k75 75 wc w1.heap.size (fun j => some j ≠ u4.ownBlock) (.slice A8 out.length c8) out from Kd.R_lower (Kd.R_mono (Kd.R_bound hR) (fun j hj e => by
                      have := hlt5 j e.symm
                      have := hj.2.1
                      omega)) AI5.out.b.size)
                    have HTT := Aside0.mk hT
                    have HAL := Aside0.mk (show (rows.length + 1) * 24 ≤ 140737488355328 by have := AI5.out.n; have := HN.out.2; have := HLT.out; omega)
                    have HW3 := Aside0.mk (show wrap64 ((k : Int) + 1) = ((k + 1 : Nat) : Int) by have := HN.out.2; have := HLT.out; unfold wrap64; omega)
                    have hh2 := HHD.out.symm
                    have hb2 := HBD.out.symm
                    rw [HFN.out] at hh2 hb2
                    have HKK := Aside0.mk (And.intro hh2 hb2)
                    have HTT2 := Aside0.mk (show impl_Program_flows.Tame ps → impl_Program_flows.Flows ps[k] ∧ impl_Program_flows.Row ps[k] out by rw [← HFN.out]; exact hT)
                    clear HT8 HF8 hflow y3 cf hR hT hlt5 hh2 hb2 AI5 HB8 HGD HGT HTT
                    go_wp2_with (at_builtin; refine Kd.R_append (Kd.slice 75 k75) (w0 := w1) w1.heap.size rfl (.tmp 103) (.tmp 105) 67 71 (.slice none 0 0) 24 rfl Try.underlying67 (by kernel_rfl) rfl (by decide) (by decide) u4 rows out [.slice A8 out.length c8] (fun _ => True) (fun j => some j ≠ u4.ownBlock) rfl rfl (impl_Program_flows.elem HR.out) (fun j hj => ⟨trivial, hj⟩) (fun _ _ => trivial) AI8.out.r AI8.out.b AI8.out.b.size HAL.out ?_; intro v7 W7 hr7 hb7 hg7 hat7)
                    go_roundw
                    case rel =>
                      refine ⟨k + 1, rows ++ [out], by first | rfl | exact congrArg (Value.int .i64) HW3.out, ⟨HLT.out⟩, ⟨⟨hr7, hb7, by rw [List.length_append, List.length_singleton, AI8.out.n], fun j hj hjk => ?_, fun ht j hj hjr => ?_⟩⟩⟩
                      · by_cases hjk2 : j < k
                        · exact AI8.out.h j hj hjk2
                        · obtain rfl : j = k := by omega
                          exact HKK.out
                      · by_cases hjk2 : j < rows.length
                        · rw [List.getElem_append_left hjk2]
                          exact AI8.out.o ht j hj hjk2
                        · have hjk3 : j = k := by
                            have := AI8.out.n
                            rw [List.length_append, List.length_singleton] at hjr
                            omega
                          subst hjk3
                          rw [List.getElem_append_right (by omega)]
                          simp only [AI8.out.n, Nat.sub_self, List.getElem_cons_zero]
                          exact HTT2.out ht
                    case measure =>
                      have := HLT.out
                      first
                        | (simp only [intOf]; omega)
                        | (rw [HW3.out]; simp only [intOf]; omega)
                        | (simp only [intOf, HW3.out]; omega)
      · obtain rfl : k = ps.length := by omega
        have q1 : decide ((ps.length : Int) < (ps.length : Int)) = false := decide_eq_false (by omega)
        have q2 : decide (ps.length < ps.length) = false := decide_eq_false (by omega)
        have hhd : ∀ j (hj : j < ps.length), impl_Program_flows.head j ps[j] = true ∧ impl_Program_flows.body ps ps[j] = true := fun j hj => HI.out.h j hj hj
        have hT := impl_Program_flows.good_tame (fun j hj => (hhd j hj).1)
        have hG : impl_Program_flows.Good ps := ⟨HN.out, fun j hj => ⟨(hhd j hj).1, (hhd j hj).2, (HI.out.o hT j hj (by rw [HI.out.n]; exact hj)).1⟩⟩
        have HG := Aside0.mk hG
        have HTM := Aside0.mk hT
        clear hk hlt hhd hT hG
        go_wp2
        go_ret2
        exact ⟨HB1.out.trans (HI.out.b.mono HB1.out.size), .inl ⟨_, rows, rfl, Kd.R_lower HI.out.r HB1.out.size, HI.out.n, HG.out, fun j hj hj' => (HI.out.o HTM.out j hj hj').2⟩⟩

/-! ### impl_ProgramOK: function 12 -/
noncomputable def impl_ProgramOK.f (l0_0 : List S57) : Option Bool := @ite _ (impl_Program_flows.All l0_0) (Classical.propDecidable _) (some (@decide (impl_Program_flows.Good l0_0) (Classical.propDecidable _))) none
theorem impl_ProgramOK.f_is (l : List S57) (r : Bool) (h : impl_ProgramOK.f l = some r) : impl_Program_flows.All l ∧ (r = true ↔ impl_Program_flows.Good l) := by
  unfold impl_ProgramOK.f at h
  by_cases ha : impl_Program_flows.All l
  · rw [if_pos ha] at h
    refine ⟨ha, ?_⟩
    rw [← Option.some.inj h]
    exact @decide_eq_true_iff _ (Classical.propDecidable _)
  · rw [if_neg ha] at h
    cases h
set_option maxHeartbeats 2000000 in
set_option maxRecDepth 100000 in
theorem impl_ProgramOK.calls (A0_0 : Option Addr) (c0_0 : Nat) (l0_0 : List S57) (r : Bool) (w : World) (hr0_0 : Kd.C k57 w A0_0 l0_0.length l0_0) (hc0_0 : l0_0.length ≤ c0_0) (h : impl_ProgramOK.f l0_0 = some r) :
    Calls Try.prog 12 #[.agg #[.slice A0_0 l0_0.length c0_0]] w fun e w' => e = .returned (.bool r) ∧ Below w.heap.size w w' := by
  obtain ⟨ha, hg⟩ := impl_ProgramOK.f_is l0_0 r h
  have hu := Try.underlying29
  have hal := below_alloc (Below.refl w.heap.size w) (.cells #[.slice A0_0 l0_0.length c0_0] 29 (0, 0))
  have hcall := impl_Program_flows.go l0_0 A0_0 c0_0 w.heap.size (w.alloc (.cells #[.slice A0_0 l0_0.length c0_0] 29 (0, 0))) (blk_cell (blk_new w _) 0) (Kd.C_below hr0_0 hal) hc0_0 ha
  have HB := Lib.hid hal
  have HG := Lib.hid hg
  clear hr0_0 hc0_0 hal ha hg h
  go_enter Try.func12, Try.ntmps12
  go_wp2_with (go_at_fn 37)
  refine hcall.mono ?_
  rintro e w' ⟨hb, (⟨v, rows, rfl, hR, hn, hg, hrow⟩ | ⟨rfl, hng⟩)⟩
  · have HB2 := Lib.hid hb
    obtain rfl : r = true := HG.out.2 hg
    clear hb hR hn hg hrow hcall
    go_wp2_with fail
    go_ret
    exact ⟨rfl, HB.out.trans (HB2.out.mono HB.out.size)⟩
  · have HB2 := Lib.hid hb
    obtain rfl : r = false := by
      cases r with
      | false => rfl
      | true => exact absurd (HG.out.1 rfl) hng
    clear hb hng hcall
    go_wp2_with fail
    go_ret
    exact ⟨rfl, HB.out.trans (HB2.out.mono HB.out.size)⟩

/-! ### laws_eqValue: function 50 -/
def laws_eqValue.f (a0_0 : Int) (a0_1 : Int) (a0_2 : ByteArray) (a1_0 : Int) (a1_1 : Int) (a1_2 : ByteArray) : Option (Bool) := if a0_0 = a1_0 then (if a0_1 = a1_1 then (if a0_2.toList = a1_2.toList then (some true) else (some false)) else (some false)) else (some false)
set_option maxHeartbeats 8000000 in
set_option maxRecDepth 100000 in
theorem laws_eqValue.calls (a0_0 : Int) (a0_1 : Int) (a0_2 : ByteArray) (a1_0 : Int) (a1_1 : Int) (a1_2 : ByteArray) (r : Bool) (w : World) (h : laws_eqValue.f a0_0 a0_1 a0_2 a1_0 a1_1 a1_2 = some r) :
    Calls Try.prog 50 #[.agg #[.int .i64 a0_0, .int .i64 a0_1, .string a0_2], .agg #[.int .i64 a1_0, .int .i64 a1_1, .string a1_2]] w fun e w' => e = .returned (.bool r) ∧ Below w.heap.size w w' := by
  have hu45 := Try.underlying45
  have HB := Aside0.mk (Below.refl w.heap.size w)
  have H : (if a0_0 = a1_0 then (if a0_1 = a1_1 then (if a0_2.toList = a1_2.toList then (some true) else (some false)) else (some false)) else (some false)) = some r := h
  clear h
  by_cases c3 : a0_0 = a1_0
  · rw [if_pos c3] at H
    have c3b0 : (a0_0 == a1_0) = true := beq_iff_eq.mpr c3
    have c3b1 : (a0_0 != a1_0) = false := bne_eq_false_iff_eq.mpr c3
    clear c3
    by_cases c4 : a0_1 = a1_1
    · rw [if_pos c4] at H
      have c4b0 : (a0_1 == a1_1) = true := beq_iff_eq.mpr c4
      have c4b1 : (a0_1 != a1_1) = false := bne_eq_false_iff_eq.mpr c4
      clear c4
      by_cases c5 : a0_2.toList = a1_2.toList
      · rw [if_pos c5] at H
        have c5b0 : (a0_2.toList == a1_2.toList) = true := beq_iff_eq.mpr c5
        have c5b1 : (a0_2.toList != a1_2.toList) = false := bne_eq_false_iff_eq.mpr c5
        clear c5
        obtain rfl := Option.some.inj H
        go_enter Try.func50, Try.ntmps50
        go_wp2_with (first | ((with_reducible refine gate_dst (N := 2) rfl ?_); refine box_event ?hg (N := 2) ?hd (cs := #[.int .i64 a0_0, .int .i64 a0_1, .string a0_2]) (t := 45) ?hr ?_; (case hd => rfl); (case hg => rfl); (case hr => first | (go_simp; done) | (go_simp; rfl)); intro gb243 hg w6 hbox hb; have n0_ := Aside0.mk (below_step (by repeat (first | (with_reducible first | exact HB.out | apply below_alloc | apply pw_below_drewN | apply below_drew1) | exact HB.out)) hb); have n1_ := Aside0.mk (hbox); have n2_ := Aside0.mk ((by rw [hg]; exact (below_size (by repeat (first | (with_reducible first | exact HB.out | apply below_alloc | apply pw_below_drewN | apply below_drew1) | exact HB.out))) : w.heap.size ≤ gb243)); have n3_ := Aside0.mk ((by rw [hg]; exact (below_size (by repeat (first | (with_reducible first | exact HB.out | apply below_alloc | apply pw_below_drewN | apply below_drew1) | exact HB.out))) : w.heap.size ≤ gb243)); clear HB; have HB := n0_; have BK243 := n1_; have GW243 := n2_; have GE243 := n3_; clear n0_ n1_ n2_ n3_; clear hb hbox hg) | ((with_reducible refine gate_dst (N := 3) rfl ?_); refine box_event ?hg (N := 3) ?hd (cs := #[.int .i64 a1_0, .int .i64 a1_1, .string a1_2]) (t := 45) ?hr ?_; (case hd => rfl); (case hg => rfl); (case hr => first | (go_simp; done) | (go_simp; rfl)); intro gb244 hg w7 hbox hb; have n0_ := Aside0.mk (blk_below (g := gb243) (o := .cells #[.int .i64 a0_0, .int .i64 a0_1, .string a0_2] 45 (0, 0)) (by (with_reducible repeat (first | refine blk_drewN ?_ _ | refine blk_drew ?_ | refine blk_alloc ?_ _)); exact BK243.out) hb); have n1_ := Aside0.mk (below_step (by repeat (first | (with_reducible first | exact HB.out | apply below_alloc | apply pw_below_drewN | apply below_drew1 | refine below_set ?_ GE243.out) | exact HB.out)) hb); have n2_ := Aside0.mk (hbox); have n3_ := Aside0.mk ((by rw [hg]; exact (below_size (by repeat (first | (with_reducible first | exact HB.out | apply below_alloc | apply pw_below_drewN | apply below_drew1 | refine below_set ?_ GE243.out) | exact HB.out))) : w.heap.size ≤ gb244)); have n4_ := Aside0.mk ((by rw [hg]; exact (below_size (by repeat (first | (with_reducible first | exact HB.out | apply below_alloc | apply pw_below_drewN | apply below_drew1 | refine below_set ?_ GE243.out) | exact HB.out))) : w.heap.size ≤ gb244)); have n5_ := Aside0.mk ((by rw [hg]; exact Nat.ne_of_lt (blk_lt (g := gb243) (o := .cells #[.int .i64 a0_0, .int .i64 a0_1, .string a0_2] 45 (0, 0)) (by (with_reducible repeat (first | refine blk_drewN ?_ _ | refine blk_drew ?_ | refine blk_alloc ?_ _)); exact BK243.out)) : gb243 ≠ gb244)); have n6_ := Aside0.mk ((by rw [hg]; exact Nat.ne_of_gt (blk_lt (g := gb243) (o := .cells #[.int .i64 a0_0, .int .i64 a0_1, .string a0_2] 45 (0, 0)) (by (with_reducible repeat (first | refine blk_drewN ?_ _ | refine blk_drew ?_ | refine blk_alloc ?_ _)); exact BK243.out)) : gb244 ≠ gb243)); clear BK243; clear HB; have BK243 := n0_; have HB := n1_; have BK244 := n2_; have GW244 := n3_; have GE244 := n4_; have NB243_244 := n5_; have NB244_243 := n6_; clear n0_ n1_ n2_ n3_ n4_ n5_ n6_; clear hb hbox hg; have hnb8 := NB243_244.out; have hnc8 := NB244_243.out; have hcz9_0 : w7.cell? ⟨gb243, 0, none⟩ = some (.int .i64 a0_0) := (blk_cell BK243.out 0).trans rfl; have hcz9_1 : w7.cell? ⟨gb243, 1, none⟩ = some (.int .i64 a0_1) := (blk_cell BK243.out 1).trans rfl; have hcz9_2 : w7.cell? ⟨gb243, 2, none⟩ = some (.string a0_2) := (blk_cell BK243.out 2).trans rfl; have hfz9_0 := blk_frozen BK243.out 0; have hfz9_1 := blk_frozen BK243.out 1; have hfz9_2 := blk_frozen BK243.out 2; have hcz10_0 : w7.cell? ⟨gb244, 0, none⟩ = some (.int .i64 a1_0) := (blk_cell BK244.out 0).trans rfl; have hcz10_1 : w7.cell? ⟨gb244, 1, none⟩ = some (.int .i64 a1_1) := (blk_cell BK244.out 1).trans rfl; have hcz10_2 : w7.cell? ⟨gb244, 2, none⟩ = some (.string a1_2) := (blk_cell BK244.out 2).trans rfl; have hfz10_0 := blk_frozen BK244.out 0; have hfz10_1 := blk_frozen BK244.out 1; have hfz10_2 := blk_frozen BK244.out 2))
        go_ret
        exact ⟨by first | rfl | exact My.ret_isEmpty _ | (simp [errW_none, errW_some] <;> rfl) | (simp [*, errW_none, errW_some] <;> rfl), by repeat (first | (with_reducible first | exact HB.out | apply below_alloc | apply pw_below_drewN | apply below_drew1 | refine below_set ?_ GE243.out | refine below_set ?_ GE244.out) | exact HB.out)⟩
      · rw [if_neg c5] at H
        have c5b0 : (a0_2.toList == a1_2.toList) = false := beq_eq_false_iff_ne.mpr c5
        have c5b1 : (a0_2.toList != a1_2.toList) = true := bne_iff_ne.mpr c5
        obtain rfl := Option.some.inj H
        go_enter Try.func50, Try.ntmps50
        go_wp2_with (first | ((with_reducible refine gate_dst (N := 2) rfl ?_); refine box_event ?hg (N := 2) ?hd (cs := #[.int .i64 a0_0, .int .i64 a0_1, .string a0_2]) (t := 45) ?hr ?_; (case hd => rfl); (case hg => rfl); (case hr => first | (go_simp; done) | (go_simp; rfl)); intro gb243 hg w11 hbox hb; have n0_ := Aside0.mk (below_step (by repeat (first | (with_reducible first | exact HB.out | apply below_alloc | apply pw_below_drewN | apply below_drew1) | exact HB.out)) hb); have n1_ := Aside0.mk (hbox); have n2_ := Aside0.mk ((by rw [hg]; exact (below_size (by repeat (first | (with_reducible first | exact HB.out | apply below_alloc | apply pw_below_drewN | apply below_drew1) | exact HB.out))) : w.heap.size ≤ gb243)); have n3_ := Aside0.mk ((by rw [hg]; exact (below_size (by repeat (first | (with_reducible first | exact HB.out | apply below_alloc | apply pw_below_drewN | apply below_drew1) | exact HB.out))) : w.heap.size ≤ gb243)); clear HB; have HB := n0_; have BK243 := n1_; have GW243 := n2_; have GE243 := n3_; clear n0_ n1_ n2_ n3_; clear hb hbox hg) | ((with_reducible refine gate_dst (N := 3) rfl ?_); refine box_event ?hg (N := 3) ?hd (cs := #[.int .i64 a1_0, .int .i64 a1_1, .string a1_2]) (t := 45) ?hr ?_; (case hd => rfl); (case hg => rfl); (case hr => first | (go_simp; done) | (go_simp; rfl)); intro gb244 hg w12 hbox hb; have n0_ := Aside0.mk (blk_below (g := gb243) (o := .cells #[.int .i64 a0_0, .int .i64 a0_1, .string a0_2] 45 (0, 0)) (by (with_reducible repeat (first | refine blk_drewN ?_ _ | refine blk_drew ?_ | refine blk_alloc ?_ _)); exact BK243.out) hb); have n1_ := Aside0.mk (below_step (by repeat (first | (with_reducible first | exact HB.out | apply below_alloc | apply pw_below_drewN | apply below_drew1 | refine below_set ?_ GE243.out) | exact HB.out)) hb); have n2_ := Aside0.mk (hbox); have n3_ := Aside0.mk ((by rw [hg]; exact (below_size (by repeat (first | (with_reducible first | exact HB.out | apply below_alloc | apply pw_below_drewN | apply below_drew1 | refine below_set ?_ GE243.out) | exact HB.out))) : w.heap.size ≤ gb244)); have n4_ := Aside0.mk ((by rw [hg]; exact (below_size (by repeat (first | (with_reducible first | exact HB.out | apply below_alloc | apply pw_below_drewN | apply below_drew1 | refine below_set ?_ GE243.out) | exact HB.out))) : w.heap.size ≤ gb244)); have n5_ := Aside0.mk ((by rw [hg]; exact Nat.ne_of_lt (blk_lt (g := gb243) (o := .cells #[.int .i64 a0_0, .int .i64 a0_1, .string a0_2] 45 (0, 0)) (by (with_reducible repeat (first | refine blk_drewN ?_ _ | refine blk_drew ?_ | refine blk_alloc ?_ _)); exact BK243.out)) : gb243 ≠ gb244)); have n6_ := Aside0.mk ((by rw [hg]; exact Nat.ne_of_gt (blk_lt (g := gb243) (o := .cells #[.int .i64 a0_0, .int .i64 a0_1, .string a0_2] 45 (0, 0)) (by (with_reducible repeat (first | refine blk_drewN ?_ _ | refine blk_drew ?_ | refine blk_alloc ?_ _)); exact BK243.out)) : gb244 ≠ gb243)); clear BK243; clear HB; have BK243 := n0_; have HB := n1_; have BK244 := n2_; have GW244 := n3_; have GE244 := n4_; have NB243_244 := n5_; have NB244_243 := n6_; clear n0_ n1_ n2_ n3_ n4_ n5_ n6_; clear hb hbox hg; have hnb13 := NB243_244.out; have hnc13 := NB244_243.out; have hcz14_0 : w12.cell? ⟨gb243, 0, none⟩ = some (.int .i64 a0_0) := (blk_cell BK243.out 0).trans rfl; have hcz14_1 : w12.cell? ⟨gb243, 1, none⟩ = some (.int .i64 a0_1) := (blk_cell BK243.out 1).trans rfl; have hcz14_2 : w12.cell? ⟨gb243, 2, none⟩ = some (.string a0_2) := (blk_cell BK243.out 2).trans rfl; have hfz14_0 := blk_frozen BK243.out 0; have hfz14_1 := blk_frozen BK243.out 1; have hfz14_2 := blk_frozen BK243.out 2; have hcz15_0 : w12.cell? ⟨gb244, 0, none⟩ = some (.int .i64 a1_0) := (blk_cell BK244.out 0).trans rfl; have hcz15_1 : w12.cell? ⟨gb244, 1, none⟩ = some (.int .i64 a1_1) := (blk_cell BK244.out 1).trans rfl; have hcz15_2 : w12.cell? ⟨gb244, 2, none⟩ = some (.string a1_2) := (blk_cell BK244.out 2).trans rfl; have hfz15_0 := blk_frozen BK244.out 0; have hfz15_1 := blk_frozen BK244.out 1; have hfz15_2 := blk_frozen BK244.out 2))
        go_ret
        exact ⟨by first | rfl | exact My.ret_isEmpty _ | (simp [errW_none, errW_some] <;> rfl) | (simp [*, errW_none, errW_some] <;> rfl), by repeat (first | (with_reducible first | exact HB.out | apply below_alloc | apply pw_below_drewN | apply below_drew1 | refine below_set ?_ GE243.out | refine below_set ?_ GE244.out) | exact HB.out)⟩
    · rw [if_neg c4] at H
      have c4b0 : (a0_1 == a1_1) = false := beq_eq_false_iff_ne.mpr c4
      have c4b1 : (a0_1 != a1_1) = true := bne_iff_ne.mpr c4
      obtain rfl := Option.some.inj H
      go_enter Try.func50, Try.ntmps50
      go_wp2_with (first | ((with_reducible refine gate_dst (N := 2) rfl ?_); refine box_event ?hg (N := 2) ?hd (cs := #[.int .i64 a0_0, .int .i64 a0_1, .string a0_2]) (t := 45) ?hr ?_; (case hd => rfl); (case hg => rfl); (case hr => first | (go_simp; done) | (go_simp; rfl)); intro gb243 hg w16 hbox hb; have n0_ := Aside0.mk (below_step (by repeat (first | (with_reducible first | exact HB.out | apply below_alloc | apply pw_below_drewN | apply below_drew1) | exact HB.out)) hb); have n1_ := Aside0.mk (hbox); have n2_ := Aside0.mk ((by rw [hg]; exact (below_size (by repeat (first | (with_reducible first | exact HB.out | apply below_alloc | apply pw_below_drewN | apply below_drew1) | exact HB.out))) : w.heap.size ≤ gb243)); have n3_ := Aside0.mk ((by rw [hg]; exact (below_size (by repeat (first | (with_reducible first | exact HB.out | apply below_alloc | apply pw_below_drewN | apply below_drew1) | exact HB.out))) : w.heap.size ≤ gb243)); clear HB; have HB := n0_; have BK243 := n1_; have GW243 := n2_; have GE243 := n3_; clear n0_ n1_ n2_ n3_; clear hb hbox hg) | ((with_reducible refine gate_dst (N := 3) rfl ?_); refine box_event ?hg (N := 3) ?hd (cs := #[.int .i64 a1_0, .int .i64 a1_1, .string a1_2]) (t := 45) ?hr ?_; (case hd => rfl); (case hg => rfl); (case hr => first | (go_simp; done) | (go_simp; rfl)); intro gb244 hg w17 hbox hb; have n0_ := Aside0.mk (blk_below (g := gb243) (o := .cells #[.int .i64 a0_0, .int .i64 a0_1, .string a0_2] 45 (0, 0)) (by (with_reducible repeat (first | refine blk_drewN ?_ _ | refine blk_drew ?_ | refine blk_alloc ?_ _)); exact BK243.out) hb); have n1_ := Aside0.mk (below_step (by repeat (first | (with_reducible first | exact HB.out | apply below_alloc | apply pw_below_drewN | apply below_drew1 | refine below_set ?_ GE243.out) | exact HB.out)) hb); have n2_ := Aside0.mk (hbox); have n3_ := Aside0.mk ((by rw [hg]; exact (below_size (by repeat (first | (with_reducible first | exact HB.out | apply below_alloc | apply pw_below_drewN | apply below_drew1 | refine below_set ?_ GE243.out) | exact HB.out))) : w.heap.size ≤ gb244)); have n4_ := Aside0.mk ((by rw [hg]; exact (below_size (by repeat (first | (with_reducible first | exact HB.out | apply below_alloc | apply pw_below_drewN | apply below_drew1 | refine below_set ?_ GE243.out) | exact HB.out))) : w.heap.size ≤ gb244)); have n5_ := Aside0.mk ((by rw [hg]; exact Nat.ne_of_lt (blk_lt (g := gb243) (o := .cells #[.int .i64 a0_0, .int .i64 a0_1, .string a0_2] 45 (0, 0)) (by (with_reducible repeat (first | refine blk_drewN ?_ _ | refine blk_drew ?_ | refine blk_alloc ?_ _)); exact BK243.out)) : gb243 ≠ gb244)); have n6_ := Aside0.mk ((by rw [hg]; exact Nat.ne_of_gt (blk_lt (g := gb243) (o := .cells #[.int .i64 a0_0, .int .i64 a0_1, .string a0_2] 45 (0, 0)) (by (with_reducible repeat (first | refine blk_drewN ?_ _ | refine blk_drew ?_ | refine blk_alloc ?_ _)); exact BK243.out)) : gb244 ≠ gb243)); clear BK243; clear HB; have BK243 := n0_; have HB := n1_; have BK244 := n2_; have GW244 := n3_; have GE244 := n4_; have NB243_244 := n5_; have NB244_243 := n6_; clear n0_ n1_ n2_ n3_ n4_ n5_ n6_; clear hb hbox hg; have hnb18 := NB243_244.out; have hnc18 := NB244_243.out; have hcz19_0 : w17.cell? ⟨gb243, 0, none⟩ = some (.int .i64 a0_0) := (blk_cell BK243.out 0).trans rfl; have hcz19_1 : w17.cell? ⟨gb243, 1, none⟩ = some (.int .i64 a0_1) := (blk_cell BK243.out 1).trans rfl; have hcz19_2 : w17.cell? ⟨gb243, 2, none⟩ = some (.string a0_2) := (blk_cell BK243.out 2).trans rfl; have hfz19_0 := blk_frozen BK243.out 0; have hfz19_1 := blk_frozen BK243.out 1; have hfz19_2 := blk_frozen BK243.out 2; have hcz20_0 : w17.cell? ⟨gb244, 0, none⟩ = some (.int .i64 a1_0) := (blk_cell BK244.out 0).trans rfl; have hcz20_1 : w17.cell? ⟨gb244, 1, none⟩ = some (.int .i64 a1_1) := (blk_cell BK244.out 1).trans rfl; have hcz20_2 : w17.cell? ⟨gb244, 2, none⟩ = some (.string a1_2) := (blk_cell BK244.out 2).trans rfl; have hfz20_0 := blk_frozen BK244.out 0; have hfz20_1 := blk_frozen BK244.out 1; have hfz20_2 := blk_frozen BK244.out 2))
      go_ret
      exact ⟨by first | rfl | exact My.ret_isEmpty _ | (simp [errW_none, errW_some] <;> rfl) | (simp [*, errW_none, errW_some] <;> rfl), by repeat (first | (with_reducible first | exact HB.out | apply below_alloc | apply pw_below_drewN | apply below_drew1 | refine below_set ?_ GE243.out | refine below_set ?_ GE244.out) | exact HB.out)⟩
  · rw [if_neg c3] at H
    have c3b0 : (a0_0 == a1_0) = false := beq_eq_false_iff_ne.mpr c3
    have c3b1 : (a0_0 != a1_0) = true := bne_iff_ne.mpr c3
    obtain rfl := Option.some.inj H
    go_enter Try.func50, Try.ntmps50
    go_wp2_with (first | ((with_reducible refine gate_dst (N := 2) rfl ?_); refine box_event ?hg (N := 2) ?hd (cs := #[.int .i64 a0_0, .int .i64 a0_1, .string a0_2]) (t := 45) ?hr ?_; (case hd => rfl); (case hg => rfl); (case hr => first | (go_simp; done) | (go_simp; rfl)); intro gb243 hg w21 hbox hb; have n0_ := Aside0.mk (below_step (by repeat (first | (with_reducible first | exact HB.out | apply below_alloc | apply pw_below_drewN | apply below_drew1) | exact HB.out)) hb); have n1_ := Aside0.mk (hbox); have n2_ := Aside0.mk ((by rw [hg]; exact (below_size (by repeat (first | (with_reducible first | exact HB.out | apply below_alloc | apply pw_below_drewN | apply below_drew1) | exact HB.out))) : w.heap.size ≤ gb243)); have n3_ := Aside0.mk ((by rw [hg]; exact (below_size (by repeat (first | (with_reducible first | exact HB.out | apply below_alloc | apply pw_below_drewN | apply below_drew1) | exact HB.out))) : w.heap.size ≤ gb243)); clear HB; have HB := n0_; have BK243 := n1_; have GW243 := n2_; have GE243 := n3_; clear n0_ n1_ n2_ n3_; clear hb hbox hg) | ((with_reducible refine gate_dst (N := 3) rfl ?_); refine box_event ?hg (N := 3) ?hd (cs := #[.int .i64 a1_0, .int .i64 a1_1, .string a1_2]) (t := 45) ?hr ?_; (case hd => rfl); (case hg => rfl); (case hr => first | (go_simp; done) | (go_simp; rfl)); intro gb244 hg w22 hbox hb; have n0_ := Aside0.mk (blk_below (g := gb243) (o := .cells #[.int .i64 a0_0, .int .i64 a0_1, .string a0_2] 45 (0, 0)) (by (with_reducible repeat (first | refine blk_drewN ?_ _ | refine blk_drew ?_ | refine blk_alloc ?_ _)); exact BK243.out) hb); have n1_ := Aside0.mk (below_step (by repeat (first | (with_reducible first | exact HB.out | apply below_alloc | apply pw_below_drewN | apply below_drew1 | refine below_set ?_ GE243.out) | exact HB.out)) hb); have n2_ := Aside0.mk (hbox); have n3_ := Aside0.mk ((by rw [hg]; exact (below_size (by repeat (first | (with_reducible first | exact HB.out | apply below_alloc | apply pw_below_drewN | apply below_drew1 | refine below_set ?_ GE243.out) | exact HB.out))) : w.heap.size ≤ gb244)); have n4_ := Aside0.mk ((by rw [hg]; exact (below_size (by repeat (first | (with_reducible first | exact HB.out | apply below_alloc | apply pw_below_drewN | apply below_drew1 | refine below_set ?_ GE243.out) | exact HB.out))) : w.heap.size ≤ gb244)); have n5_ := Aside0.mk ((by rw [hg]; exact Nat.ne_of_lt (blk_lt (g := gb243) (o := .cells #[.int .i64 a0_0, .int .i64 a0_1, .string a0_2] 45 (0, 0)) (by (with_reducible repeat (first | refine blk_drewN ?_ _ | refine blk_drew ?_ | refine blk_alloc ?_ _)); exact BK243.out)) : gb243 ≠ gb244)); have n6_ := Aside0.mk ((by rw [hg]; exact Nat.ne_of_gt (blk_lt (g := gb243) (o := .cells #[.int .i64 a0_0, .int .i64 a0_1, .string a0_2] 45 (0, 0)) (by (with_reducible repeat (first | refine blk_drewN ?_ _ | refine blk_drew ?_ | refine blk_alloc ?_ _)); exact BK243.out)) : gb244 ≠ gb243)); clear BK243; clear HB; have BK243 := n0_; have HB := n1_; have BK244 := n2_; have GW244 := n3_; have GE244 := n4_; have NB243_244 := n5_; have NB244_243 := n6_; clear n0_ n1_ n2_ n3_ n4_ n5_ n6_; clear hb hbox hg; have hnb23 := NB243_244.out; have hnc23 := NB244_243.out; have hcz24_0 : w22.cell? ⟨gb243, 0, none⟩ = some (.int .i64 a0_0) := (blk_cell BK243.out 0).trans rfl; have hcz24_1 : w22.cell? ⟨gb243, 1, none⟩ = some (.int .i64 a0_1) := (blk_cell BK243.out 1).trans rfl; have hcz24_2 : w22.cell? ⟨gb243, 2, none⟩ = some (.string a0_2) := (blk_cell BK243.out 2).trans rfl; have hfz24_0 := blk_frozen BK243.out 0; have hfz24_1 := blk_frozen BK243.out 1; have hfz24_2 := blk_frozen BK243.out 2; have hcz25_0 : w22.cell? ⟨gb244, 0, none⟩ = some (.int .i64 a1_0) := (blk_cell BK244.out 0).trans rfl; have hcz25_1 : w22.cell? ⟨gb244, 1, none⟩ = some (.int .i64 a1_1) := (blk_cell BK244.out 1).trans rfl; have hcz25_2 : w22.cell? ⟨gb244, 2, none⟩ = some (.string a1_2) := (blk_cell BK244.out 2).trans rfl; have hfz25_0 := blk_frozen BK244.out 0; have hfz25_1 := blk_frozen BK244.out 1; have hfz25_2 := blk_frozen BK244.out 2))
    go_ret
    exact ⟨by first | rfl | exact My.ret_isEmpty _ | (simp [errW_none, errW_some] <;> rfl) | (simp [*, errW_none, errW_some] <;> rfl), by repeat (first | (with_reducible first | exact HB.out | apply below_alloc | apply pw_below_drewN | apply below_drew1 | refine below_set ?_ GE243.out | refine below_set ?_ GE244.out) | exact HB.out)⟩

/-! ### laws_eqIns: function 121 -/
def laws_eqIns.f (a0_0 : Int) (a0_1 : Int) (a0_2 : Int) (a0_3 : ByteArray) (a0_4 : Int) (a0_5 : Int) (a0_6 : ByteArray) (a1_0 : Int) (a1_1 : Int) (a1_2 : Int) (a1_3 : ByteArray) (a1_4 : Int) (a1_5 : Int) (a1_6 : ByteArray) : Option (Bool) := if a0_0 = a1_0 then (if a0_1 = a1_1 then (if a0_2 = a1_2 then (if a0_3.toList = a1_3.toList then ((laws_eqValue.f a0_4 a0_5 a0_6 a1_4 a1_5 a1_6).bind fun t247 => (if t247 = true then (some true) else (some false))) else (some false)) else (some false)) else (some false)) else (some false)
set_option maxHeartbeats 8000000 in
set_option maxRecDepth 100000 in
theorem laws_eqIns.calls (a0_0 : Int) (a0_1 : Int) (a0_2 : Int) (a0_3 : ByteArray) (a0_4 : Int) (a0_5 : Int) (a0_6 : ByteArray) (a1_0 : Int) (a1_1 : Int) (a1_2 : Int) (a1_3 : ByteArray) (a1_4 : Int) (a1_5 : Int) (a1_6 : ByteArray) (r : Bool) (w : World) (h : laws_eqIns.f a0_0 a0_1 a0_2 a0_3 a0_4 a0_5 a0_6 a1_0 a1_1 a1_2 a1_3 a1_4 a1_5 a1_6 = some r) :
    Calls Try.prog 121 #[.agg #[.int .i64 a0_0, .int .i64 a0_1, .int .i64 a0_2, .string a0_3, .int .i64 a0_4, .int .i64 a0_5, .string a0_6], .agg #[.int .i64 a1_0, .int .i64 a1_1, .int .i64 a1_2, .string a1_3, .int .i64 a1_4, .int .i64 a1_5, .string a1_6]] w fun e w' => e = .returned (.bool r) ∧ Below w.heap.size w w' := by
  have hu61 := Try.underlying61
  have hu45 := Try.underlying45
  have HB := Aside0.mk (Below.refl w.heap.size w)
  have H : (if a0_0 = a1_0 then (if a0_1 = a1_1 then (if a0_2 = a1_2 then (if a0_3.toList = a1_3.toList then ((laws_eqValue.f a0_4 a0_5 a0_6 a1_4 a1_5 a1_6).bind fun t247 => (if t247 = true then (some true) else (some false))) else (some false)) else (some false)) else (some false)) else (some false)) = some r := h
  clear h
  by_cases c3 : a0_0 = a1_0
  · rw [if_pos c3] at H
    have c3b0 : (a0_0 == a1_0) = true := beq_iff_eq.mpr c3
    have c3b1 : (a0_0 != a1_0) = false := bne_eq_false_iff_eq.mpr c3
    clear c3
    by_cases c4 : a0_1 = a1_1
    · rw [if_pos c4] at H
      have c4b0 : (a0_1 == a1_1) = true := beq_iff_eq.mpr c4
      have c4b1 : (a0_1 != a1_1) = false := bne_eq_false_iff_eq.mpr c4
      clear c4
      by_cases c5 : a0_2 = a1_2
      · rw [if_pos c5] at H
        have c5b0 : (a0_2 == a1_2) = true := beq_iff_eq.mpr c5
        have c5b1 : (a0_2 != a1_2) = false := bne_eq_false_iff_eq.mpr c5
        clear c5
        by_cases c6 : a0_3.toList = a1_3.toList
        · rw [if_pos c6] at H
          have c6b0 : (a0_3.toList == a1_3.toList) = true := beq_iff_eq.mpr c6
          have c6b1 : (a0_3.toList != a1_3.toList) = false := bne_eq_false_iff_eq.mpr c6
          clear c6
          replace H := Option.bind_eq_some_iff.mp H
          obtain ⟨t247, A70, H⟩ := H
          replace H : (if t247 = true then (some true) else (some false)) = some r := H
          have A7 := Aside0.mk A70
          clear A70
          by_cases c8 : t247 = true
          · subst c8
            have H1 : (some true) = some r := by rw [if_pos rfl] at H; exact H
            clear H
            have H := H1
            clear H1
            obtain rfl := Option.some.inj H
            go_enter Try.func121, Try.ntmps121
            go_wp2_with (first | ((with_reducible refine gate_dst (N := 2) rfl ?_); refine box_event ?hg (N := 2) ?hd (cs := #[.int .i64 a0_0, .int .i64 a0_1, .int .i64 a0_2, .string a0_3, .int .i64 a0_4, .int .i64 a0_5, .string a0_6]) (t := 61) ?hr ?_; (case hd => rfl); (case hg => rfl); (case hr => first | (go_simp; done) | (go_simp; rfl)); intro gb245 hg w9 hbox hb; have n0_ := Aside0.mk (below_step (by repeat (first | (with_reducible first | exact HB.out | apply below_alloc | apply pw_below_drewN | apply below_drew1) | exact HB.out)) hb); have n1_ := Aside0.mk (hbox); have n2_ := Aside0.mk ((by rw [hg]; exact (below_size (by repeat (first | (with_reducible first | exact HB.out | apply below_alloc | apply pw_below_drewN | apply below_drew1) | exact HB.out))) : w.heap.size ≤ gb245)); have n3_ := Aside0.mk ((by rw [hg]; exact (below_size (by repeat (first | (with_reducible first | exact HB.out | apply below_alloc | apply pw_below_drewN | apply below_drew1) | exact HB.out))) : w.heap.size ≤ gb245)); clear HB; have HB := n0_; have BK245 := n1_; have GW245 := n2_; have GE245 := n3_; clear n0_ n1_ n2_ n3_; clear hb hbox hg) | ((with_reducible refine gate_dst (N := 3) rfl ?_); refine box_event ?hg (N := 3) ?hd (cs := #[.int .i64 a1_0, .int .i64 a1_1, .int .i64 a1_2, .string a1_3, .int .i64 a1_4, .int .i64 a1_5, .string a1_6]) (t := 61) ?hr ?_; (case hd => rfl); (case hg => rfl); (case hr => first | (go_simp; done) | (go_simp; rfl)); intro gb246 hg w10 hbox hb; have n0_ := Aside0.mk (blk_below (g := gb245) (o := .cells #[.int .i64 a0_0, .int .i64 a0_1, .int .i64 a0_2, .string a0_3, .int .i64 a0_4, .int .i64 a0_5, .string a0_6] 61 (0, 0)) (by (with_reducible repeat (first | refine blk_drewN ?_ _ | refine blk_drew ?_ | refine blk_alloc ?_ _)); exact BK245.out) hb); have n1_ := Aside0.mk (below_step (by repeat (first | (with_reducible first | exact HB.out | apply below_alloc | apply pw_below_drewN | apply below_drew1 | refine below_set ?_ GE245.out) | exact HB.out)) hb); have n2_ := Aside0.mk (hbox); have n3_ := Aside0.mk ((by rw [hg]; exact (below_size (by repeat (first | (with_reducible first | exact HB.out | apply below_alloc | apply pw_below_drewN | apply below_drew1 | refine below_set ?_ GE245.out) | exact HB.out))) : w.heap.size ≤ gb246)); have n4_ := Aside0.mk ((by rw [hg]; exact (below_size (by repeat (first | (with_reducible first | exact HB.out | apply below_alloc | apply pw_below_drewN | apply below_drew1 | refine below_set ?_ GE245.out) | exact HB.out))) : w.heap.size ≤ gb246)); have n5_ := Aside0.mk ((by rw [hg]; exact Nat.ne_of_lt (blk_lt (g := gb245) (o := .cells #[.int .i64 a0_0, .int .i64 a0_1, .int .i64 a0_2, .string a0_3, .int .i64 a0_4, .int .i64 a0_5, .string a0_6] 61 (0, 0)) (by (with_reducible repeat (first | refine blk_drewN ?_ _ | refine blk_drew ?_ | refine blk_alloc ?_ _)); exact BK245.out)) : gb245 ≠ gb246)); have n6_ := Aside0.mk ((by rw [hg]; exact Nat.ne_of_gt (blk_lt (g := gb245) (o := .cells #[.int .i64 a0_0, .int .i64 a0_1, .int .i64 a0_2, .string a0_3, .int .i64 a0_4, .int .i64 a0_5, .string a0_6] 61 (0, 0)) (by (with_reducible repeat (first | refine blk_drewN ?_ _ | refine blk_drew ?_ | refine blk_alloc ?_ _)); exact BK245.out)) : gb246 ≠ gb245)); clear BK245; clear HB; have BK245 := n0_; have HB := n1_; have BK246 := n2_; have GW246 := n3_; have GE246 := n4_; have NB245_246 := n5_; have NB246_245 := n6_; clear n0_ n1_ n2_ n3_ n4_ n5_ n6_; clear hb hbox hg; have hnb11 := NB245_246.out; have hnc11 := NB246_245.out; have hcz12_0 : w10.cell? ⟨gb245, 0, none⟩ = some (.int .i64 a0_0) := (blk_cell BK245.out 0).trans rfl; have hcz12_1 : w10.cell? ⟨gb245, 1, none⟩ = some (.int .i64 a0_1) := (blk_cell BK245.out 1).trans rfl; have hcz12_2 : w10.cell? ⟨gb245, 2, none⟩ = some (.int .i64 a0_2) := (blk_cell BK245.out 2).trans rfl; have hcz12_3 : w10.cell? ⟨gb245, 3, none⟩ = some (.string a0_3) := (blk_cell BK245.out 3).trans rfl; have hcz12_4 : w10.cell? ⟨gb245, 4, none⟩ = some (.int .i64 a0_4) := (blk_cell BK245.out 4).trans rfl; have hcz12_5 : w10.cell? ⟨gb245, 5, none⟩ = some (.int .i64 a0_5) := (blk_cell BK245.out 5).trans rfl; have hcz12_6 : w10.cell? ⟨gb245, 6, none⟩ = some (.string a0_6) := (blk_cell BK245.out 6).trans rfl; have hfz12_0 := blk_frozen BK245.out 0; have hfz12_1 := blk_frozen BK245.out 1; have hfz12_2 := blk_frozen BK245.out 2; have hfz12_3 := blk_frozen BK245.out 3; have hfz12_4 := blk_frozen BK245.out 4; have hfz12_5 := blk_frozen BK245.out 5; have hfz12_6 := blk_frozen BK245.out 6; have hcz13_0 : w10.cell? ⟨gb246, 0, none⟩ = some (.int .i64 a1_0) := (blk_cell BK246.out 0).trans rfl; have hcz13_1 : w10.cell? ⟨gb246, 1, none⟩ = some (.int .i64 a1_1) := (blk_cell BK246.out 1).trans rfl; have hcz13_2 : w10.cell? ⟨gb246, 2, none⟩ = some (.int .i64 a1_2) := (blk_cell BK246.out 2).trans rfl; have hcz13_3 : w10.cell? ⟨gb246, 3, none⟩ = some (.string a1_3) := (blk_cell BK246.out 3).trans rfl; have hcz13_4 : w10.cell? ⟨gb246, 4, none⟩ = some (.int .i64 a1_4) := (blk_cell BK246.out 4).trans rfl; have hcz13_5 : w10.cell? ⟨gb246, 5, none⟩ = some (.int .i64 a1_5) := (blk_cell BK246.out 5).trans rfl; have hcz13_6 : w10.cell? ⟨gb246, 6, none⟩ = some (.string a1_6) := (blk_cell BK246.out 6).trans rfl; have hfz13_0 := blk_frozen BK246.out 0; have hfz13_1 := blk_frozen BK246.out 1; have hfz13_2 := blk_frozen BK246.out 2; have hfz13_3 := blk_frozen BK246.out 3; have hfz13_4 := blk_frozen BK246.out 4; have hfz13_5 := blk_frozen BK246.out 5; have hfz13_6 := blk_frozen BK246.out 6) | ((with_reducible refine gate_callee (f := 50) rfl ?_); refine goesL_ (some 29) rfl rfl Try.func50 (by kernel_rfl) rfl #[.agg #[.int .i64 a0_4, .int .i64 a0_5, .string a0_6], .agg #[.int .i64 a1_4, .int .i64 a1_5, .string a1_6]] rfl (by (try simp only [List.map_toArray, List.map_cons, List.map_nil]); first | done | rfl | (simp only [List.length_drop, List.length_take]; rfl)) ?_; (with_reducible refine (laws_eqValue.calls a0_4 a0_5 a0_6 a1_4 a1_5 a1_6 true _ A7.out).mono ?_); rintro e w14 ⟨rfl, hb⟩; refine ⟨_, rfl, ?_⟩; have n0_ := Aside0.mk (blk_below (g := gb245) (o := .cells #[.int .i64 a0_0, .int .i64 a0_1, .int .i64 a0_2, .string a0_3, .int .i64 a0_4, .int .i64 a0_5, .string a0_6] 61 (0, 0)) (by (with_reducible repeat (first | refine blk_drewN ?_ _ | refine blk_drew ?_ | refine blk_alloc ?_ _)); exact BK245.out) hb); have n1_ := Aside0.mk (blk_below (g := gb246) (o := .cells #[.int .i64 a1_0, .int .i64 a1_1, .int .i64 a1_2, .string a1_3, .int .i64 a1_4, .int .i64 a1_5, .string a1_6] 61 (0, 0)) (by (with_reducible repeat (first | refine blk_drewN ?_ _ | refine blk_drew ?_ | refine blk_alloc ?_ _)); exact BK246.out) hb); have n2_ := Aside0.mk (below_step (by repeat (first | (with_reducible first | exact HB.out | apply below_alloc | apply pw_below_drewN | apply below_drew1 | refine below_set ?_ GE245.out | refine below_set ?_ GE246.out) | exact HB.out)) hb); clear BK245; clear BK246; clear HB; have BK245 := n0_; have BK246 := n1_; have HB := n2_; clear n0_ n1_ n2_; (try clear hb); (try clear hb2); (try clear hk); (try clear hi)))
            go_ret
            exact ⟨by first | rfl | exact My.ret_isEmpty _ | (simp [errW_none, errW_some] <;> rfl) | (simp [*, errW_none, errW_some] <;> rfl), by repeat (first | (with_reducible first | exact HB.out | apply below_alloc | apply pw_below_drewN | apply below_drew1 | refine below_set ?_ GE245.out | refine below_set ?_ GE246.out) | exact HB.out)⟩
          · replace c8 := Bool.eq_false_iff.mpr c8
            subst c8
            have H1 : (some false) = some r := by rw [if_neg (show ¬ (false = true) by decide)] at H; exact H
            clear H
            have H := H1
            clear H1
            obtain rfl := Option.some.inj H
            go_enter Try.func121, Try.ntmps121
            go_wp2_with (first | ((with_reducible refine gate_dst (N := 2) rfl ?_); refine box_event ?hg (N := 2) ?hd (cs := #[.int .i64 a0_0, .int .i64 a0_1, .int .i64 a0_2, .string a0_3, .int .i64 a0_4, .int .i64 a0_5, .string a0_6]) (t := 61) ?hr ?_; (case hd => rfl); (case hg => rfl); (case hr => first | (go_simp; done) | (go_simp; rfl)); intro gb245 hg w15 hbox hb; have n0_ := Aside0.mk (below_step (by repeat (first | (with_reducible first | exact HB.out | apply below_alloc | apply pw_below_drewN | apply below_drew1) | exact HB.out)) hb); have n1_ := Aside0.mk (hbox); have n2_ := Aside0.mk ((by rw [hg]; exact (below_size (by repeat (first | (with_reducible first | exact HB.out | apply below_alloc | apply pw_below_drewN | apply below_drew1) | exact HB.out))) : w.heap.size ≤ gb245)); have n3_ := Aside0.mk ((by rw [hg]; exact (below_size (by repeat (first | (with_reducible first | exact HB.out | apply below_alloc | apply pw_below_drewN | apply below_drew1) | exact HB.out))) : w.heap.size ≤ gb245)); clear HB; have HB := n0_; have BK245 := n1_; have GW245 := n2_; have GE245 := n3_; clear n0_ n1_ n2_ n3_; clear hb hbox hg) | ((with_reducible refine gate_dst (N := 3) rfl ?_); refine box_event ?hg (N := 3) ?hd (cs := #[.int .i64 a1_0, .int .i64 a1_1, .int .i64 a1_2, .string a1_3, .int .i64 a1_4, .int .i64 a1_5, .string a1_6]) (t := 61) ?hr ?_; (case hd => rfl); (case hg => rfl); (case hr => first | (go_simp; done) | (go_simp; rfl)); intro gb246 hg w16 hbox hb; have n0_ := Aside0.mk (blk_below (g := gb245) (o := .cells #[.int .i64 a0_0, .int .i64 a0_1, .int .i64 a0_2, .string a0_3, .int .i64 a0_4, .int .i64 a0_5, .string a0_6] 61 (0, 0)) (by (with_reducible repeat (first | refine blk_drewN ?_ _ | refine blk_drew ?_ | refine blk_alloc ?_ _)); exact BK245.out) hb); have n1_ := Aside0.mk (below_step (by repeat (first | (with_reducible first | exact HB.out | apply below_alloc | apply pw_below_drewN | apply below_drew1 | refine below_set ?_ GE245.out) | exact HB.out)) hb); have n2_ := Aside0.mk (hbox); have n3_ := Aside0.mk ((by rw [hg]; exact (below_size (by repeat (first | (with_reducible first | exact HB.out | apply below_alloc | apply pw_below_drewN | apply below_drew1 | refine below_set ?_ GE245.out) | exact HB.out))) : w.heap.size ≤ gb246)); have n4_ := Aside0.mk ((by rw [hg]; exact (below_size (by repeat (first | (with_reducible first | exact HB.out | apply below_alloc | apply pw_below_drewN | apply below_drew1 | refine below_set ?_ GE245.out) | exact HB.out))) : w.heap.size ≤ gb246)); have n5_ := Aside0.mk ((by rw [hg]; exact Nat.ne_of_lt (blk_lt (g := gb245) (o := .cells #[.int .i64 a0_0, .int .i64 a0_1, .int .i64 a0_2, .string a0_3, .int .i64 a0_4, .int .i64 a0_5, .string a0_6] 61 (0, 0)) (by (with_reducible repeat (first | refine blk_drewN ?_ _ | refine blk_drew ?_ | refine blk_alloc ?_ _)); exact BK245.out)) : gb245 ≠ gb246)); have n6_ := Aside0.mk ((by rw [hg]; exact Nat.ne_of_gt (blk_lt (g := gb245) (o := .cells #[.int .i64 a0_0, .int .i64 a0_1, .int .i64 a0_2, .string a0_3, .int .i64 a0_4, .int .i64 a0_5, .string a0_6] 61 (0, 0)) (by (with_reducible repeat (first | refine blk_drewN ?_ _ | refine blk_drew ?_ | refine blk_alloc ?_ _)); exact BK245.out)) : gb246 ≠ gb245)); clear BK245; clear HB; have BK245 := n0_; have HB := n1_; have BK246 := n2_; have GW246 := n3_; have GE246 := n4_; have NB245_246 := n5_; have NB246_245 := n6_; clear n0_ n1_ n2_ n3_ n4_ n5_ n6_; clear hb hbox hg; have hnb17 := NB245_246.out; have hnc17 := NB246_245.out; have hcz18_0 : w16.cell? ⟨gb245, 0, none⟩ = some (.int .i64 a0_0) := (blk_cell BK245.out 0).trans rfl; have hcz18_1 : w16.cell? ⟨gb245, 1, none⟩ = some (.int .i64 a0_1) := (blk_cell BK245.out 1).trans rfl; have hcz18_2 : w16.cell? ⟨gb245, 2, none⟩ = some (.int .i64 a0_2) := (blk_cell BK245.out 2).trans rfl; have hcz18_3 : w16.cell? ⟨gb245, 3, none⟩ = some (.string a0_3) := (blk_cell BK245.out 3).trans rfl; have hcz18_4 : w16.cell? ⟨gb245, 4, none⟩ = some (.int .i64 a0_4) := (blk_cell BK245.out 4).trans rfl; have hcz18_5 : w16.cell? ⟨gb245, 5, none⟩ = some (.int .i64 a0_5) := (blk_cell BK245.out 5).trans rfl; have hcz18_6 : w16.cell? ⟨gb245, 6, none⟩ = some (.string a0_6) := (blk_cell BK245.out 6).trans rfl; have hfz18_0 := blk_frozen BK245.out 0; have hfz18_1 := blk_frozen BK245.out 1; have hfz18_2 := blk_frozen BK245.out 2; have hfz18_3 := blk_frozen BK245.out 3; have hfz18_4 := blk_frozen BK245.out 4; have hfz18_5 := blk_frozen BK245.out 5; have hfz18_6 := blk_frozen BK245.out 6; have hcz19_0 : w16.cell? ⟨gb246, 0, none⟩ = some (.int .i64 a1_0) := (blk_cell BK246.out 0).trans rfl; have hcz19_1 : w16.cell? ⟨gb246, 1, none⟩ = some (.int .i64 a1_1) := (blk_cell BK246.out 1).trans rfl; have hcz19_2 : w16.cell? ⟨gb246, 2, none⟩ = some (.int .i64 a1_2) := (blk_cell BK246.out 2).trans rfl; have hcz19_3 : w16.cell? ⟨gb246, 3, none⟩ = some (.string a1_3) := (blk_cell BK246.out 3).trans rfl; have hcz19_4 : w16.cell? ⟨gb246, 4, none⟩ = some (.int .i64 a1_4) := (blk_cell BK246.out 4).trans rfl; have hcz19_5 : w16.cell? ⟨gb246, 5, none⟩ = some (.int .i64 a1_5) := (blk_cell BK246.out 5).trans rfl; have hcz19_6 : w16.cell? ⟨gb246, 6, none⟩ = some (.string a1_6) := (blk_cell BK246.out 6).trans rfl; have hfz19_0 := blk_frozen BK246.out 0; have hfz19_1 := blk_frozen BK246.out 1; have hfz19_2 := blk_frozen BK246.out 2; have hfz19_3 := blk_frozen BK246.out 3; have hfz19_4 := blk_frozen BK246.out 4; have hfz19_5 := blk_frozen BK246.out 5; have hfz19_6 := blk_frozen BK246.out 6) | ((with_reducible refine gate_callee (f := 50) rfl ?_); refine goesL_ (some 29) rfl rfl Try.func50 (by kernel_rfl) rfl #[.agg #[.int .i64 a0_4, .int .i64 a0_5, .string a0_6], .agg #[.int .i64 a1_4, .int .i64 a1_5, .string a1_6]] rfl (by (try simp only [List.map_toArray, List.map_cons, List.map_nil]); first | done | rfl | (simp only [List.length_drop, List.length_take]; rfl)) ?_; (with_reducible refine (laws_eqValue.calls a0_4 a0_5 a0_6 a1_4 a1_5 a1_6 false _ A7.out).mono ?_); rintro e w20 ⟨rfl, hb⟩; refine ⟨_, rfl, ?_⟩; have n0_ := Aside0.mk (blk_below (g := gb245) (o := .cells #[.int .i64 a0_0, .int .i64 a0_1, .int .i64 a0_2, .string a0_3, .int .i64 a0_4, .int .i64 a0_5, .string a0_6] 61 (0, 0)) (by (with_reducible repeat (first | refine blk_drewN ?_ _ | refine blk_drew ?_ | refine blk_alloc ?_ _)); exact BK245.out) hb); have n1_ := Aside0.mk (blk_below (g := gb246) (o := .cells #[.int .i64 a1_0, .int .i64 a1_1, .int .i64 a1_2, .string a1_3, .int .i64 a1_4, .int .i64 a1_5, .string a1_6] 61 (0, 0)) (by (with_reducible repeat (first | refine blk_drewN ?_ _ | refine blk_drew ?_ | refine blk_alloc ?_ _)); exact BK246.out) hb); have n2_ := Aside0.mk (below_step (by repeat (first | (with_reducible first | exact HB.out | apply below_alloc | apply pw_below_drewN | apply below_drew1 | refine below_set ?_ GE245.out | refine below_set ?_ GE246.out) | exact HB.out)) hb); clear BK245; clear BK246; clear HB; have BK245 := n0_; have BK246 := n1_; have HB := n2_; clear n0_ n1_ n2_; (try clear hb); (try clear hb2); (try clear hk); (try clear hi)))
            go_ret
            exact ⟨by first | rfl | exact My.ret_isEmpty _ | (simp [errW_none, errW_some] <;> rfl) | (simp [*, errW_none, errW_some] <;> rfl), by repeat (first | (with_reducible first | exact HB.out | apply below_alloc | apply pw_below_drewN | apply below_drew1 | refine below_set ?_ GE245.out | refine below_set ?_ GE246.out) | exact HB.out)⟩
        · rw [if_neg c6] at H
          have c6b0 : (a0_3.toList == a1_3.toList) = false := beq_eq_false_iff_ne.mpr c6
          have c6b1 : (a0_3.toList != a1_3.toList) = true := bne_iff_ne.mpr c6
          obtain rfl := Option.some.inj H
          go_enter Try.func121, Try.ntmps121
          go_wp2_with (first | ((with_reducible refine gate_dst (N := 2) rfl ?_); refine box_event ?hg (N := 2) ?hd (cs := #[.int .i64 a0_0, .int .i64 a0_1, .int .i64 a0_2, .string a0_3, .int .i64 a0_4, .int .i64 a0_5, .string a0_6]) (t := 61) ?hr ?_; (case hd => rfl); (case hg => rfl); (case hr => first | (go_simp; done) | (go_simp; rfl)); intro gb245 hg w21 hbox hb; have n0_ := Aside0.mk (below_step (by repeat (first | (with_reducible first | exact HB.out | apply below_alloc | apply pw_below_drewN | apply below_drew1) | exact HB.out)) hb); have n1_ := Aside0.mk (hbox); have n2_ := Aside0.mk ((by rw [hg]; exact (below_size (by repeat (first | (with_reducible first | exact HB.out | apply below_alloc | apply pw_below_drewN | apply below_drew1) | exact HB.out))) : w.heap.size ≤ gb245)); have n3_ := Aside0.mk ((by rw [hg]; exact (below_size (by repeat (first | (with_reducible first | exact HB.out | apply below_alloc | apply pw_below_drewN | apply below_drew1) | exact HB.out))) : w.heap.size ≤ gb245)); clear HB; have HB := n0_; have BK245 := n1_; have GW245 := n2_; have GE245 := n3_; clear n0_ n1_ n2_ n3_; clear hb hbox hg) | ((with_reducible refine gate_dst (N := 3) rfl ?_); refine box_event ?hg (N := 3) ?hd (cs := #[.int .i64 a1_0, .int .i64 a1_1, .int .i64 a1_2, .string a1_3, .int .i64 a1_4, .int .i64 a1_5, .string a1_6]) (t := 61) ?hr ?_; (case hd => rfl); (case hg => rfl); (case hr => first | (go_simp; done) | (go_simp; rfl)); intro gb246 hg w22 hbox hb; have n0_ := Aside0.mk (blk_below (g := gb245) (o := .cells #[.int .i64 a0_0, .int .i64 a0_1, .int .i64 a0_2, .string a0_3, .int .i64 a0_4, .int .i64 a0_5, .string a0_6] 61 (0, 0)) (by (with_reducible repeat (first | refine blk_drewN ?_ _ | refine blk_drew ?_ | refine blk_alloc ?_ _)); exact BK245.out) hb); have n1_ := Aside0.mk (below_step (by repeat (first | (with_reducible first | exact HB.out | apply below_alloc | apply pw_below_drewN | apply below_drew1 | refine below_set ?_ GE245.out) | exact HB.out)) hb); have n2_ := Aside0.mk (hbox); have n3_ := Aside0.mk ((by rw [hg]; exact (below_size (by repeat (first | (with_reducible first | exact HB.out | apply below_alloc | apply pw_below_drewN | apply below_drew1 | refine below_set ?_ GE245.out) | exact HB.out))) : w.heap.size ≤ gb246)); have n4_ := Aside0.mk ((by rw [hg]; exact (below_size (by repeat (first | (with_reducible first | exact HB.out | apply below_alloc | apply pw_below_drewN | apply below_drew1 | refine below_set ?_ GE245.out) | exact HB.out))) : w.heap.size ≤ gb246)); have n5_ := Aside0.mk ((by rw [hg]; exact Nat.ne_of_lt (blk_lt (g := gb245) (o := .cells #[.int .i64 a0_0, .int .i64 a0_1, .int .i64 a0_2, .string a0_3, .int .i64 a0_4, .int .i64 a0_5, .string a0_6] 61 (0, 0)) (by (with_reducible repeat (first | refine blk_drewN ?_ _ | refine blk_drew ?_ | refine blk_alloc ?_ _)); exact BK245.out)) : gb245 ≠ gb246)); have n6_ := Aside0.mk ((by rw [hg]; exact Nat.ne_of_gt (blk_lt (g := gb245) (o := .cells #[.int .i64 a0_0, .int .i64 a0_1, .int .i64 a0_2, .string a0_3, .int .i64 a0_4, .int .i64 a0_5, .string a0_6] 61 (0, 0)) (by (with_reducible repeat (first | refine blk_drewN ?_ _ | refine blk_drew ?_ | refine blk_alloc ?_ _)); exact BK245.out)) : gb246 ≠ gb245)); clear BK245; clear HB; have BK245 := n0_; have HB := n1_; have BK246 := n2_; have GW246 := n3_; have GE246 := n4_; have NB245_246 := n5_; have NB246_245 := n6_; clear n0_ n1_ n2_ n3_ n4_ n5_ n6_; clear hb hbox hg; have hnb23 := NB245_246.out; have hnc23 := NB246_245.out; have hcz24_0 : w22.cell? ⟨gb245, 0, none⟩ = some (.int .i64 a0_0) := (blk_cell BK245.out 0).trans rfl; have hcz24_1 : w22.cell? ⟨gb245, 1, none⟩ = some (.int .i64 a0_1) := (blk_cell BK245.out 1).trans rfl; have hcz24_2 : w22.cell? ⟨gb245, 2, none⟩ = some (.int .i64 a0_2) := (blk_cell BK245.out 2).trans rfl; have hcz24_3 : w22.cell? ⟨gb245, 3, none⟩ = some (.string a0_3) := (blk_cell BK245.out 3).trans rfl; have hcz24_4 : w22.cell? ⟨gb245, 4, none⟩ = some (.int .i64 a0_4) := (blk_cell BK245.out 4).trans rfl; have hcz24_5 : w22.cell? ⟨gb245, 5, none⟩ = some (.int .i64 a0_5) := (blk_cell BK245.out 5).trans rfl; have hcz24_6 : w22.cell? ⟨gb245, 6, none⟩ = some (.string a0_6) := (blk_cell BK245.out 6).trans rfl; have hfz24_0 := blk_frozen BK245.out 0; have hfz24_1 := blk_frozen BK245.out 1; have hfz24_2 := blk_frozen BK245.out 2; have hfz24_3 := blk_frozen BK245.out 3; have hfz24_4 := blk_frozen BK245.out 4; have hfz24_5 := blk_frozen BK245.out 5; have hfz24_6 := blk_frozen BK245.out 6; have hcz25_0 : w22.cell? ⟨gb246, 0, none⟩ = some (.int .i64 a1_0) := (blk_cell BK246.out 0).trans rfl; have hcz25_1 : w22.cell? ⟨gb246, 1, none⟩ = some (.int .i64 a1_1) := (blk_cell BK246.out 1).trans rfl; have hcz25_2 : w22.cell? ⟨gb246, 2, none⟩ = some (.int .i64 a1_2) := (blk_cell BK246.out 2).trans rfl; have hcz25_3 : w22.cell? ⟨gb246, 3, none⟩ = some (.string a1_3) := (blk_cell BK246.out 3).trans rfl; have hcz25_4 : w22.cell? ⟨gb246, 4, none⟩ = some (.int .i64 a1_4) := (blk_cell BK246.out 4).trans rfl; have hcz25_5 : w22.cell? ⟨gb246, 5, none⟩ = some (.int .i64 a1_5) := (blk_cell BK246.out 5).trans rfl; have hcz25_6 : w22.cell? ⟨gb246, 6, none⟩ = some (.string a1_6) := (blk_cell BK246.out 6).trans rfl; have hfz25_0 := blk_frozen BK246.out 0; have hfz25_1 := blk_frozen BK246.out 1; have hfz25_2 := blk_frozen BK246.out 2; have hfz25_3 := blk_frozen BK246.out 3; have hfz25_4 := blk_frozen BK246.out 4; have hfz25_5 := blk_frozen BK246.out 5; have hfz25_6 := blk_frozen BK246.out 6))
          go_ret
          exact ⟨by first | rfl | exact My.ret_isEmpty _ | (simp [errW_none, errW_some] <;> rfl) | (simp [*, errW_none, errW_some] <;> rfl), by repeat (first | (with_reducible first | exact HB.out | apply below_alloc | apply pw_below_drewN | apply below_drew1 | refine below_set ?_ GE245.out | refine below_set ?_ GE246.out) | exact HB.out)⟩
      · rw [if_neg c5] at H
        have c5b0 : (a0_2 == a1_2) = false := beq_eq_false_iff_ne.mpr c5
        have c5b1 : (a0_2 != a1_2) = true := bne_iff_ne.mpr c5
        obtain rfl := Option.some.inj H
        go_enter Try.func121, Try.ntmps121
        go_wp2_with (first | ((with_reducible refine gate_dst (N := 2) rfl ?_); refine box_event ?hg (N := 2) ?hd (cs := #[.int .i64 a0_0, .int .i64 a0_1, .int .i64 a0_2, .string a0_3, .int .i64 a0_4, .int .i64 a0_5, .string a0_6]) (t := 61) ?hr ?_; (case hd => rfl); (case hg => rfl); (case hr => first | (go_simp; done) | (go_simp; rfl)); intro gb245 hg w26 hbox hb; have n0_ := Aside0.mk (below_step (by repeat (first | (with_reducible first | exact HB.out | apply below_alloc | apply pw_below_drewN | apply below_drew1) | exact HB.out)) hb); have n1_ := Aside0.mk (hbox); have n2_ := Aside0.mk ((by rw [hg]; exact (below_size (by repeat (first | (with_reducible first | exact HB.out | apply below_alloc | apply pw_below_drewN | apply below_drew1) | exact HB.out))) : w.heap.size ≤ gb245)); have n3_ := Aside0.mk ((by rw [hg]; exact (below_size (by repeat (first | (with_reducible first | exact HB.out | apply below_alloc | apply pw_below_drewN | apply below_drew1) | exact HB.out))) : w.heap.size ≤ gb245)); clear HB; have HB := n0_; have BK245 := n1_; have GW245 := n2_; have GE245 := n3_; clear n0_ n1_ n2_ n3_; clear hb hbox hg) | ((with_reducible refine gate_dst (N := 3) rfl ?_); refine box_event ?hg (N := 3) ?hd (cs := #[.int .i64 a1_0, .int .i64 a1_1, .int .i64 a1_2, .string a1_3, .int .i64 a1_4, .int .i64 a1_5, .string a1_6]) (t := 61) ?hr ?_; (case hd => rfl); (case hg => rfl); (case hr => first | (go_simp; done) | (go_simp; rfl)); intro gb246 hg w27 hbox hb; have n0_ := Aside0.mk (blk_below (g := gb245) (o := .cells #[.int .i64 a0_0, .int .i64 a0_1, .int .i64 a0_2, .string a0_3, .int .i64 a0_4, .int .i64 a0_5, .string a0_6] 61 (0, 0)) (by (with_reducible repeat (first | refine blk_drewN ?_ _ | refine blk_drew ?_ | refine blk_alloc ?_ _)); exact BK245.out) hb); have n1_ := Aside0.mk (below_step (by repeat (first | (with_reducible first | exact HB.out | apply below_alloc | apply pw_below_drewN | apply below_drew1 | refine below_set ?_ GE245.out) | exact HB.out)) hb); have n2_ := Aside0.mk (hbox); have n3_ := Aside0.mk ((by rw [hg]; exact (below_size (by repeat (first | (with_reducible first | exact HB.out | apply below_alloc | apply pw_below_drewN | apply below_drew1 | refine below_set ?_ GE245.out) | exact HB.out))) : w.heap.size ≤ gb246)); have n4_ := Aside0.mk ((by rw [hg]; exact (below_size (by repeat (first | (with_reducible first | exact HB.out | apply below_alloc | apply pw_below_drewN | apply below_drew1 | refine below_set ?_ GE245.out) | exact HB.out))) : w.heap.size ≤ gb246)); have n5_ := Aside0.mk ((by rw [hg]; exact Nat.ne_of_lt (blk_lt (g := gb245) (o := .cells #[.int .i64 a0_0, .int .i64 a0_1, .int .i64 a0_2, .string a0_3, .int .i64 a0_4, .int .i64 a0_5, .string a0_6] 61 (0, 0)) (by (with_reducible repeat (first | refine blk_drewN ?_ _ | refine blk_drew ?_ | refine blk_alloc ?_ _)); exact BK245.out)) : gb245 ≠ gb246)); have n6_ := Aside0.mk ((by rw [hg]; exact Nat.ne_of_gt (blk_lt (g := gb245) (o := .cells #[.int .i64 a0_0, .int .i64 a0_1, .int .i64 a0_2, .string a0_3, .int .i64 a0_4, .int .i64 a0_5, .string a0_6] 61 (0, 0)) (by (with_reducible repeat (first | refine blk_drewN ?_ _ | refine blk_drew ?_ | refine blk_alloc ?_ _)); exact BK245.out)) : gb246 ≠ gb245)); clear BK245; clear HB; have BK245 := n0_; have HB := n1_; have BK246 := n2_; have GW246 := n3_; have GE246 := n4_; have NB245_246 := n5_; have NB246_245 := n6_; clear n0_ n1_ n2_ n3_ n4_ n5_ n6_; clear hb hbox hg; have hnb28 := NB245_246.out; have hnc28 := NB246_245.out; have hcz29_0 : w27.cell? ⟨gb245, 0, none⟩ = some (.int .i64 a0_0) := (blk_cell BK245.out 0).trans rfl; have hcz29_1 : w27.cell? ⟨gb245, 1, none⟩ = some (.int .i64 a0_1) := (blk_cell BK245.out 1).trans rfl; have hcz29_2 : w27.cell? ⟨gb245, 2, none⟩ = some (.int .i64 a0_2) := (blk_cell BK245.out 2).trans rfl; have hcz29_3 : w27.cell? ⟨gb245, 3, none⟩ = some (.string a0_3) := (blk_cell BK245.out 3).trans rfl; have hcz29_4 : w27.cell? ⟨gb245, 4, none⟩ = some (.int .i64 a0_4) := (blk_cell BK245.out 4).trans rfl; have hcz29_5 : w27.cell? ⟨gb245, 5, none⟩ = some (.int .i64 a0_5) := (blk_cell BK245.out 5).trans rfl; have hcz29_6 : w27.cell? ⟨gb245, 6, none⟩ = some (.string a0_6) := (blk_cell BK245.out 6).trans rfl; have hfz29_0 := blk_frozen BK245.out 0; have hfz29_1 := blk_frozen BK245.out 1; have hfz29_2 := blk_frozen BK245.out 2; have hfz29_3 := blk_frozen BK245.out 3; have hfz29_4 := blk_frozen BK245.out 4; have hfz29_5 := blk_frozen BK245.out 5; have hfz29_6 := blk_frozen BK245.out 6; have hcz30_0 : w27.cell? ⟨gb246, 0, none⟩ = some (.int .i64 a1_0) := (blk_cell BK246.out 0).trans rfl; have hcz30_1 : w27.cell? ⟨gb246, 1, none⟩ = some (.int .i64 a1_1) := (blk_cell BK246.out 1).trans rfl; have hcz30_2 : w27.cell? ⟨gb246, 2, none⟩ = some (.int .i64 a1_2) := (blk_cell BK246.out 2).trans rfl; have hcz30_3 : w27.cell? ⟨gb246, 3, none⟩ = some (.string a1_3) := (blk_cell BK246.out 3).trans rfl; have hcz30_4 : w27.cell? ⟨gb246, 4, none⟩ = some (.int .i64 a1_4) := (blk_cell BK246.out 4).trans rfl; have hcz30_5 : w27.cell? ⟨gb246, 5, none⟩ = some (.int .i64 a1_5) := (blk_cell BK246.out 5).trans rfl; have hcz30_6 : w27.cell? ⟨gb246, 6, none⟩ = some (.string a1_6) := (blk_cell BK246.out 6).trans rfl; have hfz30_0 := blk_frozen BK246.out 0; have hfz30_1 := blk_frozen BK246.out 1; have hfz30_2 := blk_frozen BK246.out 2; have hfz30_3 := blk_frozen BK246.out 3; have hfz30_4 := blk_frozen BK246.out 4; have hfz30_5 := blk_frozen BK246.out 5; have hfz30_6 := blk_frozen BK246.out 6))
        go_ret
        exact ⟨by first | rfl | exact My.ret_isEmpty _ | (simp [errW_none, errW_some] <;> rfl) | (simp [*, errW_none, errW_some] <;> rfl), by repeat (first | (with_reducible first | exact HB.out | apply below_alloc | apply pw_below_drewN | apply below_drew1 | refine below_set ?_ GE245.out | refine below_set ?_ GE246.out) | exact HB.out)⟩
    · rw [if_neg c4] at H
      have c4b0 : (a0_1 == a1_1) = false := beq_eq_false_iff_ne.mpr c4
      have c4b1 : (a0_1 != a1_1) = true := bne_iff_ne.mpr c4
      obtain rfl := Option.some.inj H
      go_enter Try.func121, Try.ntmps121
      go_wp2_with (first | ((with_reducible refine gate_dst (N := 2) rfl ?_); refine box_event ?hg (N := 2) ?hd (cs := #[.int .i64 a0_0, .int .i64 a0_1, .int .i64 a0_2, .string a0_3, .int .i64 a0_4, .int .i64 a0_5, .string a0_6]) (t := 61) ?hr ?_; (case hd => rfl); (case hg => rfl); (case hr => first | (go_simp; done) | (go_simp; rfl)); intro gb245 hg w31 hbox hb; have n0_ := Aside0.mk (below_step (by repeat (first | (with_reducible first | exact HB.out | apply below_alloc | apply pw_below_drewN | apply below_drew1) | exact HB.out)) hb); have n1_ := Aside0.mk (hbox); have n2_ := Aside0.mk ((by rw [hg]; exact (below_size (by repeat (first | (with_reducible first | exact HB.out | apply below_alloc | apply pw_below_drewN | apply below_drew1) | exact HB.out))) : w.heap.size ≤ gb245)); have n3_ := Aside0.mk ((by rw [hg]; exact (below_size (by repeat (first | (with_reducible first | exact HB.out | apply below_alloc | apply pw_below_drewN | apply below_drew1) | exact HB.out))) : w.heap.size ≤ gb245)); clear HB; have HB := n0_; have BK245 := n1_; have GW245 := n2_; have GE245 := n3_; clear n0_ n1_ n2_ n3_; clear hb hbox hg) | ((with_reducible refine gate_dst (N := 3) rfl ?_); refine box_event ?hg (N := 3) ?hd (cs := #[.int .i64 a1_0, .int .i64 a1_1, .int .i64 a1_2, .string a1_3, .int .i64 a1_4, .int .i64 a1_5, .string a1_6]) (t := 61) ?hr ?_; (case hd => rfl); (case hg => rfl); (case hr => first | (go_simp; done) | (go_simp; rfl)); intro gb246 hg w32 hbox hb; have n0_ := Aside0.mk (blk_below (g := gb245) (o := .cells #[.int .i64 a0_0, .int .i64 a0_1, .int .i64 a0_2, .string a0_3, .int .i64 a0_4, .int .i64 a0_5, .string a0_6] 61 (0, 0)) (by (with_reducible repeat (first | refine blk_drewN ?_ _ | refine blk_drew ?_ | refine blk_alloc ?_ _)); exact BK245.out) hb); have n1_ := Aside0.mk (below_step (by repeat (first | (with_reducible first | exact HB.out | apply below_alloc | apply pw_below_drewN | apply below_drew1 | refine below_set ?_ GE245.out) | exact HB.out)) hb); have n2_ := Aside0.mk (hbox); have n3_ := Aside0.mk ((by rw [hg]; exact (below_size (by repeat (first | (with_reducible first | exact HB.out | apply below_alloc | apply pw_below_drewN | apply below_drew1 | refine below_set ?_ GE245.out) | exact HB.out))) : w.heap.size ≤ gb246)); have n4_ := Aside0.mk ((by rw [hg]; exact (below_size (by repeat (first | (with_reducible first | exact HB.out | apply below_alloc | apply pw_below_drewN | apply below_drew1 | refine below_set ?_ GE245.out) | exact HB.out))) : w.heap.size ≤ gb246)); have n5_ := Aside0.mk ((by rw [hg]; exact Nat.ne_of_lt (blk_lt (g := gb245) (o := .cells #[.int .i64 a0_0, .int .i64 a0_1, .int .i64 a0_2, .string a0_3, .int .i64 a0_4, .int .i64 a0_5, .string a0_6] 61 (0, 0)) (by (with_reducible repeat (first | refine blk_drewN ?_ _ | refine blk_drew ?_ | refine blk_alloc ?_ _)); exact BK245.out)) : gb245 ≠ gb246)); have n6_ := Aside0.mk ((by rw [hg]; exact Nat.ne_of_gt (blk_lt (g := gb245) (o := .cells #[.int .i64 a0_0, .int .i64 a0_1, .int .i64 a0_2, .string a0_3, .int .i64 a0_4, .int .i64 a0_5, .string a0_6] 61 (0, 0)) (by (with_reducible repeat (first | refine blk_drewN ?_ _ | refine blk_drew ?_ | refine blk_alloc ?_ _)); exact BK245.out)) : gb246 ≠ gb245)); clear BK245; clear HB; have BK245 := n0_; have HB := n1_; have BK246 := n2_; have GW246 := n3_; have GE246 := n4_; have NB245_246 := n5_; have NB246_245 := n6_; clear n0_ n1_ n2_ n3_ n4_ n5_ n6_; clear hb hbox hg; have hnb33 := NB245_246.out; have hnc33 := NB246_245.out; have hcz34_0 : w32.cell? ⟨gb245, 0, none⟩ = some (.int .i64 a0_0) := (blk_cell BK245.out 0).trans rfl; have hcz34_1 : w32.cell? ⟨gb245, 1, none⟩ = some (.int .i64 a0_1) := (blk_cell BK245.out 1).trans rfl; have hcz34_2 : w32.cell? ⟨gb245, 2, none⟩ = some (.int .i64 a0_2) := (blk_cell BK245.out 2).trans rfl; have hcz34_3 : w32.cell? ⟨gb245, 3, none⟩ = some (.string a0_3) := (blk_cell BK245.out 3).trans rfl; have hcz34_4 : w32.cell? ⟨gb245, 4, none⟩ = some (.int .i64 a0_4) := (blk_cell BK245.out 4).trans rfl; have hcz34_5 : w32.cell? ⟨gb245, 5, none⟩ = some (.int .i64 a0_5) := (blk_cell BK245.out 5).trans rfl; have hcz34_6 : w32.cell? ⟨gb245, 6, none⟩ = some (.string a0_6) := (blk_cell BK245.out 6).trans rfl; have hfz34_0 := blk_frozen BK245.out 0; have hfz34_1 := blk_frozen BK245.out 1; have hfz34_2 := blk_frozen BK245.out 2; have hfz34_3 := blk_frozen BK245.out 3; have hfz34_4 := blk_frozen BK245.out 4; have hfz34_5 := blk_frozen BK245.out 5; have hfz34_6 := blk_frozen BK245.out 6; have hcz35_0 : w32.cell? ⟨gb246, 0, none⟩ = some (.int .i64 a1_0) := (blk_cell BK246.out 0).trans rfl; have hcz35_1 : w32.cell? ⟨gb246, 1, none⟩ = some (.int .i64 a1_1) := (blk_cell BK246.out 1).trans rfl; have hcz35_2 : w32.cell? ⟨gb246, 2, none⟩ = some (.int .i64 a1_2) := (blk_cell BK246.out 2).trans rfl; have hcz35_3 : w32.cell? ⟨gb246, 3, none⟩ = some (.string a1_3) := (blk_cell BK246.out 3).trans rfl; have hcz35_4 : w32.cell? ⟨gb246, 4, none⟩ = some (.int .i64 a1_4) := (blk_cell BK246.out 4).trans rfl; have hcz35_5 : w32.cell? ⟨gb246, 5, none⟩ = some (.int .i64 a1_5) := (blk_cell BK246.out 5).trans rfl; have hcz35_6 : w32.cell? ⟨gb246, 6, none⟩ = some (.string a1_6) := (blk_cell BK246.out 6).trans rfl; have hfz35_0 := blk_frozen BK246.out 0; have hfz35_1 := blk_frozen BK246.out 1; have hfz35_2 := blk_frozen BK246.out 2; have hfz35_3 := blk_frozen BK246.out 3; have hfz35_4 := blk_frozen BK246.out 4; have hfz35_5 := blk_frozen BK246.out 5; have hfz35_6 := blk_frozen BK246.out 6))
      go_ret
      exact ⟨by first | rfl | exact My.ret_isEmpty _ | (simp [errW_none, errW_some] <;> rfl) | (simp [*, errW_none, errW_some] <;> rfl), by repeat (first | (with_reducible first | exact HB.out | apply below_alloc | apply pw_below_drewN | apply below_drew1 | refine below_set ?_ GE245.out | refine below_set ?_ GE246.out) | exact HB.out)⟩
  · rw [if_neg c3] at H
    have c3b0 : (a0_0 == a1_0) = false := beq_eq_false_iff_ne.mpr c3
    have c3b1 : (a0_0 != a1_0) = true := bne_iff_ne.mpr c3
    obtain rfl := Option.some.inj H
    go_enter Try.func121, Try.ntmps121
    go_wp2_with (first | ((with_reducible refine gate_dst (N := 2) rfl ?_); refine box_event ?hg (N := 2) ?hd (cs := #[.int .i64 a0_0, .int .i64 a0_1, .int .i64 a0_2, .string a0_3, .int .i64 a0_4, .int .i64 a0_5, .string a0_6]) (t := 61) ?hr ?_; (case hd => rfl); (case hg => rfl); (case hr => first | (go_simp; done) | (go_simp; rfl)); intro gb245 hg w36 hbox hb; have n0_ := Aside0.mk (below_step (by repeat (first | (with_reducible first | exact HB.out | apply below_alloc | apply pw_below_drewN | apply below_drew1) | exact HB.out)) hb); have n1_ := Aside0.mk (hbox); have n2_ := Aside0.mk ((by rw [hg]; exact (below_size (by repeat (first | (with_reducible first | exact HB.out | apply below_alloc | apply pw_below_drewN | apply below_drew1) | exact HB.out))) : w.heap.size ≤ gb245)); have n3_ := Aside0.mk ((by rw [hg]; exact (below_size (by repeat (first | (with_reducible first | exact HB.out | apply below_alloc | apply pw_below_drewN | apply below_drew1) | exact HB.out))) : w.heap.size ≤ gb245)); clear HB; have HB := n0_; have BK245 := n1_; have GW245 := n2_; have GE245 := n3_; clear n0_ n1_ n2_ n3_; clear hb hbox hg) | ((with_reducible refine gate_dst (N := 3) rfl ?_); refine box_event ?hg (N := 3) ?hd (cs := #[.int .i64 a1_0, .int .i64 a1_1, .int .i64 a1_2, .string a1_3, .int .i64 a1_4, .int .i64 a1_5, .string a1_6]) (t := 61) ?hr ?_; (case hd => rfl); (case hg => rfl); (case hr => first | (go_simp; done) | (go_simp; rfl)); intro gb246 hg w37 hbox hb; have n0_ := Aside0.mk (blk_below (g := gb245) (o := .cells #[.int .i64 a0_0, .int .i64 a0_1, .int .i64 a0_2, .string a0_3, .int .i64 a0_4, .int .i64 a0_5, .string a0_6] 61 (0, 0)) (by (with_reducible repeat (first | refine blk_drewN ?_ _ | refine blk_drew ?_ | refine blk_alloc ?_ _)); exact BK245.out) hb); have n1_ := Aside0.mk (below_step (by repeat (first | (with_reducible first | exact HB.out | apply below_alloc | apply pw_below_drewN | apply below_drew1 | refine below_set ?_ GE245.out) | exact HB.out)) hb); have n2_ := Aside0.mk (hbox); have n3_ := Aside0.mk ((by rw [hg]; exact (below_size (by repeat (first | (with_reducible first | exact HB.out | apply below_alloc | apply pw_below_drewN | apply below_drew1 | refine below_set ?_ GE245.out) | exact HB.out))) : w.heap.size ≤ gb246)); have n4_ := Aside0.mk ((by rw [hg]; exact (below_size (by repeat (first | (with_reducible first | exact HB.out | apply below_alloc | apply pw_below_drewN | apply below_drew1 | refine below_set ?_ GE245.out) | exact HB.out))) : w.heap.size ≤ gb246)); have n5_ := Aside0.mk ((by rw [hg]; exact Nat.ne_of_lt (blk_lt (g := gb245) (o := .cells #[.int .i64 a0_0, .int .i64 a0_1, .int .i64 a0_2, .string a0_3, .int .i64 a0_4, .int .i64 a0_5, .string a0_6] 61 (0, 0)) (by (with_reducible repeat (first | refine blk_drewN ?_ _ | refine blk_drew ?_ | refine blk_alloc ?_ _)); exact BK245.out)) : gb245 ≠ gb246)); have n6_ := Aside0.mk ((by rw [hg]; exact Nat.ne_of_gt (blk_lt (g := gb245) (o := .cells #[.int .i64 a0_0, .int .i64 a0_1, .int .i64 a0_2, .string a0_3, .int .i64 a0_4, .int .i64 a0_5, .string a0_6] 61 (0, 0)) (by (with_reducible repeat (first | refine blk_drewN ?_ _ | refine blk_drew ?_ | refine blk_alloc ?_ _)); exact BK245.out)) : gb246 ≠ gb245)); clear BK245; clear HB; have BK245 := n0_; have HB := n1_; have BK246 := n2_; have GW246 := n3_; have GE246 := n4_; have NB245_246 := n5_; have NB246_245 := n6_; clear n0_ n1_ n2_ n3_ n4_ n5_ n6_; clear hb hbox hg; have hnb38 := NB245_246.out; have hnc38 := NB246_245.out; have hcz39_0 : w37.cell? ⟨gb245, 0, none⟩ = some (.int .i64 a0_0) := (blk_cell BK245.out 0).trans rfl; have hcz39_1 : w37.cell? ⟨gb245, 1, none⟩ = some (.int .i64 a0_1) := (blk_cell BK245.out 1).trans rfl; have hcz39_2 : w37.cell? ⟨gb245, 2, none⟩ = some (.int .i64 a0_2) := (blk_cell BK245.out 2).trans rfl; have hcz39_3 : w37.cell? ⟨gb245, 3, none⟩ = some (.string a0_3) := (blk_cell BK245.out 3).trans rfl; have hcz39_4 : w37.cell? ⟨gb245, 4, none⟩ = some (.int .i64 a0_4) := (blk_cell BK245.out 4).trans rfl; have hcz39_5 : w37.cell? ⟨gb245, 5, none⟩ = some (.int .i64 a0_5) := (blk_cell BK245.out 5).trans rfl; have hcz39_6 : w37.cell? ⟨gb245, 6, none⟩ = some (.string a0_6) := (blk_cell BK245.out 6).trans rfl; have hfz39_0 := blk_frozen BK245.out 0; have hfz39_1 := blk_frozen BK245.out 1; have hfz39_2 := blk_frozen BK245.out 2; have hfz39_3 := blk_frozen BK245.out 3; have hfz39_4 := blk_frozen BK245.out 4; have hfz39_5 := blk_frozen BK245.out 5; have hfz39_6 := blk_frozen BK245.out 6; have hcz40_0 : w37.cell? ⟨gb246, 0, none⟩ = some (.int .i64 a1_0) := (blk_cell BK246.out 0).trans rfl; have hcz40_1 : w37.cell? ⟨gb246, 1, none⟩ = some (.int .i64 a1_1) := (blk_cell BK246.out 1).trans rfl; have hcz40_2 : w37.cell? ⟨gb246, 2, none⟩ = some (.int .i64 a1_2) := (blk_cell BK246.out 2).trans rfl; have hcz40_3 : w37.cell? ⟨gb246, 3, none⟩ = some (.string a1_3) := (blk_cell BK246.out 3).trans rfl; have hcz40_4 : w37.cell? ⟨gb246, 4, none⟩ = some (.int .i64 a1_4) := (blk_cell BK246.out 4).trans rfl; have hcz40_5 : w37.cell? ⟨gb246, 5, none⟩ = some (.int .i64 a1_5) := (blk_cell BK246.out 5).trans rfl; have hcz40_6 : w37.cell? ⟨gb246, 6, none⟩ = some (.string a1_6) := (blk_cell BK246.out 6).trans rfl; have hfz40_0 := blk_frozen BK246.out 0; have hfz40_1 := blk_frozen BK246.out 1; have hfz40_2 := blk_frozen BK246.out 2; have hfz40_3 := blk_frozen BK246.out 3; have hfz40_4 := blk_frozen BK246.out 4; have hfz40_5 := blk_frozen BK246.out 5; have hfz40_6 := blk_frozen BK246.out 6))
    go_ret
    exact ⟨by first | rfl | exact My.ret_isEmpty _ | (simp [errW_none, errW_some] <;> rfl) | (simp [*, errW_none, errW_some] <;> rfl), by repeat (first | (with_reducible first | exact HB.out | apply below_alloc | apply pw_below_drewN | apply below_drew1 | refine below_set ?_ GE245.out | refine below_set ?_ GE246.out) | exact HB.out)⟩

end Go.Proofs.Ytlhbcgmmgofcgaa.QFnExactProgramOK
