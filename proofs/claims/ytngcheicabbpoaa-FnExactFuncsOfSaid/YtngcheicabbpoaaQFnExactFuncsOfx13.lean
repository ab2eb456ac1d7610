/- Functions that the law uses, as Lean functions with the same answers, and the walks that show it: by this session's program, after the form of the kit's print. No condition. -/
import Derived.Test.YtngcheicabbpoaaQFnExactFuncsOfx0
import Derived.Test.YtngcheicabbpoaaQFnExactFuncsOfx1
import Derived.Test.YtngcheicabbpoaaQFnExactFuncsOfx2
import Derived.Test.YtngcheicabbpoaaQFnExactFuncsOfx3
import Derived.Test.YtngcheicabbpoaaQFnExactFuncsOfx8
import Derived.Test.YtngcheicabbpoaaQFnExactFuncsOfx12
namespace Go.Proofs.Ytngcheicabbpoaa.QFnExactFuncsOf
open Go.RowKit Go.Proofs.YtngcheicabbpoaaW.PrintWords Go.Proofs.YtngcheicabbpoaaW.PrintLast Go.Proofs.YtngcheicabbpoaaW.PrintMore
attribute [local go_sem] max2_int min2_int max_two min_two max_three min_three max_four min_four   -- for this text's walks alone
open Go.Proofs.Ytngcheicabbpoaa
attribute [local go_sem high] My.binOp_gtr_flip
set_option linter.unusedVariables false
set_option linter.unusedSimpArgs false

/-! ### laws_markNodeS: function 48 -/
/-- The marks of the nodes from one on: what the next mark is. -/
def laws_markNodeS.l0 : Nat → List S52 → Int → Nat → Option Int
  | 0, _, _, _ => none
  | r + 1, l, a, x => if x < l.length then (laws_markText.f r (wrap64 (wrap64 (a + 1) + 1))).bind fun _ => (laws_markStringS.f r (rd_T52 l (x : Int)).f3 (wrap64 (wrap64 (wrap64 (a + 1) + 1) + 1))).bind fun m => (laws_markIntS.f r (rd_T52 l (x : Int)).f4 m.1).bind fun n => laws_markNodeS.l0 r l n.1 (x + 1) else some a
def laws_markNodeS.f (k : Nat) (l : List S52) (a : Int) : Option Int := laws_markNodeS.l0 k l a 0
theorem laws_markNodeS.mono_l : ∀ (r : Nat) (l : List S52) (a : Int) (x : Nat), LeO (laws_markNodeS.l0 r l a x) (laws_markNodeS.l0 (r + 1) l a x)
  | 0, _, _, _ => fun _ h => by simp [laws_markNodeS.l0] at h
  | r + 1, l, a, x => by
    rw [laws_markNodeS.l0, laws_markNodeS.l0]
    exact LeO.ite (LeO.bind (laws_markText.mono _ _) (fun _ => LeO.bind (laws_markStringS.mono _ _ _) (fun _ => LeO.bind (laws_markIntS.mono _ _ _) (fun _ => laws_markNodeS.mono_l r l _ _)))) (LeO.refl _)
/-- An element out of its row: its cells and that they may be written, now. -/
theorem laws_markNodeS.hole {w : World} {base : Nat} {ok oki : Nat → Prop} {g n cap : Nat} {xs : List S52} {i : Int} {c : List Value} (h : Kd.H k52 52 w base ok (.slice (some ⟨g, 0, none⟩) n cap) xs i oki c) (h0 : 0 ≤ i) (h1 : i < n) :
    (∀ j u, c[j]? = some u → w.cell? ⟨g, i.toNat * 5 + j, none⟩ = some u) ∧ (∀ j, w.frozen? ⟨g, i.toNat * 5 + j, none⟩ = false) := by
  obtain ⟨rows, hl, hraw, _, _, hcc, _⟩ := Kd.H_raw h h0 h1
  obtain ⟨_, _, _, _, hfr⟩ := Kd.R_elem hraw [] i h0 h1
  exact ⟨hcc, hfr⟩
/-- One of its cells is written. -/
theorem laws_markNodeS.put {w : World} {base : Nat} {ok oki : Nat → Prop} {g n cap : Nat} {xs : List S52} {i : Int} {c : List Value} (h : Kd.H k52 52 w base ok (.slice (some ⟨g, 0, none⟩) n cap) xs i oki c) (h0 : 0 ≤ i) (h1 : i < n) (j : Nat) (hj : j < 5) (u : Value) (hu : u.oneCell' = true) :
    Kd.H k52 52 (w.setCell ⟨g, i.toNat * 5 + j, none⟩ u) base ok (.slice (some ⟨g, 0, none⟩) n cap) xs i oki (c.take j ++ [u] ++ c.drop (j + 1)) :=
  (Kd.H_seg h h0 h1 (seg := [u]) (j := j) (by show j + 1 ≤ 5; omega) (by simpa using hu)).1
/-- An element of the row that is being written: its two rows, and what else stands. -/
structure laws_markNodeS.In (w0 w : World) (P oki : Nat → Prop) (g n cap : Nat) (xs : List S52) (i : Int) (v3 v4 : Value) (c : List Value) (l3 : List ByteArray) (l4 : List Int) (W : World) : Prop where
  h : Kd.H k52 52 W w0.heap.size P (.slice (some ⟨g, 0, none⟩) n cap) xs i oki c
  r3 : Kd.string.R 9 W w0.heap.size oki v3 l3
  r4 : (Kd.int .i64).R 3 W w0.heap.size oki v4 l4
  ok : ∀ k, oki k → P k ∧ k ≠ g
  pg : P g
  hg : w0.heap.size ≤ g
  b : Below w0.heap.size w0 W
  k : Kept w W P
theorem laws_markNodeS.In.put {w0 w : World} {P oki : Nat → Prop} {g n cap : Nat} {xs : List S52} {i : Int} {v3 v4 : Value} {c : List Value} {l3 : List ByteArray} {l4 : List Int} {W : World} (h : laws_markNodeS.In w0 w P oki g n cap xs i v3 v4 c l3 l4 W) (h0 : 0 ≤ i) (h1 : i < n) (j : Nat) (hj : j < 5) (u : Value) (hu : u.oneCell' = true) :
    laws_markNodeS.In w0 w P oki g n cap xs i v3 v4 (c.take j ++ [u] ++ c.drop (j + 1)) l3 l4 (W.setCell ⟨g, i.toNat * 5 + j, none⟩ u) :=
  ⟨laws_markNodeS.put h.h h0 h1 j hj u hu, Kd.R_far h.r3 (fun k hk => (h.ok k hk).2) u, Kd.R_far h.r4 (fun k hk => (h.ok k hk).2) u, h.ok, h.pg, h.hg, h.b.setCell h.hg _, h.k.setCell (.inl h.pg) _⟩
theorem laws_markNodeS.In.below {w0 w : World} {P oki : Nat → Prop} {g n cap : Nat} {xs : List S52} {i : Int} {v3 v4 : Value} {c : List Value} {l3 : List ByteArray} {l4 : List Int} {W W' : World} (h : laws_markNodeS.In w0 w P oki g n cap xs i v3 v4 c l3 l4 W) (hb : Below W.heap.size W W') :
    laws_markNodeS.In w0 w P oki g n cap xs i v3 v4 c l3 l4 W' :=
  ⟨Kd.H_below h.h hb, Kd.R_below h.r3 hb, Kd.R_below h.r4 hb, h.ok, h.pg, h.hg, h.b.trans (hb.mono h.b.size), h.k.below hb⟩
theorem laws_markNodeS.In.apart {w0 w : World} {P oki : Nat → Prop} {g n cap : Nat} {xs : List S52} {i : Int} {v3 v4 : Value} {c : List Value} {l3 : List ByteArray} {l4 : List Int} {W : World} (h : laws_markNodeS.In w0 w P oki g n cap xs i v3 v4 c l3 l4 W) (k : Nat) (h3 : some k = v3.ownBlock) (h4 : some k = v4.ownBlock) : False := by
  obtain ⟨c3, e3⟩ := Kd.R_typed h.r3 k h3.symm
  obtain ⟨c4, e4⟩ := Kd.R_typed h.r4 k h4.symm
  rw [e3] at e4
  injection e4 with e4
  injection e4 with _ e4
  exact absurd e4 (by decide)
theorem laws_markNodeS.In.names {w0 w : World} {P oki : Nat → Prop} {g n cap : Nat} {xs : List S52} {i : Int} {v3 v4 : Value} {c : List Value} {l3 l3' : List ByteArray} {l4 : List Int} {W W' : World} (h : laws_markNodeS.In w0 w P oki g n cap xs i v3 v4 c l3 l4 W) (ho : Kd.string.R 9 W' w0.heap.size (fun k => some k = v3.ownBlock ∨ W.heap.size ≤ k) v3 l3') (hb : Below w0.heap.size w0 W') (hk : Kept W W' (fun k => some k = v3.ownBlock)) :
    laws_markNodeS.In w0 w P oki g n cap xs i v3 v4 c l3' l4 W' :=
  ⟨Kd.H_kept h.h hk (fun k _ hn hs => hn (h.r3.1 k hs.symm)), Kd.R_mono (Kd.R_tight rfl ho) (fun k hs => h.r3.1 k hs.symm), Kd.R_mono (Kd.R_kept (Kd.R_tight rfl h.r4) hk (fun k h4 h3 => h.apart k h3 h4)) (fun k hs => h.r4.1 k hs.symm), h.ok, h.pg, h.hg, hb, h.k.then_ hk (fun k hs => .inl (h.ok k (h.r3.1 k hs.symm)).1)⟩
theorem laws_markNodeS.In.kids {w0 w : World} {P oki : Nat → Prop} {g n cap : Nat} {xs : List S52} {i : Int} {v3 v4 : Value} {c : List Value} {l3 : List ByteArray} {l4 l4' : List Int} {W W' : World} (h : laws_markNodeS.In w0 w P oki g n cap xs i v3 v4 c l3 l4 W) (ho : (Kd.int .i64).R 3 W' w0.heap.size (fun k => some k = v4.ownBlock ∨ W.heap.size ≤ k) v4 l4') (hb : Below w0.heap.size w0 W') (hk : Kept W W' (fun k => some k = v4.ownBlock)) :
    laws_markNodeS.In w0 w P oki g n cap xs i v3 v4 c l3 l4' W' :=
  ⟨Kd.H_kept h.h hk (fun k _ hn hs => hn (h.r4.1 k hs.symm)), Kd.R_mono (Kd.R_kept (Kd.R_tight rfl h.r3) hk (fun k h3 h4 => h.apart k h3 h4)) (fun k hs => h.r3.1 k hs.symm), Kd.R_mono (Kd.R_tight rfl ho) (fun k hs => h.r4.1 k hs.symm), h.ok, h.pg, h.hg, hb, h.k.then_ hk (fun k hs => .inl (h.ok k (h.r4.1 k hs.symm)).1)⟩
theorem laws_markNodeS.rd_drop {l' l : List S52} {x : Nat} (hl : l'.length = l.length) (hx : x < l.length) (h : l'.drop x = l.drop x) : rd_T52 l' (x : Int) = rd_T52 l (x : Int) ∧ l'.drop (x + 1) = l.drop (x + 1) := by
  rw [List.drop_eq_getElem_cons hx, List.drop_eq_getElem_cons (by omega)] at h
  injection h with h1 h2
  refine ⟨?_, h2⟩
  show l'.getD (x : Int).toNat _ = l.getD (x : Int).toNat _
  rw [Int.toNat_natCast, List.getD_eq_getElem?_getD, List.getD_eq_getElem?_getD, List.getElem?_eq_getElem hx, List.getElem?_eq_getElem (by omega), h1]
set_option maxHeartbeats 8000000 in
set_option maxRecDepth 100000 in
theorem laws_markNodeS.calls (k : Nat) (P : Nat → Prop) (v : Value) (l : List S52) (a1 r : Int) (w0 w : World) (hB : Below w0.heap.size w0 w) (ho : Kd.S k52 52 w w0.heap.size P v l) (hlen : l.length ≤ 4611686018427387904) (h : laws_markNodeS.f k l a1 = some r) :
    Calls Try.prog 48 #[v, .int .i64 a1] w fun e w' => e = .returned (.int .i64 r) ∧ Below w0.heap.size w0 w' ∧ Kept w w' P := by
  obtain ⟨A, c, rfl⟩ := Kd.S_slice ho
  have hu := Try.underlying52
  have HS := Aside0.mk ho
  have HB := Aside0.mk hB
  have HF := Aside0.mk h
  clear ho hB h
  go_enter Try.func48, Try.ntmps48
  go_wp2_with fail
  go_loopw [1, 5] (fun kv i wr => ∃ (x : Nat) (a : Int) (l' : List S52) (q : Nat), x ≤ l.length ∧ l'.length = l.length ∧ kv = .int .i64 a ∧ i = .int .i64 x ∧ Aside0 (l'.drop x = l.drop x) ∧ Aside0 (laws_markNodeS.l0 q l a x = some r) ∧ Aside0 (Kd.S k52 52 wr w0.heap.size P (.slice A l.length c) l') ∧ Aside0 (Below w0.heap.size w0 wr) ∧ Aside0 (Kept w wr P)) (fun _ i _ => l.length - (intOf i).toNat)
  case atStart => exact ⟨0, a1, l, k, Nat.zero_le _, rfl, rfl, rfl, ⟨rfl⟩, ⟨HF.out⟩, ⟨HS.out⟩, ⟨HB.out⟩, ⟨Kept.refl _ _⟩⟩
  clear HS HB HF
  case round =>
    obtain ⟨x, a, l', q, hx, hl', rfl, rfl, HD, HF, HS, HB, HK⟩ := hrel
    cases q with
    | zero => exact absurd HF.out (by simp [laws_markNodeS.l0])
    | succ q =>
    have hF := HF.out
    rw [laws_markNodeS.l0] at hF
    by_cases hlt : x < l.length
    · rw [if_pos hlt] at hF
      obtain ⟨t, e1, hF⟩ := Option.bind_eq_some_iff.1 hF
      obtain ⟨m, e2, hF⟩ := Option.bind_eq_some_iff.1 hF
      obtain ⟨n, e3, hF⟩ := Option.bind_eq_some_iff.1 hF
      obtain ⟨hrd, hdr⟩ := laws_markNodeS.rd_drop hl' hlt HD.out
      obtain ⟨g, cap, e, hg, hglt, cells0, hcells0⟩ := Kd.S_form HS.out (by omega)
      rw [hl'] at e
      injection e with eA eB eC
      subst eA
      subst eC
      obtain ⟨oki, cs, hcl, hM, hcc, hfr, hoki, hH⟩ := Kd.S_elem HS.out z52 (x : Int) (by omega) (by omega)
      obtain ⟨v3, v4, rfl, g3, g4⟩ := k52_openM hM
      rw [show l'.getD (x : Int).toNat z52 = rd_T52 l' (x : Int) from rfl, hrd] at g3 g4 hM
      have b0 : decide (x < l.length) = true := decide_eq_true hlt
      have b1 : decide ((x : Int) < (l.length : Int)) = true := decide_eq_true (by omega)
      have I0 : laws_markNodeS.In w0 w P oki g l.length c l' (x : Int) v3 v4 _ _ _ wr := ⟨hH, g3, g4, hoki, (Kd.S_R HS.out).1 g rfl, hg, HB.out, HK.out⟩
      have HI := Lib.hid I0
      have HXX := Lib.hid (And.intro hx hlt)
      have E1 := Lib.hid e1
      have E2 := Lib.hid e2
      have E3 := Lib.hid e3
      have HN := Lib.hid hF
      have HLL := Lib.hid hl'
      have HDR := Lib.hid hdr
      have x0 : (0 : Int) ≤ (x : Int) := by omega
      have x1 : (x : Int) < l.length := by omega
      have HX0 := Lib.hid x0
      have HX1 := Lib.hid x1
      clear I0 hH g3 g4 hoki hcells0 e1 e2 e3 hF hl' hrd hdr hg hx hcc hM hfr hcl hglt HD HF HS HB HK x0 x1
      -- the kind
      have c0 : wr.cell? ⟨g, x * 5, none⟩ = _ := (laws_markNodeS.hole HI.out.h HX0.out HX1.out).1 0 _ rfl
      have f0 : wr.frozen? ⟨g, x * 5, none⟩ = false := (laws_markNodeS.hole HI.out.h HX0.out HX1.out).2 0
      go_upto_region 5 with fail
      have HI1 := Lib.hid (show laws_markNodeS.In w0 w P oki g l.length c l' (x : Int) v3 v4 _ _ _ (wr.setCell ⟨g, x * 5, none⟩ (.int .i64 a)) from HI.out.put HX0.out HX1.out 0 (by decide) (.int .i64 a) rfl)
      clear c0 f0 HI
      generalize wr.setCell ⟨g, x * 5, none⟩ (.int .i64 a) = wr1 at *
      -- the number
      have c1 : wr1.cell? ⟨g, x * 5 + 1, none⟩ = _ := (laws_markNodeS.hole HI1.out.h HX0.out HX1.out).1 1 _ rfl
      have f1 : wr1.frozen? ⟨g, x * 5 + 1, none⟩ = false := (laws_markNodeS.hole HI1.out.h HX0.out HX1.out).2 1
      go_upto_region 7 with fail
      have HI2 := Lib.hid (show laws_markNodeS.In w0 w P oki g l.length c l' (x : Int) v3 v4 _ _ _ (wr1.setCell ⟨g, x * 5 + 1, none⟩ (.int .i64 (wrap64 (a + 1)))) from HI1.out.put HX0.out HX1.out 1 (by decide) (.int .i64 (wrap64 (a + 1))) rfl)
      clear c1 f1 HI1
      generalize wr1.setCell ⟨g, x * 5 + 1, none⟩ (.int .i64 (wrap64 (a + 1))) = wr2 at *
      -- the text
      have hcall := laws_markText.calls q (wrap64 (wrap64 (a + 1) + 1)) t wr2 E1.out
      go_upto_region 9 with (go_at_call 49; (with_reducible refine hcall.mono ?_); rintro e wr3 ⟨rfl, hb⟩; have HI3 := Lib.hid (HI2.out.below hb); have c2 : wr3.cell? ⟨g, x * 5 + 2, none⟩ = _ := (laws_markNodeS.hole HI3.out.h HX0.out HX1.out).1 2 _ rfl; have f2 : wr3.frozen? ⟨g, x * 5 + 2, none⟩ = false := (laws_markNodeS.hole HI3.out.h HX0.out HX1.out).2 2; clear hb hcall HI2)
      have HI4 := Lib.hid (show laws_markNodeS.In w0 w P oki g l.length c l' (x : Int) v3 v4 _ _ _ (wr3.setCell ⟨g, x * 5 + 2, none⟩ (.string t)) from HI3.out.put HX0.out HX1.out 2 (by decide) (.string t) rfl)
      clear c2 f2 HI3
      generalize wr3.setCell ⟨g, x * 5 + 2, none⟩ (.string t) = wr4 at *
      -- the names
      have c3 : wr4.cell? ⟨g, x * 5 + 3, none⟩ = some v3 := (laws_markNodeS.hole HI4.out.h HX0.out HX1.out).1 3 _ rfl
      have hcall := laws_markStringS.calls q (fun k => some k = v3.ownBlock) v3 _ (wrap64 (wrap64 (wrap64 (a + 1) + 1) + 1)) m.1 m.2 w0 wr4 HI4.out.b (Kd.R_tight rfl HI4.out.r3) E2.out
      go_upto_region 11 with (go_at_call 29; (with_reducible refine hcall.mono ?_); rintro e wr5 ⟨rfl, hr, hb, hk⟩; have HI5 := Lib.hid (HI4.out.names hr hb hk); have c4 : wr5.cell? ⟨g, x * 5 + 4, none⟩ = some v4 := (laws_markNodeS.hole HI5.out.h HX0.out HX1.out).1 4 _ rfl; clear hr hb hk hcall HI4)
      have hcall := laws_markIntS.calls q (fun k => some k = v4.ownBlock) v4 _ m.1 n.1 n.2 w0 wr5 HI5.out.b (Kd.R_tight rfl HI5.out.r4) E3.out
      go_wp2_with (go_at_call 62; (with_reducible refine hcall.mono ?_); rintro e wr6 ⟨rfl, hr, hb, hk⟩; have HI6 := Lib.hid (HI5.out.kids hr hb hk); clear hr hb hk hcall HI5)
      have HW := Lib.hid (show wrap64 ((x : Int) + 1) = ((x + 1 : Nat) : Int) by have := HXX.out; unfold wrap64; omega)
      go_roundw
      case rel =>
        have hM := k52_mkM wr6 w0.heap.size oki (⟨a, wrap64 (a + 1), t, m.2, n.2⟩ : S52) HI6.out.r3 HI6.out.r4
        have hS := Kd.H_back HI6.out.h hM (fun _ hk => hk)
        refine ⟨x + 1, n.1, l'.set x ⟨a, wrap64 (a + 1), t, m.2, n.2⟩, q, by have := HXX.out; omega, by rw [List.length_set]; exact HLL.out, rfl, rfl, ⟨?_⟩, ⟨HN.out⟩, ⟨hS⟩, ⟨HI6.out.b⟩, ⟨HI6.out.k⟩⟩
        rw [List.drop_set_of_lt (Nat.lt_succ_self x)]
        exact HDR.out
      case measure => have := HXX.out; simp only [intOf]; omega
    · rw [if_neg hlt] at hF
      obtain rfl := Option.some.inj hF
      have b0 : decide (x < l.length) = false := decide_eq_false hlt
      have b1 : decide ((x : Int) < (l.length : Int)) = false := decide_eq_false (by omega)
      clear hlt hx
      go_wp2_with fail
      go_ret
      exact ⟨rfl, HB.out, HK.out⟩

/-! ### laws_markTree: function 28 -/
open Hd
set_option maxHeartbeats 2000000 in
set_option maxRecDepth 100000 in
theorem laws_markTree.calls (k : Nat) (P : Nat → Prop) (v : Value) (l : List S52) (root a1 r : Int) (w0 w : World) (hB : Below w0.heap.size w0 w) (ho : Kd.S k52 52 w w0.heap.size P v l) (hlen : l.length ≤ 4611686018427387904) (h : laws_markNodeS.f k l a1 = some r) :
    Calls Try.prog 28 #[.agg #[v, .int .i64 root], .int .i64 a1] w fun e w' => e = .returned (.int .i64 r) ∧ Below w0.heap.size w0 w' ∧ Kept w w' P := by
  have hcall := laws_markNodeS.calls k P v l a1 r w0 (w.alloc (.cells #[v, .int .i64 root] 29)) (below_alloc hB _) (Kd.S_alloc ho _) hlen h
  have hK : Kept w (w.alloc (.cells #[v, .int .i64 root] 29)) P := (Kept.refl w P).alloc _
  obtain ⟨A, c, rfl⟩ := Kd.S_slice ho
  have HK := Lib.hid hK
  have hu := Try.underlying29
  clear hB ho hlen h hK
  go_enter Try.func28, Try.ntmps28
  go_wp2_with (go_at_call 48; (with_reducible refine hcall.mono ?_); rintro e w' ⟨rfl, hb, hk⟩; have HX := Lib.hid hb; have HY := Lib.hid hk; clear hb hk hcall)
  go_ret
  exact ⟨rfl, HX.out, HK.out.then_ HY.out (fun k hk => .inl hk)⟩

/-! ### laws_heldStringS: function 30 -/
def laws_heldStringS.l0 : Nat → List ByteArray → Int → Int → Option (Int)
  | 0, _, _, _ => none
  | k + 1, x0, x1, x5 => if x5 < (x0.length : Int) then (if 0 ≤ x5 then ((laws_markText.f k x1).bind fun t295 => (if (rdOf ByteArray.empty x0 x5).toList = t295.toList then (laws_heldStringS.l0 k x0 (wrap64 (x1 + 1)) (wrap64 (x5 + 1))) else (some (-1)))) else (none)) else (some x1)
def laws_heldStringS.f (k : Nat) (l0 : List ByteArray) (a1 : Int) : Option (Int) := laws_heldStringS.l0 k l0 a1 0
theorem laws_heldStringS.mono_l : ∀ k, (∀ y0 y1 y2, LeO (laws_heldStringS.l0 k y0 y1 y2) (laws_heldStringS.l0 (k + 1) y0 y1 y2))
  | 0 => fun _ _ _ r h => by simp [laws_heldStringS.l0] at h
  | k + 1 => by
    have ih0 := laws_heldStringS.mono_l k
    · intro y0 y1 y2
      unfold laws_heldStringS.l0
      repeat' first
      | (with_reducible exact ih0 _ _ _)
      | (with_reducible exact laws_markText.mono _ _)
      | (with_reducible exact LeO.refl _)
      | (with_reducible exact LeO.none _)
      | (with_reducible refine LeO.ite ?_ ?_)
      | (with_reducible refine LeO.bind ?_ (fun _ => ?_))
      | exact ih0 _ _ _
      | exact laws_markText.mono _ _
      | exact LeO.none _
      | refine LeO.ite ?_ ?_
      | refine LeO.bind ?_ (fun _ => ?_)
theorem laws_heldStringS.mono : ∀ a0 a1 k, LeO (laws_heldStringS.f k a0 a1) (laws_heldStringS.f (k + 1) a0 a1) := by
  intro a0 a1 k
  have ih0 := laws_heldStringS.mono_l k
  unfold laws_heldStringS.f
  repeat' first
      | (with_reducible exact ih0 _ _ _)
      | (with_reducible exact laws_markText.mono _ _)
      | (with_reducible exact LeO.refl _)
      | (with_reducible exact LeO.none _)
      | (with_reducible refine LeO.ite ?_ ?_)
      | (with_reducible refine LeO.bind ?_ (fun _ => ?_))
      | exact ih0 _ _ _
      | exact laws_markText.mono _ _
      | exact LeO.none _
      | refine LeO.ite ?_ ?_
      | refine LeO.bind ?_ (fun _ => ?_)
set_option maxHeartbeats 8000000 in
set_option maxRecDepth 100000 in
theorem laws_heldStringS.calls (k : Nat) (A0 : Option Addr) (c0 : Nat) (l0 : List ByteArray) (a1 : Int) (r : Int) (w : World) (hr0 : Kd.C Kd.string w A0 l0.length l0) (hc0 : l0.length ≤ c0) (h : laws_heldStringS.f k l0 a1 = some r) :
    Calls Try.prog 30 #[.slice A0 l0.length c0, .int .i64 a1] w fun e w' => e = .returned (.int .i64 r) ∧ Below w.heap.size w w' := by
  have HR0 := Aside0.mk hr0
  have HC0 := Aside0.mk hc0
  clear hr0 hc0
  have HB := Aside0.mk (Below.refl w.heap.size w)
  have H : (laws_heldStringS.l0 k l0 a1 0) = some r := h
  clear h
  have H' := Aside0.mk H
  clear H
  go_enter Try.func30, Try.ntmps30
  go_wp2
  go_loopg [1, 5] k (fun kq v1 v5 w' => ∃ (x1_1 : Int) (x5_1 : Int), v1 = .int .i64 x1_1 ∧ v5 = .int .i64 x5_1 ∧ Aside0 (laws_heldStringS.l0 kq l0 x1_1 x5_1 = some r) ∧ Aside0 (kq ≤ k) ∧ Aside0 (Below w.heap.size w w'))
  case atStart => exact ⟨(a1), (0), (by first | rfl | (simp; done) | (simp [*]; done)), (by first | rfl | (simp; done) | (simp [*]; done)), H', ⟨Nat.le_refl _⟩, ⟨by repeat (first | (with_reducible first | exact HB.out | apply below_alloc | apply pw_below_drewN | apply below_drew1) | exact HB.out)⟩⟩
  case round =>
    clear H'
    try clear p2
    obtain ⟨x1_1, x5_1, rfl, rfl, HA, HK1, HB⟩ := hrel
    cases gk with
    | zero => exact absurd HA.out (by simp [laws_heldStringS.l0])
    | succ k1 =>
      have H := HA.out
      clear HA
      simp only [laws_heldStringS.l0] at H
      by_cases c3 : x5_1 < (l0.length : Int)
      · rw [if_pos c3] at H
        have c3b0 : decide (x5_1 < (l0.length : Int)) = true := decide_eq_true c3
        clear c3
        by_cases c4 : 0 ≤ x5_1
        · rw [if_pos c4] at H
          have c4b0 : decide (0 ≤ x5_1) = true := decide_eq_true c4
          clear c4
          replace H := Option.bind_eq_some_iff.mp H
          obtain ⟨t295, A50, H⟩ := H
          replace H : (if (rdOf ByteArray.empty l0 x5_1).toList = t295.toList then (laws_heldStringS.l0 k1 l0 (wrap64 (x1_1 + 1)) (wrap64 (x5_1 + 1))) else (some (-1))) = some r := H
          have A5 := Aside0.mk A50
          clear A50
          by_cases c6 : (rdOf ByteArray.empty l0 x5_1).toList = t295.toList
          · rw [if_pos c6] at H
            have c6b0 : ((rdOf ByteArray.empty l0 x5_1).toList == t295.toList) = true := beq_iff_eq.mpr c6
            have c6b1 : ((rdOf ByteArray.empty l0 x5_1).toList != t295.toList) = false := bne_eq_false_iff_eq.mpr c6
            clear c6
            have H' := Aside0.mk H
            clear H
            try go_wp2
            have n0_ := Aside0.mk (below_drew1 HB.out)
            clear HB
            have HB := n0_
            clear n0_
            have p294 : 0 ≤ (x5_1 : Int) := of_decide_eq_true (by first | (with_reducible assumption) | assumption)
            have q294 : x5_1 < (l0.length : Int) := of_decide_eq_true (by first | (with_reducible assumption) | assumption)
            obtain ⟨ad294, e294, hx294_0⟩ := Kd.at_string HR0.out x5_1 p294 q294
            have hw294_0 := hx294_0
            cases e294
            replace hx294_0 := (HB.out.cell (World.block_lt_of_cell? w _ hx294_0)).trans hx294_0
            replace p294 := eq_true p294
            replace q294 := eq_true q294
            refine start_ (n := 7) (S := fun w' => w'.cell? (ad294.add (x5_1).toNat) = some (.string (rdOf ByteArray.empty l0 x5_1))) (ds := []) #[false, false, false, false, false, false, false] (by kernel_rfl) rfl rfl (((HB.out.cell (World.block_lt_of_cell? w _ hw294_0)).trans hw294_0)) (fun hHeld => ?_)
            generalize wr.drew = w7 at HB hx294_0 hHeld ⊢
            refine pure_ (i := 0) (N := some 12) (v := ?_) (a' := ?_) #[true, false, false, false, false, false, false] rfl rfl (by kernel_rfl) (fun _ _ _ h => h) (Or.inl ⟨by rfl, ?_⟩) ?_ ?_
            rotate_left
            · intro w'
              go_simp
              with_reducible rfl
            rotate_left
            · simp only [Act.put, List.setIfInBounds_toArray, List.set_cons_zero, List.set_cons_succ, i64_w, i32_w]
              rfl
            refine pure_ (i := 1) (N := some 13) (v := ?_) (a' := ?_) #[true, true, false, false, false, false, false] rfl rfl (by kernel_rfl) (fun _ _ _ h => h) (Or.inl ⟨by rfl, ?_⟩) ?_ ?_
            rotate_left
            · intro w'
              go_simp
              with_reducible rfl
            rotate_left
            · simp only [Act.put, List.setIfInBounds_toArray, List.set_cons_zero, List.set_cons_succ, i64_w, i32_w]
              rfl
            refine pure_ (i := 2) (N := some 14) (v := ?_) (a' := ?_) #[true, true, true, false, false, false, false] rfl rfl (by kernel_rfl) (fun _ _ _ h => h) (Or.inl ⟨by rfl, ?_⟩) ?_ ?_
            rotate_left
            · intro w'
              go_simp
              with_reducible rfl
            rotate_left
            · simp only [Act.put, List.setIfInBounds_toArray, List.set_cons_zero, List.set_cons_succ, i64_w, i32_w]
              rfl
            refine pure_ (i := 4) (N := some 16) (v := ?_) (a' := ?_) #[true, true, true, false, true, false, false] rfl rfl (by kernel_rfl) (fun _ _ _ h => h) (Or.inl ⟨by rfl, ?_⟩) ?_ ?_
            rotate_left
            · intro w'
              go_simp
              with_reducible rfl
            rotate_left
            · simp only [Act.put, List.setIfInBounds_toArray, List.set_cons_zero, List.set_cons_succ, i64_w, i32_w]
              rfl
            refine take_ (i := 3) (N := some 15) (v := ?_) (a' := ?_) #[true, true, true, true, true, false, false] rfl rfl (by kernel_rfl) (fun _ _ _ h => h) (Or.inl ⟨by rfl, ?_⟩) hHeld ?_ ?_
            rotate_left
            · intro w' s0
              go_simp
              with_reducible rfl
            rotate_left
            · simp only [Act.put, List.setIfInBounds_toArray, List.set_cons_zero, List.set_cons_succ, i64_w, i32_w]
              rfl
            refine one_ (i := 5) (N := some 17) #[true, true, true, true, true, true, false] rfl rfl (by kernel_rfl) (by decide) (fun K hK => ?_)
            refine goes_ Try.func49 (by kernel_rfl) rfl #[.int .i64 x1_1] (by rfl) rfl rfl (by (try simp only [List.map_toArray, List.map_cons, List.map_nil]); first | done | rfl | (simp only [List.length_drop, List.length_take]; rfl)) ?_
            with_reducible refine (laws_markText.calls k1 x1_1 t295 _ A5.out).mono ?_
            rintro e w8 ⟨rfl, hb⟩
            refine ⟨_, rfl, ?_⟩
            have n0_ := Aside0.mk (below_step (by repeat (first | (with_reducible first | exact HB.out | apply below_alloc | apply pw_below_drewN | apply below_drew1) | exact HB.out)) hb)
            clear HB
            have HB := n0_
            clear n0_
            (try clear hb)
            (try clear hb2)
            (try clear hk)
            (try clear hi)
            refine hK.out _ _ (((HB.out.cell (World.block_lt_of_cell? w _ hw294_0)).trans hw294_0)) (fun hHeld => ?_)
            clear hK K
            refine norm_ (a' := ?_) ?_ ?_
            rotate_left
            · show Act.put _ (some 17) _ = _
              simp only [Act.put, List.setIfInBounds_toArray, List.set_cons_zero, List.set_cons_succ, i64_w, i32_w]
              rfl
            refine pure_ (i := 6) (N := some 18) (v := ?_) (a' := ?_) #[true, true, true, true, true, true, true] rfl rfl (by kernel_rfl) (fun _ _ _ h => h) (Or.inl ⟨by rfl, ?_⟩) ?_ ?_
            rotate_left
            · intro w'
              go_simp
              with_reducible rfl
            rotate_left
            · simp only [Act.put, List.setIfInBounds_toArray, List.set_cons_zero, List.set_cons_succ, i64_w, i32_w]
              rfl
            refine done_ (by kernel_rfl) ?_
            try go_wp2
            go_roundg k1
            case measure => have := HK1.out; omega
            case rel => exact ⟨(wrap64 (x1_1 + 1)), (wrap64 (x5_1 + 1)), (by first | rfl | (simp; done) | (simp [*]; done)), (by first | rfl | (simp; done) | (simp [*]; done)), H', ⟨by have := HK1.out; omega⟩, ⟨by repeat (first | (with_reducible first | exact HB.out | apply below_alloc | apply pw_below_drewN | apply below_drew1) | exact HB.out)⟩⟩
          · rw [if_neg c6] at H
            have c6b0 : ((rdOf ByteArray.empty l0 x5_1).toList == t295.toList) = false := beq_eq_false_iff_ne.mpr c6
            have c6b1 : ((rdOf ByteArray.empty l0 x5_1).toList != t295.toList) = true := bne_iff_ne.mpr c6
            obtain rfl := Option.some.inj H
            try go_wp2
            have n0_ := Aside0.mk (below_drew1 HB.out)
            clear HB
            have HB := n0_
            clear n0_
            have p294 : 0 ≤ (x5_1 : Int) := of_decide_eq_true (by first | (with_reducible assumption) | assumption)
            have q294 : x5_1 < (l0.length : Int) := of_decide_eq_true (by first | (with_reducible assumption) | assumption)
            obtain ⟨ad294, e294, hx294_0⟩ := Kd.at_string HR0.out x5_1 p294 q294
            have hw294_0 := hx294_0
            cases e294
            replace hx294_0 := (HB.out.cell (World.block_lt_of_cell? w _ hx294_0)).trans hx294_0
            replace p294 := eq_true p294
            replace q294 := eq_true q294
            refine start_ (n := 7) (S := fun w' => w'.cell? (ad294.add (x5_1).toNat) = some (.string (rdOf ByteArray.empty l0 x5_1))) (ds := []) #[false, false, false, false, false, false, false] (by kernel_rfl) rfl rfl (((HB.out.cell (World.block_lt_of_cell? w _ hw294_0)).trans hw294_0)) (fun hHeld => ?_)
            generalize wr.drew = w9 at HB hx294_0 hHeld ⊢
            refine pure_ (i := 0) (N := some 12) (v := ?_) (a' := ?_) #[true, false, false, false, false, false, false] rfl rfl (by kernel_rfl) (fun _ _ _ h => h) (Or.inl ⟨by rfl, ?_⟩) ?_ ?_
            rotate_left
            · intro w'
              go_simp
              with_reducible rfl
            rotate_left
            · simp only [Act.put, List.setIfInBounds_toArray, List.set_cons_zero, List.set_cons_succ, i64_w, i32_w]
              rfl
            refine pure_ (i := 1) (N := some 13) (v := ?_) (a' := ?_) #[true, true, false, false, false, false, false] rfl rfl (by kernel_rfl) (fun _ _ _ h => h) (Or.inl ⟨by rfl, ?_⟩) ?_ ?_
            rotate_left
            · intro w'
              go_simp
              with_reducible rfl
            rotate_left
            · simp only [Act.put, List.setIfInBounds_toArray, List.set_cons_zero, List.set_cons_succ, i64_w, i32_w]
              rfl
            refine pure_ (i := 2) (N := some 14) (v := ?_) (a' := ?_) #[true, true, true, false, false, false, false] rfl rfl (by kernel_rfl) (fun _ _ _ h => h) (Or.inl ⟨by rfl, ?_⟩) ?_ ?_
            rotate_left
            · intro w'
              go_simp
              with_reducible rfl
            rotate_left
            · simp only [Act.put, List.setIfInBounds_toArray, List.set_cons_zero, List.set_cons_succ, i64_w, i32_w]
              rfl
            refine pure_ (i := 4) (N := some 16) (v := ?_) (a' := ?_) #[true, true, true, false, true, false, false] rfl rfl (by kernel_rfl) (fun _ _ _ h => h) (Or.inl ⟨by rfl, ?_⟩) ?_ ?_
            rotate_left
            · intro w'
              go_simp
              with_reducible rfl
            rotate_left
            · simp only [Act.put, List.setIfInBounds_toArray, List.set_cons_zero, List.set_cons_succ, i64_w, i32_w]
              rfl
            refine take_ (i := 3) (N := some 15) (v := ?_) (a' := ?_) #[true, true, true, true, true, false, false] rfl rfl (by kernel_rfl) (fun _ _ _ h => h) (Or.inl ⟨by rfl, ?_⟩) hHeld ?_ ?_
            rotate_left
            · intro w' s0
              go_simp
              with_reducible rfl
            rotate_left
            · simp only [Act.put, List.setIfInBounds_toArray, List.set_cons_zero, List.set_cons_succ, i64_w, i32_w]
              rfl
            refine one_ (i := 5) (N := some 17) #[true, true, true, true, true, true, false] rfl rfl (by kernel_rfl) (by decide) (fun K hK => ?_)
            refine goes_ Try.func49 (by kernel_rfl) rfl #[.int .i64 x1_1] (by rfl) rfl rfl (by (try simp only [List.map_toArray, List.map_cons, List.map_nil]); first | done | rfl | (simp only [List.length_drop, List.length_take]; rfl)) ?_
            with_reducible refine (laws_markText.calls k1 x1_1 t295 _ A5.out).mono ?_
            rintro e w10 ⟨rfl, hb⟩
            refine ⟨_, rfl, ?_⟩
            have n0_ := Aside0.mk (below_step (by repeat (first | (with_reducible first | exact HB.out | apply below_alloc | apply pw_below_drewN | apply below_drew1) | exact HB.out)) hb)
            clear HB
            have HB := n0_
            clear n0_
            (try clear hb)
            (try clear hb2)
            (try clear hk)
            (try clear hi)
            refine hK.out _ _ (((HB.out.cell (World.block_lt_of_cell? w _ hw294_0)).trans hw294_0)) (fun hHeld => ?_)
            clear hK K
            refine norm_ (a' := ?_) ?_ ?_
            rotate_left
            · show Act.put _ (some 17) _ = _
              simp only [Act.put, List.setIfInBounds_toArray, List.set_cons_zero, List.set_cons_succ, i64_w, i32_w]
              rfl
            refine pure_ (i := 6) (N := some 18) (v := ?_) (a' := ?_) #[true, true, true, true, true, true, true] rfl rfl (by kernel_rfl) (fun _ _ _ h => h) (Or.inl ⟨by rfl, ?_⟩) ?_ ?_
            rotate_left
            · intro w'
              go_simp
              with_reducible rfl
            rotate_left
            · simp only [Act.put, List.setIfInBounds_toArray, List.set_cons_zero, List.set_cons_succ, i64_w, i32_w]
              rfl
            refine done_ (by kernel_rfl) ?_
            try go_wp2
            go_ret
            exact ⟨by first | rfl | exact My.ret_isEmpty _ | (simp [errW_none, errW_some] <;> rfl) | (simp [*, errW_none, errW_some] <;> rfl), by repeat (first | (with_reducible first | exact HB.out | apply below_alloc | apply pw_below_drewN | apply below_drew1) | exact HB.out)⟩
        · rw [if_neg c4] at H
          exact absurd H (by simp)
      · rw [if_neg c3] at H
        have c3b0 : decide (x5_1 < (l0.length : Int)) = false := decide_eq_false c3
        clear c3
        obtain rfl := Option.some.inj H
        go_wp2
        go_ret
        exact ⟨by first | rfl | exact My.ret_isEmpty _ | (simp [errW_none, errW_some] <;> rfl) | (simp [*, errW_none, errW_some] <;> rfl), by repeat (first | (with_reducible first | exact HB.out | apply below_alloc | apply pw_below_drewN | apply below_drew1) | exact HB.out)⟩

/-! ### laws_FnExactFuncsOf: function 9 -/
open Hd
def laws_FnExactFuncsOf.f (k : Nat) (l0_0 : List S65) (a0_1 : Int) : Option Bool :=
  (laws_szTree.f k l0_0 a0_1 1048576).bind fun z => if z < 0 then some true else
    (laws_toTree.f k l0_0 a0_1).bind fun t => (spec_FuncsOf.f k t.1 t.2).bind fun ws => (impl_FuncsOf.f k t.1 t.2).bind fun gs => (laws_markNodeS.f k t.1 1).bind fun mk => (laws_markStringS.f k gs.1 1).bind fun ms =>
      if laws_eqStringS.f k gs.1 ws.1 = some true ∧ gs.2 = ws.2 ∧ laws_eqTree.f k t.1 t.2 t.1 t.2 = some true ∧ 0 ≤ mk ∧ 0 ≤ ms.1 ∧ laws_heldStringS.f k ms.2 1 = some ms.1 ∧ t.1.length ≤ 4611686018427387904 then some true else none
/-- What stands behind the program's answer: w0's text row (B6 from below), x0's rows between B6 and B7, the answer's row from B7 on. -/
structure laws_FnExactFuncsOf.St (w : World) (g1 g6 B6 B7 : Nat) (A : Option Addr) (c n : Nat) (r tr : Int) (v4 vx v7 : Value) (ws gs : List ByteArray) (t : List S52) (W : World) : Prop where
  b1 : W.heap[g1]? = some (.cells #[.slice A n c, .int .i64 r] 24 (0, 0))
  b6 : W.heap[g6]? = some (.cells #[vx, .int .i64 tr] 29 (0, 0))
  r4 : Kd.string.R 9 W w.heap.size (fun k => k < B6) v4 ws
  sx : Kd.S k52 52 W w.heap.size (fun k => B6 ≤ k ∧ k < B7) vx t
  r7 : Kd.string.R 9 W w.heap.size (fun k => B7 ≤ k) v7 gs
  l1 : g1 < B6
  l6 : B7 ≤ g6
  lB : B6 ≤ B7
  b : Below w.heap.size w W
theorem laws_FnExactFuncsOf.St.below {w : World} {g1 g6 B6 B7 : Nat} {A : Option Addr} {c n : Nat} {r tr : Int} {v4 vx v7 : Value} {ws gs : List ByteArray} {t : List S52} {W W' : World} (h : laws_FnExactFuncsOf.St w g1 g6 B6 B7 A c n r tr v4 vx v7 ws gs t W) (hb : Below W.heap.size W W') : laws_FnExactFuncsOf.St w g1 g6 B6 B7 A c n r tr v4 vx v7 ws gs t W' :=
  ⟨blk_below h.b1 hb, blk_below h.b6 hb, Kd.R_below h.r4 hb, Kd.S_below h.sx hb, Kd.R_below h.r7 hb, h.l1, h.l6, h.lB, h.b.trans (hb.mono h.b.size)⟩
/-- .. without x0's rows, which are written. -/
structure laws_FnExactFuncsOf.Sm (w : World) (g1 B6 B7 : Nat) (A : Option Addr) (c n : Nat) (r : Int) (v4 v7 : Value) (ws gs : List ByteArray) (W : World) : Prop where
  b1 : W.heap[g1]? = some (.cells #[.slice A n c, .int .i64 r] 24 (0, 0))
  r4 : Kd.string.R 9 W w.heap.size (fun k => k < B6) v4 ws
  r7 : Kd.string.R 9 W w.heap.size (fun k => B7 ≤ k) v7 gs
  l1 : g1 < B6
  lB : B6 ≤ B7
  b : Below w.heap.size w W
theorem laws_FnExactFuncsOf.Sm.below {w : World} {g1 B6 B7 : Nat} {A : Option Addr} {c n : Nat} {r : Int} {v4 v7 : Value} {ws gs : List ByteArray} {W W' : World} (h : laws_FnExactFuncsOf.Sm w g1 B6 B7 A c n r v4 v7 ws gs W) (hb : Below W.heap.size W W') : laws_FnExactFuncsOf.Sm w g1 B6 B7 A c n r v4 v7 ws gs W' :=
  ⟨blk_below h.b1 hb, Kd.R_below h.r4 hb, Kd.R_below h.r7 hb, h.l1, h.lB, h.b.trans (hb.mono h.b.size)⟩
theorem laws_FnExactFuncsOf.St.marked {w : World} {g1 g6 B6 B7 : Nat} {A : Option Addr} {c n : Nat} {r tr : Int} {v4 vx v7 : Value} {ws gs : List ByteArray} {t : List S52} {W W' : World} (h : laws_FnExactFuncsOf.St w g1 g6 B6 B7 A c n r tr v4 vx v7 ws gs t W) (hb : Below w.heap.size w W') (hk : Kept W W' (fun k => B6 ≤ k ∧ k < B7)) : laws_FnExactFuncsOf.Sm w g1 B6 B7 A c n r v4 v7 ws gs W' :=
  ⟨blk_kept h.b1 hk (fun hs => by have := h.l1; omega), Kd.R_kept h.r4 hk (fun k h1 h2 => by omega), Kd.R_kept h.r7 hk (fun k h1 h2 => by omega), h.l1, h.lB, hb⟩
theorem laws_FnExactFuncsOf.Sm.texts {w : World} {g1 B6 B7 : Nat} {A : Option Addr} {c n : Nat} {r : Int} {v4 v7 : Value} {ws gs gs' : List ByteArray} {W W' : World} (h : laws_FnExactFuncsOf.Sm w g1 B6 B7 A c n r v4 v7 ws gs W) (hr : Kd.string.R 9 W' w.heap.size (fun k => some k = v7.ownBlock ∨ W.heap.size ≤ k) v7 gs') (hb : Below w.heap.size w W') (hk : Kept W W' (fun k => some k = v7.ownBlock)) : laws_FnExactFuncsOf.Sm w g1 B6 B7 A c n r v4 v7 ws gs' W' :=
  ⟨blk_kept h.b1 hk (fun hs => by have := h.r7.1 g1 hs.symm; have := h.l1; have := h.lB; omega), Kd.R_kept h.r4 hk (fun k h1 h2 => by have := h.r7.1 k h2.symm; have := h.lB; omega), Kd.R_mono (Kd.R_tight rfl hr) (fun k hs => h.r7.1 k hs.symm), h.l1, h.lB, hb⟩
set_option maxHeartbeats 2000000 in
set_option maxRecDepth 100000 in
theorem laws_FnExactFuncsOf.big (k : Nat) (A : Option Addr) (c : Nat) (l : List S65) (r : Int) (w : World) (hr : Kd.C k65 w A l.length l) (hc : l.length ≤ c) (z : Int) (hz : z < 0) (e0 : laws_szTree.f k l r 1048576 = some z) :
    Calls Try.prog 9 #[.agg #[.slice A l.length c, .int .i64 r]] w fun e w' => e = .returned (.bool true) ∧ Below w.heap.size w w' := by
  have hu := Try.underlying24
  have hal := below_alloc (Below.refl w.heap.size w) (.cells #[.slice A l.length c, .int .i64 r] 24)
  have hcall := laws_szTree.calls k A c l r 1048576 z (w.alloc (.cells #[.slice A l.length c, .int .i64 r] 24)) (Kd.C_below hr hal) hc e0
  have b0 : decide (z < 0) = true := decide_eq_true hz
  have HAL := Lib.hid hal
  clear hr hc hz e0 hal
  go_enter Try.func9, Try.ntmps9
  go_wp2_with (go_at_call 10; (with_reducible refine hcall.mono ?_); rintro e w' ⟨rfl, hb⟩; have HBc := Lib.hid hb; clear hb hcall)
  go_ret
  exact ⟨rfl, HAL.out.trans (HBc.out.mono HAL.out.size)⟩
set_option maxHeartbeats 8000000 in
set_option maxRecDepth 100000 in
theorem laws_FnExactFuncsOf.walk (k : Nat) (A : Option Addr) (c : Nat) (l : List S65) (r : Int) (w : World) (hr : Kd.C k65 w A l.length l) (hc : l.length ≤ c) (z : Int) (hz : ¬ z < 0) (e0 : laws_szTree.f k l r 1048576 = some z)
    (t : List S52) (tr : Int) (e1 : laws_toTree.f k l r = some (t, tr)) (ws : List ByteArray) (wc0 : Int) (e2 : spec_FuncsOf.f k t tr = some (ws, wc0)) (gs : List ByteArray) (e3 : impl_FuncsOf.f k t tr = some (gs, wc0)) (mk : Int) (e4 : laws_markNodeS.f k t 1 = some mk) (m1 : Int) (m2 : List ByteArray) (e5 : laws_markStringS.f k gs 1 = some (m1, m2))
    (q1 : laws_eqStringS.f k gs ws = some true) (q2 : laws_eqTree.f k t tr t tr = some true) (q3 : 0 ≤ mk) (q4 : 0 ≤ m1) (q5 : laws_heldStringS.f k m2 1 = some m1) (q6 : t.length ≤ 4611686018427387904) :
    Calls Try.prog 9 #[.agg #[.slice A l.length c, .int .i64 r]] w fun e w' => e = .returned (.bool true) ∧ Below w.heap.size w w' := by
  have hu := Try.underlying24
  have hu2 := Try.underlying29
  have b0 : decide (z < 0) = false := decide_eq_false hz
  have b1 : decide (mk < 0) = false := decide_eq_false (by omega)
  have b2 : decide (m1 < 0) = false := decide_eq_false (by omega)
  have HR := Lib.hid hr
  have HC := Lib.hid hc
  have E0 := Lib.hid e0
  have E1 := Lib.hid e1
  have E2 := Lib.hid e2
  have E3 := Lib.hid e3
  have E4 := Lib.hid e4
  have E5 := Lib.hid e5
  have Q1 := Lib.hid q1
  have Q2 := Lib.hid q2
  have Q5 := Lib.hid q5
  have Q6 := Lib.hid q6
  have HAL := Lib.hid (below_alloc (Below.refl w.heap.size w) (.cells #[.slice A l.length c, .int .i64 r] 24))
  have hcall := laws_szTree.calls k A c l r 1048576 z (w.alloc (.cells #[.slice A l.length c, .int .i64 r] 24)) (Kd.C_below hr HAL.out) hc e0
  have HB1 := Lib.hid (blk_new w (.cells #[.slice A l.length c, .int .i64 r] 24 (0, 0)))
  clear hr hc hz e0 e1 e2 e3 e4 e5 q1 q2 q3 q4 q5 q6
  go_enter Try.func9, Try.ntmps9
  go_upto_region 5 with (go_at_call 10; (with_reducible refine hcall.mono ?_); rintro e w1 ⟨rfl, hb⟩; have HBc := Lib.hid hb; clear hb hcall)
  have H1 := Lib.hid (blk_below HB1.out HBc.out)
  have HW1 := Lib.hid (HAL.out.trans (HBc.out.mono HAL.out.size))
  clear HB1 HBc HAL
  -- the reference's answer
  go_cut [4, 5] from 19 to 24 (fun v4 v5 wx => ∃ B6 : Nat, v5 = .int .i64 wc0 ∧ Aside0 (wx.heap[w.heap.size]? = some (.cells #[.slice A l.length c, .int .i64 r] 24 (0, 0))) ∧ Aside0 (Kd.string.R 9 wx w.heap.size (fun k => k < B6) v4 ws) ∧ Aside0 (w.heap.size < B6) ∧ Aside0 (B6 ≤ wx.heap.size) ∧ Aside0 (Below w.heap.size w wx))
  case first =>
    have x0 := blk_cell H1.out 0
    have x1 := blk_cell H1.out 1
    have hcall := laws_toTree.calls k A c l r t tr w1 (Kd.C_below HR.out HW1.out) HC.out E1.out
    go_wp2_with (first | (go_at_call 12; (with_reducible refine hcall.mono ?_); rintro e w2 ⟨v0, rfl, hs, hb⟩; have HBd := Lib.hid hb; obtain ⟨A2, c2, rfl, hc2, hC2⟩ := Kd.S_reads hs; have hcall2 := spec_FuncsOf.calls k A2 c2 t tr ws wc0 w2 hC2 hc2 E2.out; clear hb hs hC2 hcall) | (go_at_call 25; (with_reducible refine hcall2.mono ?_); rintro e w3 ⟨v4, rfl, hr4, hb⟩; have HBe := Lib.hid hb; have HR4 := Lib.hid hr4; clear hb hr4 hcall2))
    go_meet
    case rel =>
      have hw2 := HW1.out.trans (HBd.out.mono HW1.out.size)
      have hlt := blk_lt (blk_below (blk_below H1.out HBd.out) HBe.out)
      exact ⟨w3.heap.size, rfl, ⟨blk_below (blk_below H1.out HBd.out) HBe.out⟩, ⟨Kd.R_mono (Kd.R_bound (Kd.R_lower HR4.out hw2.size)) (fun k hk => hk.2.2.1)⟩, ⟨hlt⟩, ⟨Nat.le_refl _⟩, ⟨hw2.trans (HBe.out.mono hw2.size)⟩⟩
  case rest =>
    clear H1 HW1
    obtain ⟨B6, rfl, H1, R4, L1, L6, HB⟩ := hcut
    -- the tree that is handed in
    go_upto_region 6 with fail
    go_cut [6] from 25 to 26 (fun v6 wx => ∃ (g6 B7 : Nat) (A2 : Option Addr) (c2 : Nat), v6 = .pointer (some ⟨g6, 0, none⟩) ∧ Aside0 (wx.heap[w.heap.size]? = some (.cells #[.slice A l.length c, .int .i64 r] 24 (0, 0))) ∧ Aside0 (wx.heap[g6]? = some (.cells #[.slice A2 t.length c2, .int .i64 tr] 29 (0, 0))) ∧ Aside0 (Kd.string.R 9 wx w.heap.size (fun k => k < B6) u4 ws) ∧ Aside0 (Kd.S k52 52 wx w.heap.size (fun k => B6 ≤ k ∧ k < B7) (.slice A2 t.length c2) t) ∧ Aside0 (B7 ≤ g6) ∧ Aside0 (B6 ≤ B7) ∧ Aside0 (B7 ≤ wx.heap.size) ∧ Aside0 (Below w.heap.size w wx))
    case first =>
      have x0 := blk_cell H1.out 0
      have x1 := blk_cell H1.out 1
      have hcall := laws_toTree.calls k A c l r t tr wc (Kd.C_below HR.out HB.out) HC.out E1.out
      go_wp2_with (go_at_call 12; (with_reducible refine hcall.mono ?_); rintro e w2 ⟨v0, rfl, hs, hb⟩; have HBd := Lib.hid hb; obtain ⟨A2, c2, rfl⟩ := Kd.S_slice hs; have HS2 := Lib.hid hs; clear hb hs hcall)
      go_meet
      case rel => exact ⟨w2.heap.size, w2.heap.size, A2, c2, rfl, ⟨blk_alloc (blk_below H1.out HBd.out) _⟩, ⟨blk_new _ _⟩, ⟨Kd.R_alloc (Kd.R_below R4.out HBd.out) _⟩, ⟨Kd.S_alloc (Kd.S_lower (Kd.S_mono (Kd.S_bound HS2.out) (fun k hk => ⟨Nat.le_trans L6.out hk.2.1, hk.2.2.1⟩)) HB.out.size) _⟩, ⟨Nat.le_refl _⟩, ⟨Nat.le_trans L6.out HBd.out.size⟩, ⟨(below_alloc (Below.refl _ _) _).size⟩, ⟨below_alloc (HB.out.trans (HBd.out.mono HB.out.size)) _⟩⟩
    case rest =>
      clear H1 R4 HB L6
      obtain ⟨g6, B7, A2, c2, rfl, H1, H6, R4, SX, L6, LB, LW, HB⟩ := hcut
      -- the program's answer
      go_upto_region 7 with fail
      go_cut [7, 8] from 27 to 31 (fun v7 v8 wx => v8 = .int .i64 wc0 ∧ Aside0 (laws_FnExactFuncsOf.St w w.heap.size g6 B6 B7 A c l.length r tr u4 (.slice A2 t.length c2) v7 ws gs t wx))
      case first =>
        have x0 := blk_cell H6.out 0
        have x1 := blk_cell H6.out 1
        have hrd := Kd.S_reads' SX.out
        have hcall := impl_FuncsOf.calls k A2 c2 t tr gs wc0 wc hrd.2.2 hrd.2.1 E3.out
        clear hrd
        go_wp2_with (go_at_call 26; (with_reducible refine hcall.mono ?_); rintro e w2 ⟨v7, rfl, hs, hb⟩; have HBd := Lib.hid hb; have HS2 := Lib.hid hs; clear hb hs hcall)
        go_meet
        case rel => exact ⟨rfl, ⟨blk_below H1.out HBd.out, blk_below H6.out HBd.out, Kd.R_below R4.out HBd.out, Kd.S_below SX.out HBd.out, Kd.R_lower (Kd.R_mono (Kd.R_bound HS2.out) (fun k hk => Nat.le_trans LW.out hk.2.1)) HB.out.size, L1.out, L6.out, LB.out, HB.out.trans (HBd.out.mono HB.out.size)⟩⟩
      case rest =>
        clear H1 H6 R4 SX L6 LB LW HB L1
        obtain ⟨rfl, HS⟩ := hcut
        obtain ⟨A7, c7, rfl⟩ := Kd.R_slice HS.out.r7
        obtain ⟨A4, c4, rfl⟩ := Kd.R_slice HS.out.r4
        have r7 := Kd.R_reads' HS.out.r7
        have r4 := Kd.R_reads' HS.out.r4
        have hcall := laws_eqStringS.calls k A7 c7 gs A4 c4 ws true wc r7.2.2 r7.2.1 r4.2.2 r4.2.1 Q1.out
        clear r7 r4
        go_upto_region 10 with (go_at_call 27; (with_reducible refine hcall.mono ?_); rintro e w2 ⟨rfl, hd⟩; have HS2 := Lib.hid (HS.out.below hd.below); clear hd hcall HS)
        -- nothing of the tree was changed
        go_cut [45] from 41 to 45 (fun v45 wx => v45 = .bool false ∧ Aside0 (laws_FnExactFuncsOf.St w w.heap.size g6 B6 B7 A c l.length r tr (.slice A4 ws.length c4) (.slice A2 t.length c2) (.slice A7 gs.length c7) ws gs t wx))
        case first =>
          have x0 := blk_cell HS2.out.b1 0
          have x1 := blk_cell HS2.out.b1 1
          have y0 := blk_cell HS2.out.b6 0
          have y1 := blk_cell HS2.out.b6 1
          go_region_with (first | (go_at_call 12; (with_reducible refine (laws_toTree.calls k A c l r t tr _ ?q1 HC.out E1.out).mono ?_); (case q1 => exact Kd.C_below HR.out (below_drew HS2.out.b)); rintro e w3 ⟨v0, rfl, hs, hb⟩; have HBd := Lib.hid hb; obtain ⟨A3, c3, rfl⟩ := Kd.S_slice hs; have HS3 := Lib.hid hs; have HS4 := Lib.hid ((HS2.out.below (below_drew (Below.refl _ _))).below hb); have z0 := blk_cell HS4.out.b6 0; have z1 := blk_cell HS4.out.b6 1; clear hb hs) | (go_at_call 14; (with_reducible refine (laws_eqTree.calls k A2 c2 t tr A3 c3 t tr true _ ?q1 ?q2 ?q3 ?q4 Q2.out).mono ?_); (case q1 => exact (Kd.S_reads' HS4.out.sx).2.2); (case q2 => exact (Kd.S_reads' HS4.out.sx).2.1); (case q3 => exact (Kd.S_reads' HS3.out).2.2); (case q4 => exact (Kd.S_reads' HS3.out).2.1); rintro e w4 ⟨rfl, hb⟩; have HS5 := Lib.hid (HS4.out.below hb); clear hb))
          all_goals go_wp2_with fail
          all_goals go_meet
          all_goals (case rel => exact ⟨rfl, ⟨HS5.out⟩⟩)
        case rest =>
          clear HS2
          obtain ⟨rfl, HS⟩ := hcut
          -- the tree's marks
          go_upto_region 13 with fail
          go_cut [9] from 46 to 48 (fun v9 wx => v9 = .int .i64 mk ∧ Aside0 (laws_FnExactFuncsOf.Sm w w.heap.size B6 B7 A c l.length r (.slice A4 ws.length c4) (.slice A7 gs.length c7) ws gs wx))
          case first =>
            have y0 := blk_cell HS.out.b6 0
            have y1 := blk_cell HS.out.b6 1
            have hcall := laws_markTree.calls k (fun q => B6 ≤ q ∧ q < B7) (.slice A2 t.length c2) t tr 1 mk w wc HS.out.b HS.out.sx Q6.out E4.out
            go_wp2_with (go_at_call 28; (with_reducible refine hcall.mono ?_); rintro e w2 ⟨rfl, hb, hk⟩; have HM := Lib.hid (HS.out.marked hb hk); clear hb hk hcall)
            go_meet
            case rel => exact ⟨rfl, ⟨HM.out⟩⟩
          case rest =>
            clear HS
            obtain ⟨rfl, HS⟩ := hcut
            have r7 := Kd.R_reads' HS.out.r7
            have r4 := Kd.R_reads' HS.out.r4
            have hcall := laws_eqStringS.calls k A7 c7 gs A4 c4 ws true wc r7.2.2 r7.2.1 r4.2.2 r4.2.1 Q1.out
            clear r7 r4
            go_upto_region 17 with (go_at_call 27; (with_reducible refine hcall.mono ?_); rintro e w2 ⟨rfl, hd⟩; have HS2 := Lib.hid (HS.out.below hd.below); clear hd hcall HS)
            -- the answer's marks
            go_cut [10] from 62 to 64 (fun v10 wx => v10 = .int .i64 m1 ∧ Aside0 (laws_FnExactFuncsOf.Sm w w.heap.size B6 B7 A c l.length r (.slice A4 ws.length c4) (.slice A7 gs.length c7) ws m2 wx))
            case first =>
              have hcall := fun W (h : laws_FnExactFuncsOf.Sm w w.heap.size B6 B7 A c l.length r (.slice A4 ws.length c4) (.slice A7 gs.length c7) ws gs W) => laws_markStringS.calls k (fun q => some q = (Value.slice A7 gs.length c7).ownBlock) (.slice A7 gs.length c7) gs 1 m1 m2 w W h.b (Kd.R_tight rfl h.r7) E5.out
              go_wp2_with (go_at_call 29; (with_reducible refine (hcall _ HS2.out).mono ?_); rintro e w3 ⟨rfl, hr, hb, hk⟩; have HM := Lib.hid (HS2.out.texts hr hb hk); clear hr hb hk hcall)
              go_meet
              case rel => exact ⟨rfl, ⟨HM.out⟩⟩
            case rest =>
              clear HS2
              obtain ⟨rfl, HS⟩ := hcut
              have r7 := Kd.R_reads' HS.out.r7
              have hheld : ∀ W, laws_FnExactFuncsOf.Sm w w.heap.size B6 B7 A c l.length r (.slice A4 ws.length c4) (.slice A7 gs.length c7) ws m2 W → Calls Try.prog 30 #[.slice A7 gs.length c7, .int .i64 1] W fun e w' => e = .returned (.int .i64 m1) ∧ Below W.heap.size W w' := fun W h => by
                have r7 := Kd.R_reads' h.r7
                have hc := laws_heldStringS.calls k A7 c7 m2 1 m1 W r7.2.2 (by omega) Q5.out
                rw [← r7.1] at hc
                exact hc
              clear r7
              have hcall := hheld wc HS.out
              go_upto_region 24 with (go_at_call 30; (with_reducible refine hcall.mono ?_); rintro e w2 ⟨rfl, hd⟩; have HS2 := Lib.hid (HS.out.below hd); clear hd hcall HS)
              -- once more
              go_cut [12, 13] from 73 to 78 (fun v12 v13 wx => ∃ (A12 : Option Addr) (c12 : Nat), v12 = .slice A12 gs.length c12 ∧ v13 = .int .i64 wc0 ∧ Aside0 (gs.length ≤ c12) ∧ Aside0 (Kd.string.C wx A12 gs.length gs) ∧ Aside0 (laws_FnExactFuncsOf.Sm w w.heap.size B6 B7 A c l.length r (.slice A4 ws.length c4) (.slice A7 gs.length c7) ws m2 wx))
              case first =>
                have x0 := blk_cell HS2.out.b1 0
                have x1 := blk_cell HS2.out.b1 1
                go_wp2_with (first | (go_at_call 12; (with_reducible refine (laws_toTree.calls k A c l r t tr _ ?q1 HC.out E1.out).mono ?_); (case q1 => exact Kd.C_below HR.out HS2.out.b); rintro e w3 ⟨v0, rfl, hs, hb⟩; obtain ⟨A3, c3, rfl⟩ := Kd.S_slice hs; have HS3 := Lib.hid hs; have HS4 := Lib.hid (HS2.out.below hb); clear hb hs) | (go_at_call 26; (with_reducible refine (impl_FuncsOf.calls k A3 c3 t tr gs wc0 _ ?q1 ?q2 E3.out).mono ?_); (case q1 => exact (Kd.S_reads' HS3.out).2.2); (case q2 => exact (Kd.S_reads' HS3.out).2.1); rintro e w4 ⟨v12, rfl, hs, hb⟩; obtain ⟨A12, c12, rfl⟩ := Kd.R_slice hs; have HS5 := Lib.hid (HS4.out.below hb); have HR12 := Lib.hid (Kd.R_reads' hs); clear hb hs))
                go_meet
                case rel => exact ⟨A12, c12, rfl, rfl, ⟨HR12.out.2.1⟩, ⟨HR12.out.2.2⟩, ⟨HS5.out⟩⟩
              case rest =>
                clear HS2
                obtain ⟨A12, c12, rfl, rfl, HC12, HR12, HS⟩ := hcut
                have r4 := Kd.R_reads' HS.out.r4
                have hcall := laws_eqStringS.calls k A12 c12 gs A4 c4 ws true wc HR12.out HC12.out r4.2.2 r4.2.1 Q1.out
                clear r4
                go_upto_region 28 with (go_at_call 27; (with_reducible refine hcall.mono ?_); rintro e w2 ⟨rfl, hd⟩; have HS2 := Lib.hid (HS.out.below hd.below); clear hd hcall HS)
                go_wp2_with (go_at_call 30; (with_reducible refine (hheld _ HS2.out).mono ?_); rintro e w3 ⟨rfl, hd⟩; have HS3 := Lib.hid (HS2.out.below hd); clear hd)
                go_ret
                exact ⟨rfl, HS3.out.b⟩
theorem laws_FnExactFuncsOf.calls (k : Nat) (A0_0 : Option Addr) (c0_0 : Nat) (l0_0 : List S65) (a0_1 : Int) (r : Bool) (w : World) (hr0_0 : Kd.C k65 w A0_0 l0_0.length l0_0) (hc0_0 : l0_0.length ≤ c0_0) (h : laws_FnExactFuncsOf.f k l0_0 a0_1 = some r) :
    Calls Try.prog 9 #[.agg #[.slice A0_0 l0_0.length c0_0, .int .i64 a0_1]] w fun e w' => e = .returned (.bool r) ∧ Below w.heap.size w w' := by
  unfold laws_FnExactFuncsOf.f at h
  obtain ⟨z, e0, h⟩ := Option.bind_eq_some_iff.1 h
  by_cases hz : z < 0
  · rw [if_pos hz] at h
    obtain rfl := Option.some.inj h
    exact laws_FnExactFuncsOf.big k A0_0 c0_0 l0_0 a0_1 w hr0_0 hc0_0 z hz e0
  rw [if_neg hz] at h
  obtain ⟨t, e1, h⟩ := Option.bind_eq_some_iff.1 h
  obtain ⟨ws, e2, h⟩ := Option.bind_eq_some_iff.1 h
  obtain ⟨gs, e3, h⟩ := Option.bind_eq_some_iff.1 h
  obtain ⟨mk, e4, h⟩ := Option.bind_eq_some_iff.1 h
  obtain ⟨ms, e5, h⟩ := Option.bind_eq_some_iff.1 h
  by_cases hg : laws_eqStringS.f k gs.1 ws.1 = some true ∧ gs.2 = ws.2 ∧ laws_eqTree.f k t.1 t.2 t.1 t.2 = some true ∧ 0 ≤ mk ∧ 0 ≤ ms.1 ∧ laws_heldStringS.f k ms.2 1 = some ms.1 ∧ t.1.length ≤ 4611686018427387904
  case neg => rw [if_neg hg] at h; cases h
  rw [if_pos hg] at h
  obtain rfl := Option.some.inj h
  obtain ⟨q1, q2, q3, q4, q5, q6, q7⟩ := hg
  obtain ⟨gs1, gs2⟩ := gs
  obtain ⟨ws1, ws2⟩ := ws
  obtain rfl : gs2 = ws2 := q2
  exact laws_FnExactFuncsOf.walk k A0_0 c0_0 l0_0 a0_1 w hr0_0 hc0_0 z hz e0 t.1 t.2 e1 ws1 _ e2 gs1 e3 mk e4 ms.1 ms.2 e5 q1 q3 q4 q5 q6 q7

end Go.Proofs.Ytngcheicabbpoaa.QFnExactFuncsOf
