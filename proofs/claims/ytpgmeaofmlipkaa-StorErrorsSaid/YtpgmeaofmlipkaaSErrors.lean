/- Walks and contracts over the store of tuples (Errors). No condition beyond those that each contract names. -/
import Derived.Test.YtpgmeaofmlipkaaSAwake
import Derived.Lib.Hide
import Derived.Laws.EntriesVeiled
import Derived.Shelf.SlicesQ.IndexFunc
namespace Go.Proofs.Ytpgmeaofmlipkaa.PT
open Go.RowKit Go.Proofs.YtpgmeaofmlipkaaW.PrintWords Go.Proofs.YtpgmeaofmlipkaaW.PrintLast Go.Proofs.YtpgmeaofmlipkaaW.PrintMore
attribute [local go_sem] max2_int min2_int max_two min_two max_three min_three max_four min_four
set_option linter.unusedVariables false
set_option linter.unusedSimpArgs false
open Go.Proofs.YtpgmeaofmlipkaaH
/-- Two rows in different blocks. -/
def NeR (v v' : Value) : Prop := ∀ k, v.ownBlock = some k → v'.ownBlock ≠ some k
theorem ner_nil (v : Value) : NeR v (.slice none 0 0) := fun k _ h => by simp [Value.ownBlock] at h
theorem row_lt {w : World} {B A c l} (h : Row w B A c l) : ∀ k, (Value.slice A l.length c).ownBlock = some k → k < w.heap.size := by
  obtain ⟨inner, ho⟩ := Kd.R_own h.out
  exact fun k hk => own_lt ho k hk
theorem ner_new {w : World} {B A c l} (h : Row w B A c l) (n c' : Nat) : NeR (.slice A l.length c) (.slice (some ⟨w.heap.size, 0, none⟩) n c') := fun k hk he => by
  have := row_lt h k hk
  simp [Value.ownBlock] at he
  omega
theorem ner_new' {w : World} {B A c l} (h : Row w B A c l) (n c' : Nat) : NeR (.slice (some ⟨w.heap.size, 0, none⟩) n c') (.slice A l.length c) := fun k he hk => by
  have := row_lt h k hk
  simp [Value.ownBlock] at he
  omega
/-- A batch in a variable, its rows made since W3. -/
structure BV (W3 : World) (bb : Nat) (x : BArg) (W : World) : Prop where
  bx : W.heap[bb]? = some (.cells #[.slice x.A1 x.l1.length x.c1, .slice x.A2 x.l2.length x.c2, .slice x.A3 x.l3.length x.c3, .slice x.A4 x.l4.length x.c4] 54 (0, 0))
  r1 : Row W W3.heap.size x.A1 x.c1 x.l1
  r2 : Row W W3.heap.size x.A2 x.c2 x.l2
  r3 : Row W W3.heap.size x.A3 x.c3 x.l3
  r4 : Row W W3.heap.size x.A4 x.c4 x.l4
  bw : Below W3.heap.size W3 W
  ge : W3.heap.size ≤ bb
  p1 : NeR (.slice x.A1 x.l1.length x.c1) (.slice x.A4 x.l4.length x.c4)
  p2 : NeR (.slice x.A2 x.l2.length x.c2) (.slice x.A4 x.l4.length x.c4)
  p3 : NeR (.slice x.A3 x.l3.length x.c3) (.slice x.A4 x.l4.length x.c4)
theorem BV.below {W3 : World} {bb : Nat} {x : BArg} {W W' : World} (h : BV W3 bb x W) (hb : Below W.heap.size W W') : BV W3 bb x W' :=
  ⟨blkB h.bx hb, h.r1.below hb, h.r2.below hb, h.r3.below hb, h.r4.below hb, below_then h.bw h.bw.size hb, h.ge, h.p1, h.p2, h.p3⟩
theorem BV.f0 {W3 : World} {bb : Nat} {x : BArg} {W : World} (h : BV W3 bb x W) : W.cell? ⟨bb, 0, none⟩ = some (.slice x.A1 x.l1.length x.c1) := (blk_cell h.bx 0).trans rfl
theorem BV.f1 {W3 : World} {bb : Nat} {x : BArg} {W : World} (h : BV W3 bb x W) : W.cell? ⟨bb, 1, none⟩ = some (.slice x.A2 x.l2.length x.c2) := (blk_cell h.bx 1).trans rfl
theorem BV.f2 {W3 : World} {bb : Nat} {x : BArg} {W : World} (h : BV W3 bb x W) : W.cell? ⟨bb, 2, none⟩ = some (.slice x.A3 x.l3.length x.c3) := (blk_cell h.bx 2).trans rfl
theorem BV.f3 {W3 : World} {bb : Nat} {x : BArg} {W : World} (h : BV W3 bb x W) : W.cell? ⟨bb, 3, none⟩ = some (.slice x.A4 x.l4.length x.c4) := (blk_cell h.bx 3).trans rfl
theorem BV.fz {W3 : World} {bb : Nat} {x : BArg} {W : World} (h : BV W3 bb x W) (i : Nat) : W.frozen? ⟨bb, i, none⟩ = false := blk_frozen h.bx i
/-- A row of tuples is as it was behind a store into a batch's variable. -/
theorem Row.setB {w : World} {B A c l} (h : Row w B A c l) {b : Nat} {cs : Array Value} (hb : w.heap[b]? = some (.cells cs 54 (0, 0))) (j : Nat) (u : Value) : Row (w.setCell ⟨b, j, none⟩ u) B A c l :=
  ⟨Kd.R_mono (Kd.R_step (Kd.R_bound h.out) (fun k hk _ => Below.heap_setCell w ⟨b, j, none⟩ u k (by
    obtain ⟨_, _, _, q, hq, cells, hc⟩ := hk
    rintro rfl
    rw [hb] at hc
    injection hc with hc
    injection hc with _ hc
    rw [← hc] at hq
    exact absurd hq (by decide)))) (fun _ _ => trivial)⟩
theorem below_setW {w w1 : World} {B : Nat} (h : Below B w w1) {p : Addr} (hp : B ≤ p.block) (u : Value) : Below B w (w1.setCell p u) := h.setCell hp u
/-- A field of the batch is stored. -/
theorem BV.set {W3 : World} {bb : Nat} {x : BArg} {W : World} (h : BV W3 bb x W) (j : Nat) (u : Value) (y : BArg)
    (hbx : (W.setCell ⟨bb, j, none⟩ u).heap[bb]? = some (.cells #[.slice y.A1 y.l1.length y.c1, .slice y.A2 y.l2.length y.c2, .slice y.A3 y.l3.length y.c3, .slice y.A4 y.l4.length y.c4] 54 (0, 0)))
    (h1 : Row W W3.heap.size y.A1 y.c1 y.l1) (h2 : Row W W3.heap.size y.A2 y.c2 y.l2) (h3 : Row W W3.heap.size y.A3 y.c3 y.l3) (h4 : Row W W3.heap.size y.A4 y.c4 y.l4) (n1 : NeR (.slice y.A1 y.l1.length y.c1) (.slice y.A4 y.l4.length y.c4)) (n2 : NeR (.slice y.A2 y.l2.length y.c2) (.slice y.A4 y.l4.length y.c4)) (n3 : NeR (.slice y.A3 y.l3.length y.c3) (.slice y.A4 y.l4.length y.c4)) : BV W3 bb y (W.setCell ⟨bb, j, none⟩ u) :=
  ⟨hbx, h1.setB h.bx j u, h2.setB h.bx j u, h3.setB h.bx j u, h4.setB h.bx j u, below_setW h.bw h.ge u, h.ge, n1, n2, n3⟩
/-- What a part of StorErrors leaves: its error, the batch so far. -/
def BE (W3 : World) (bb : Nat) (l1 l2 l3 l4 : List S41) (n : Int) (s6 : Value) (W : World) : Prop := s6 = .int .i64 n ∧ ∃ x : BArg, BV W3 bb x W ∧ x.l1 = l1 ∧ x.l2 = l2 ∧ x.l3 = l3 ∧ x.l4 = l4
theorem km_flat {W : World} {base : Nat} {okp : Nat → Prop} (x : S41) (cs : List Value) (h : k41.K W x cs) : k41.M W base okp x cs := by
  rw [flat41.openK _ _ _ h]
  exact flat41.mkM _ _ _ _
/-- One row of the batch has been appended to: the others lie as they lay, if they are nil or lie apart. -/
theorem BV.app1 {W3 : World} {bb : Nat} {A1 : Option Addr} {c1 : Nat} {l1 : List S41} {W w1 : World} {v1 : Value} {l1' : List S41} (h : BV W3 bb ⟨A1, c1, l1, none, 0, [], none, 0, [], none, 0, []⟩ W)
    (hR : Kd.R k41 41 w1 W3.heap.size (fun _ => True) v1 l1') (hB : Below W3.heap.size W w1) (hg : W.grownBy w1 (Value.slice A1 l1.length c1).ownBlock) : ∃ A c, v1 = .slice A l1'.length c ∧ BV W3 bb ⟨A, c, l1', none, 0, [], none, 0, [], none, 0, []⟩ (w1.setCell ⟨bb, 0, none⟩ v1) ∧ w1.cell? ⟨bb, 0, none⟩ = some (.slice A1 l1.length c1) ∧ w1.frozen? ⟨bb, 0, none⟩ = false := by
  obtain ⟨A, c, rfl, hrow⟩ := row_of hR
  have hbx := blk_grown h.bx hg (Kd.R_ne h.r1.out h.bx (by decide))
  refine ⟨A, c, rfl, ⟨by simpa using blk_set hbx 0 (.slice A l1'.length c), hrow.setB hbx 0 _, Row.nil _ _, Row.nil _ _, Row.nil _ _, below_setW (h.bw.trans hB) h.ge _, h.ge, ner_nil _, ner_nil _, ner_nil _⟩, (blk_cell hbx 0).trans rfl, blk_frozen hbx 0⟩
theorem BV.app4 {W3 : World} {bb : Nat} {A1 : Option Addr} {c1 : Nat} {l1 : List S41} {A2 : Option Addr} {c2 : Nat} {l2 : List S41} {A3 : Option Addr} {c3 : Nat} {l3 : List S41} {A4 : Option Addr} {c4 : Nat} {l4 : List S41} {W w1 : World} {v1 : Value} {l4' : List S41} (h : BV W3 bb ⟨A1, c1, l1, A2, c2, l2, A3, c3, l3, A4, c4, l4⟩ W)
    (hR : Kd.R k41 41 w1 W3.heap.size (fun _ => True) v1 l4') (hB : Below W3.heap.size W w1) (hg : W.grownBy w1 (Value.slice A4 l4.length c4).ownBlock) (hat : v1.ownBlock = (Value.slice A4 l4.length c4).ownBlock ∨ ∃ b, v1.ownBlock = some b ∧ W.heap.size ≤ b) : ∃ A c, v1 = .slice A l4'.length c ∧ BV W3 bb ⟨A1, c1, l1, A2, c2, l2, A3, c3, l3, A, c, l4'⟩ (w1.setCell ⟨bb, 3, none⟩ v1) ∧ w1.cell? ⟨bb, 3, none⟩ = some (.slice A4 l4.length c4) ∧ w1.frozen? ⟨bb, 3, none⟩ = false := by
  obtain ⟨A, c, rfl, hrow⟩ := row_of hR
  have hbx := blk_grown h.bx hg (Kd.R_ne h.r4.out h.bx (by decide))
  have mv : ∀ {A c l}, Row W W3.heap.size A c l → NeR (.slice A l.length c) (.slice A4 l4.length c4) → Row w1 W3.heap.size A c l := fun {A c l} hr hn =>
    ⟨Kd.R_mono (Kd.R_step (Kd.R_mono (ok' := fun k => (Value.slice A l.length c).ownBlock = some k) ⟨fun k hk => hk, by
      obtain ⟨_, inner, ho, hp⟩ := hr.out
      exact ⟨inner, ho, hp.imp_ (fun x cs hx => km_flat x cs (k41.K_of_M hx))⟩⟩ (fun _ h => h)) (fun k hk hlt => hg.block k hlt (fun he => hn k hk he.symm))) (fun _ _ => trivial)⟩
  have nn : ∀ {A' c' l}, Row W W3.heap.size A' c' l → NeR (.slice A' l.length c') (.slice A4 l4.length c4) → NeR (.slice A' l.length c') (.slice A l4'.length c) := fun {A' c' l} hr hn k hk he => by
    rcases hat with h1 | ⟨b, h1, h2⟩
    · exact hn k hk (by rw [← h1]; exact he)
    · have := row_lt hr k hk
      rw [h1] at he
      injection he with he
      omega
  refine ⟨A, c, rfl, ⟨by simpa using blk_set hbx 3 (.slice A l4'.length c), (mv h.r1 h.p1).setB hbx 3 _, (mv h.r2 h.p2).setB hbx 3 _, (mv h.r3 h.p3).setB hbx 3 _, hrow.setB hbx 3 _, below_setW (h.bw.trans hB) h.ge _, h.ge, nn h.r1 h.p1, nn h.r2 h.p2, nn h.r3 h.p3⟩, (blk_cell hbx 3).trans rfl, blk_frozen hbx 3⟩
theorem smz : Small z41 := by decide
theorem err_all (f16 f8 f4 f2 f1 : Bool) (A1 : Option Addr) (c1 : Nat) (A2 : Option Addr) (c2 : Nat) (A3 : Option Addr) (c3 : Nat) (A4 : Option Addr) (c4 : Nat) :
    wErrA 2 [tm 0] ⟨A1, c1, cond f16 [tm 0, tm 2, tm 4] [tm 0], A2, c2, cond f2 [tm 0] [], A3, c3, cond f4 [tm 0, tm 1] [], A4, c4, cond f1 (cond f8 [tm 1, tm 0] [] ++ [z41]) (cond f8 [tm 1, tm 0] [])⟩ = cond f1 2 (cond f2 6 (cond f4 4 (cond f8 3 (cond f16 5 0)))) ∧
    pastA 2 [[]] [tm 0] ⟨A1, c1, cond f16 [tm 0, tm 2, tm 4] [tm 0], A2, c2, cond f2 [tm 0] [], A3, c3, cond f4 [tm 0, tm 1] [], A4, c4, cond f1 (cond f8 [tm 1, tm 0] [] ++ [z41]) (cond f8 [tm 1, tm 0] [])⟩ = [[]] ∧
    nowA 2 [tm 0] ⟨A1, c1, cond f16 [tm 0, tm 2, tm 4] [tm 0], A2, c2, cond f2 [tm 0] [], A3, c3, cond f4 [tm 0, tm 1] [], A4, c4, cond f1 (cond f8 [tm 1, tm 0] [] ++ [z41]) (cond f8 [tm 1, tm 0] [])⟩ = [tm 0] := by
  simp only [pastA, nowA, wErrA, wrongB, wErr, nextW, tm_sof]
  revert f16 f8 f4 f2 f1
  decide +kernel
set_option maxHeartbeats 8000000 in
set_option maxRecDepth 100000 in
theorem errors_c (which : Int) (w : World) : Calls Try.prog 10 #[.int .i64 which] w fun e w' => e = .returned (.bool true) ∧ Below w.heap.size w w' := by
  obtain ⟨f16, h16⟩ : ∃ b, (Go.bits .and .i64 which 16 != 0) = b := ⟨_, rfl⟩
  obtain ⟨f8, h8⟩ : ∃ b, (Go.bits .and .i64 which 8 != 0) = b := ⟨_, rfl⟩
  obtain ⟨f4, h4⟩ : ∃ b, (Go.bits .and .i64 which 4 != 0) = b := ⟨_, rfl⟩
  obtain ⟨f2, h2⟩ : ∃ b, (Go.bits .and .i64 which 2 != 0) = b := ⟨_, rfl⟩
  obtain ⟨f1, h1⟩ : ∃ b, (Go.bits .and .i64 which 1 != 0) = b := ⟨_, rfl⟩
  have H16 := Lib.hid h16
  have H8 := Lib.hid h8
  have H4 := Lib.hid h4
  have H2 := Lib.hid h2
  have H1 := Lib.hid h1
  clear h16 h8 h4 h2 h1
  go_enter Try.func10, Try.ntmps10
  go_wp2_with fail
  refine (new_any 2 _).mono ?_
  rintro e w1 ⟨g, q1, rfl, hst, hb⟩
  rw [clamp2] at hst
  have HS1 := Lib.hid hst
  have HB1 := Lib.hid hb
  clear hst hb
  go_wp2_with fail
  refine (tame_c 0 _).mono ?_
  rintro e w2 ⟨rfl, hb⟩
  have HS2 := Lib.hid (HS1.out.below hb)
  have HB2 := Lib.hid (chainB HB1.out hb)
  clear hb HS1 HB1
  go_wp2_with fail
  have hb3 := below_alloc (Below.refl w2.heap.size w2) (.cells #[.string (tm 0).f0.f0, .string (tm 0).f0.f1, .string (tm 0).f1, .string (tm 0).f2.f0, .string (tm 0).f2.f1, .string (tm 0).f2.f2] 41)
  have hr3 : Row (w2.alloc (.cells #[.string (tm 0).f0.f0, .string (tm 0).f0.f1, .string (tm 0).f1, .string (tm 0).f2.f0, .string (tm 0).f2.f1, .string (tm 0).f2.f2] 41)) w2.heap.size (some ⟨w2.heap.size, 0, none⟩) 1 [tm 0] := row_lit _ _ _ 1 rfl rfl (by decide)
  refine (write_eq (⟨some ⟨w2.heap.size, 0, none⟩, 1, [tm 0], none, 0, [], none, 0, [], none, 0, []⟩ : BArg) (n := 0) (past' := [[]]) (now' := [tm 0]) (by simp only [pastA, nowA, wErrA, wrongB, wErr, nextW, tm_sof]; decide +kernel) (by simp only [pastA, nowA, wErrA, wrongB, wErr, nextW, tm_sof]; decide +kernel) (by simp only [pastA, nowA, wErrA, wrongB, wErr, nextW, tm_sof]; decide +kernel) (HS2.out.below hb3) ⟨hr3.rd, Rd.nil _, Rd.nil _, Rd.nil _⟩ ⟨by simp, by simp, by simp, by simp⟩ ⟨by simp [sm0], by simp, by simp, by simp⟩ (by simp) (by simp [SS]) (by simp)).mono ?_
  rintro e w3 ⟨q2, rfl, hst, hk, hb⟩
  have HS3 := Lib.hid hst
  have HB3 := Lib.hid ((chainB HB2.out hb3).trans hb)
  clear hst hb hk hb3 hr3 HS2 HB2
  go_wp2_with fail
  refine (tame_c 0 _).mono ?_
  rintro e w4 ⟨rfl, hb⟩
  have HB4 := Lib.hid hb
  clear hb
  go_upto_region 7 with fail
  obtain ⟨W5, hW5⟩ : ∃ W5, W5 = (w4.alloc (.cells #[.string (tm 0).f0.f0, .string (tm 0).f0.f1, .string (tm 0).f1, .string (tm 0).f2.f0, .string (tm 0).f2.f1, .string (tm 0).f2.f2] 41)).alloc (.cells #[.slice (some ⟨w4.heap.size, 0, none⟩) 1 1, .slice none 0 0, .slice none 0 0, .slice none 0 0] 54) := ⟨_, rfl⟩
  rw [← hW5]
  have HV := Lib.hid (show BV w3 (w4.heap.size + 1) (⟨some ⟨w4.heap.size, 0, none⟩, 1, [tm 0], none, 0, [], none, 0, [], none, 0, []⟩ : BArg) W5 by
    have h1 := below_alloc (Below.refl w4.heap.size w4) (.cells #[.string (tm 0).f0.f0, .string (tm 0).f0.f1, .string (tm 0).f1, .string (tm 0).f2.f0, .string (tm 0).f2.f1, .string (tm 0).f2.f2] 41)
    have h2 := below_alloc (Below.refl (w4.alloc (.cells #[.string (tm 0).f0.f0, .string (tm 0).f0.f1, .string (tm 0).f1, .string (tm 0).f2.f0, .string (tm 0).f2.f1, .string (tm 0).f2.f2] 41)).heap.size _) (.cells #[.slice (some ⟨w4.heap.size, 0, none⟩) 1 1, .slice none 0 0, .slice none 0 0, .slice none 0 0] 54)
    have hr : Row (w4.alloc (.cells #[.string (tm 0).f0.f0, .string (tm 0).f0.f1, .string (tm 0).f1, .string (tm 0).f2.f0, .string (tm 0).f2.f1, .string (tm 0).f2.f2] 41)) w4.heap.size (some ⟨w4.heap.size, 0, none⟩) 1 [tm 0] := row_lit _ _ _ 1 rfl rfl (by decide)
    rw [hW5]
    exact ⟨heap_newS (by simp), (hr.below h2).lower HB4.out.size, Row.nil _ _, Row.nil _ _, Row.nil _ _, chainB (chainB HB4.out h1) h2, by have := HB4.out.size; omega, ner_nil _, ner_nil _, ner_nil _⟩)
  generalize w4.heap.size + 1 = bb at HV ⊢
  generalize w4.heap.size = b4 at HV ⊢
  clear hW5 HB4
  go_upto_if 22 with fail
  go_cut [6] (fun s6 wx => BE w3 bb (cond f16 [tm 0, tm 2, tm 4] [tm 0]) [] [] [] (cond f16 5 0) s6 wx)
  case first =>
    have h16 := H16.out
    cases f16 with
    | false =>
      go_wp2
      go_meet
      exact ⟨rfl, _, HV.out, rfl, rfl, rfl, rfl⟩
    | true =>
      go_upto_region 9 with fail
      refine start_ (n := 10) (S := fun w' => BV w3 bb (⟨some ⟨b4, 0, none⟩, 1, [tm 0], none, 0, [], none, 0, [], none, 0, []⟩ : BArg) w') (ds := [7, 9]) #[false, false, false, false, false, false, false, false, false, false] (by kernel_rfl) rfl rfl (HV.out.below (below_drew (Below.refl _ _))) (fun hHeld => ?_)
      clear HV
      generalize W5.drew = W6 at hHeld ⊢
      refine pure_ (i := 0) (N := some 23) (v := ?_) (a' := ?_) #[true, false, false, false, false, false, false, false, false, false] rfl rfl (by kernel_rfl) (fun _ _ _ h => h) (Or.inl ⟨by rfl, ?_⟩) ?_ ?_
      rotate_left
      · intro w'
        go_simp
        with_reducible rfl
      rotate_left
      · simp only [Act.put, List.setIfInBounds_toArray, List.set_cons_zero, List.set_cons_succ, i64_w, i32_w]
        rfl
      refine take_ (i := 1) (N := some 24) (v := ?_) (a' := ?_) #[true, true, false, false, false, false, false, false, false, false] rfl rfl (by kernel_rfl) (fun _ _ _ h => h) (Or.inl ⟨by rfl, ?_⟩) hHeld ?_ ?_
      rotate_left
      · rintro w' hx
        have f0 := hx.f0
        go_simp
        with_reducible rfl
      rotate_left
      · simp only [Act.put, List.setIfInBounds_toArray, List.set_cons_zero, List.set_cons_succ, i64_w, i32_w]
        rfl
      refine pure_ (i := 2) (N := some 25) (v := ?_) (a' := ?_) #[true, true, true, false, false, false, false, false, false, false] rfl rfl (by kernel_rfl) (fun _ _ _ h => h) (Or.inl ⟨by rfl, ?_⟩) ?_ ?_
      rotate_left
      · intro w'
        go_simp
        with_reducible rfl
      rotate_left
      · simp only [Act.put, List.setIfInBounds_toArray, List.set_cons_zero, List.set_cons_succ, i64_w, i32_w]
        rfl
      refine pure_ (i := 4) (N := some 27) (v := ?_) (a' := ?_) #[true, true, true, false, true, false, false, false, false, false] rfl rfl (by kernel_rfl) (fun _ _ _ h => h) (Or.inl ⟨by rfl, ?_⟩) ?_ ?_
      rotate_left
      · intro w'
        go_simp
        with_reducible rfl
      rotate_left
      · simp only [Act.put, List.setIfInBounds_toArray, List.set_cons_zero, List.set_cons_succ, i64_w, i32_w]
        rfl
      refine one_ (i := 3) (N := some 26) #[true, true, true, true, true, false, false, false, false, false] rfl rfl (by kernel_rfl) (by decide) (fun K hK => ?_)
      go_simp
      refine (tame_c 2 _).mono ?_
      rintro e w6 ⟨rfl, hb⟩
      have hHeld := hHeld.below hb
      refine hK.out _ _ (hHeld) (fun hHeld => ?_)
      clear hK K
      try simp only [Act.put, List.setIfInBounds_toArray, List.set_cons_zero, List.set_cons_succ, i64_w, i32_w]
      refine one_ (i := 5) (N := some 28) #[true, true, true, true, true, true, false, false, false, false] rfl rfl (by kernel_rfl) (by decide) (fun K hK => ?_)
      go_simp
      refine (tame_c 4 _).mono ?_
      rintro e w7 ⟨rfl, hb⟩
      replace hHeld := hHeld.below hb
      refine hK.out _ _ (hHeld) (fun hHeld => ?_)
      clear hK K
      try simp only [Act.put, List.setIfInBounds_toArray, List.set_cons_zero, List.set_cons_succ, i64_w, i32_w]
      refine one_ (i := 6) (N := some 29) #[true, true, true, true, true, true, true, false, false, false] rfl rfl (by kernel_rfl) (by decide) (fun K hK => ?_)
      go_simp
      refine hK.out _ _ (hHeld.below (below_alloc (Below.refl _ _) _)) (fun hHeld => ?_)
      clear hK K
      try simp only [Act.put, List.setIfInBounds_toArray, List.set_cons_zero, List.set_cons_succ, i64_w, i32_w]
      have hr8 : Row (w7.alloc (.cells #[.string (tm 2).f0.f0, .string (tm 2).f0.f1, .string (tm 2).f1, .string (tm 2).f2.f0, .string (tm 2).f2.f1, .string (tm 2).f2.f2, .string (tm 4).f0.f0, .string (tm 4).f0.f1, .string (tm 4).f1, .string (tm 4).f2.f0, .string (tm 4).f2.f1, .string (tm 4).f2.f2] 41)) w7.heap.size (some ⟨w7.heap.size, 0, none⟩) 2 [tm 2, tm 4] := row_lit _ _ _ 2 rfl rfl (by decide)
      generalize w7.heap.size = b7 at hr8 ⊢
      generalize w7.alloc (.cells #[.string (tm 2).f0.f0, .string (tm 2).f0.f1, .string (tm 2).f1, .string (tm 2).f2.f0, .string (tm 2).f2.f1, .string (tm 2).f2.f2, .string (tm 4).f0.f0, .string (tm 4).f0.f1, .string (tm 4).f1, .string (tm 4).f2.f0, .string (tm 4).f2.f1, .string (tm 4).f2.f2] 41) = w8 at hr8 hHeld ⊢
      refine last_ (i := 7) (N := some 30) #[true, true, true, true, true, true, true, true, false, false] rfl rfl (by kernel_rfl) (by decide) (fun K hK => ?_)
      refine Kd.R_append_rows_step k41 (w0 := w8) w3.heap.size (by rfl) (.tmp 24) (.tmp 29) 23 41 (.agg #[.string ⟨#[]⟩, .string ⟨#[]⟩, .string ⟨#[]⟩, .string ⟨#[]⟩, .string ⟨#[]⟩, .string ⟨#[]⟩]) 96 rfl Try.underlying23 (by kernel_rfl) rfl (by decide) (by decide) (.slice (some ⟨b4, 0, none⟩) 1 1) [tm 0] [tm 2, tm 4] (some ⟨b7, 0, none⟩) 2 2 (fun _ => True) (fun _ => False) rfl rfl hHeld.r1.out hr8.rd.C km_flat (fun _ h => h.elim) (fun _ _ => trivial) (Below.refl _ _) hHeld.bw.size (by decide) ?_
      intro v1 w9 hR1 hB1 hgr _
      obtain ⟨A9, c9, rfl, hV9, j0, jz⟩ := hHeld.app1 hR1 hB1 hgr
      refine hK.out _ _ ?_
      clear hK K
      try simp only [Act.put, List.setIfInBounds_toArray, List.set_cons_zero, List.set_cons_succ, i64_w, i32_w]
      clear hR1 hB1 hgr hr8 hHeld
      refine pure_ (i := 8) (N := some 31) (v := ?_) (a' := ?_) #[true, true, true, true, true, true, true, true, true, false] rfl rfl (by kernel_rfl) (fun _ _ _ h => h) (Or.inl ⟨by rfl, ?_⟩) ?_ ?_
      rotate_left
      · intro w'
        go_simp
        with_reducible rfl
      rotate_left
      · simp only [Act.put, List.setIfInBounds_toArray, List.set_cons_zero, List.set_cons_succ, i64_w, i32_w]
        rfl
      refine last_ (i := 9) (N := none) #[true, true, true, true, true, true, true, true, true, true] rfl rfl (by kernel_rfl) (by decide) (fun K hK => ?_)
      go_simp
      refine hK.out _ _ ?_
      clear hK K
      try simp only [Act.put, List.setIfInBounds_toArray, List.set_cons_zero, List.set_cons_succ, i64_w, i32_w]
      refine done_ (by kernel_rfl) ?_
      go_wp2
      go_meet
      exact ⟨rfl, _, hV9, rfl, rfl, rfl, rfl⟩
  case rest =>
    obtain ⟨hn6, x, hV, e1, e2, e3, e4⟩ := hcut
    obtain ⟨A1, c1, l1', A2, c2, l2', A3, c3, l3', A4, c4, l4'⟩ := x
    simp only at e1 e2 e3 e4
    obtain ⟨n1, hn⟩ : ∃ n : Int, n = cond f16 5 0 := ⟨_, rfl⟩
    rw [← hn] at hn6
    subst hn6
    obtain ⟨l1, hl⟩ : ∃ l, l = l1' := ⟨_, rfl⟩
    rw [← hl] at hV e1
    have L1 := Lib.hid e1
    clear hl e1
    subst l2'
    subst l3'
    subst l4'
    have N1 := Lib.hid hn
    have HV := Lib.hid hV
    clear hn hV
    go_upto_if 34 with fail
    go_cut [6] (fun s6 wx => BE w3 bb l1 [] [] (cond f8 [tm 1, tm 0] []) (cond f8 3 n1) s6 wx)
    case first =>
      have hf := H8.out
      cases f8 with
      | false =>
        go_wp2
        go_meet
        exact ⟨rfl, _, HV.out, rfl, rfl, rfl, rfl⟩
      | true =>
        have HV0 := Lib.hid HV.out
        go_wp2_with fail
        refine (tame_c 1 _).mono ?_
        rintro e v1 ⟨rfl, hb⟩
        have HV1 := Lib.hid (HV0.out.below hb)
        clear hb HV0
        go_wp2_with fail
        refine (tame_c 0 _).mono ?_
        rintro e v2 ⟨rfl, hb⟩
        have HV2 := Lib.hid (HV1.out.below hb)
        clear hb HV1
        have HA := Lib.hid (HV2.out.below (below_alloc (Below.refl _ _) (.cells #[.string (tm 1).f0.f0, .string (tm 1).f0.f1, .string (tm 1).f1, .string (tm 1).f2.f0, .string (tm 1).f2.f1, .string (tm 1).f2.f2, .string (tm 0).f0.f0, .string (tm 0).f0.f1, .string (tm 0).f1, .string (tm 0).f2.f0, .string (tm 0).f2.f1, .string (tm 0).f2.f2] 41)))
        have hrow : Row (v2.alloc (.cells #[.string (tm 1).f0.f0, .string (tm 1).f0.f1, .string (tm 1).f1, .string (tm 1).f2.f0, .string (tm 1).f2.f1, .string (tm 1).f2.f2, .string (tm 0).f0.f0, .string (tm 0).f0.f1, .string (tm 0).f1, .string (tm 0).f2.f0, .string (tm 0).f2.f1, .string (tm 0).f2.f2] 41)) v2.heap.size (some ⟨v2.heap.size, 0, none⟩) 2 [tm 1, tm 0] := row_lit _ _ _ 2 rfl rfl (by decide)
        have HROW := Lib.hid (hrow.lower HV2.out.bw.size)
        have HP1 := Lib.hid (ner_new HV2.out.r1 2 2)
        have HP2 := Lib.hid (ner_new HV2.out.r2 2 2)
        have HP3 := Lib.hid (ner_new HV2.out.r3 2 2)
        have g3 := HA.out.f3
        have gz := HA.out.fz 3
        clear hrow HV2
        go_wp2
        go_meet
        exact ⟨rfl, (⟨A1, c1, l1, A2, c2, [], A3, c3, [], some ⟨v2.heap.size, 0, none⟩, 2, [tm 1, tm 0]⟩ : BArg), HA.out.set 3 _ (⟨A1, c1, l1, A2, c2, [], A3, c3, [], some ⟨v2.heap.size, 0, none⟩, 2, [tm 1, tm 0]⟩ : BArg) (by simpa using blk_set HA.out.bx 3 _) HA.out.r1 HA.out.r2 HA.out.r3 HROW.out HP1.out HP2.out HP3.out, rfl, rfl, rfl, rfl⟩
    case rest =>
      obtain ⟨hn6, x, hV, e1, e2, e3, e4⟩ := hcut
      obtain ⟨A1, c1, l1', A2, c2, l2', A3, c3, l3', A4, c4, l4'⟩ := x
      simp only at e1 e2 e3 e4
      obtain ⟨n2, hn⟩ : ∃ n : Int, n = cond f8 3 n1 := ⟨_, rfl⟩
      rw [← hn] at hn6
      subst hn6
      subst l1'
      subst l2'
      subst l3'
      obtain ⟨l4, hl⟩ : ∃ l, l = l4' := ⟨_, rfl⟩
      rw [← hl] at hV e4
      have L4 := Lib.hid e4
      clear hl e4
      have N2 := Lib.hid hn
      have HV := Lib.hid hV
      clear hn hV
      go_upto_if 43 with fail
      go_cut [6] (fun s6 wx => BE w3 bb l1 [] (cond f4 [tm 0, tm 1] []) l4 (cond f4 4 n2) s6 wx)
      case first =>
        have hf := H4.out
        cases f4 with
        | false =>
          go_wp2
          go_meet
          exact ⟨rfl, _, HV.out, rfl, rfl, rfl, rfl⟩
        | true =>
          have HV0 := Lib.hid HV.out
          go_wp2_with fail
          refine (tame_c 0 _).mono ?_
          rintro e v1 ⟨rfl, hb⟩
          have HV1 := Lib.hid (HV0.out.below hb)
          clear hb HV0
          go_wp2_with fail
          refine (tame_c 1 _).mono ?_
          rintro e v2 ⟨rfl, hb⟩
          have HV2 := Lib.hid (HV1.out.below hb)
          clear hb HV1
          have HA := Lib.hid (HV2.out.below (below_alloc (Below.refl _ _) (.cells #[.string (tm 0).f0.f0, .string (tm 0).f0.f1, .string (tm 0).f1, .string (tm 0).f2.f0, .string (tm 0).f2.f1, .string (tm 0).f2.f2, .string (tm 1).f0.f0, .string (tm 1).f0.f1, .string (tm 1).f1, .string (tm 1).f2.f0, .string (tm 1).f2.f1, .string (tm 1).f2.f2] 41)))
          have hrow : Row (v2.alloc (.cells #[.string (tm 0).f0.f0, .string (tm 0).f0.f1, .string (tm 0).f1, .string (tm 0).f2.f0, .string (tm 0).f2.f1, .string (tm 0).f2.f2, .string (tm 1).f0.f0, .string (tm 1).f0.f1, .string (tm 1).f1, .string (tm 1).f2.f0, .string (tm 1).f2.f1, .string (tm 1).f2.f2] 41)) v2.heap.size (some ⟨v2.heap.size, 0, none⟩) 2 [tm 0, tm 1] := row_lit _ _ _ 2 rfl rfl (by decide)
          have HROW := Lib.hid (hrow.lower HV2.out.bw.size)
          have HP1 := Lib.hid HV2.out.p1
          have HP2 := Lib.hid HV2.out.p2
          have HP3 := Lib.hid (ner_new' HV2.out.r4 2 2)
          have g2 := HA.out.f2
          have gz := HA.out.fz 2
          clear hrow HV2
          go_wp2
          go_meet
          exact ⟨rfl, (⟨A1, c1, l1, A2, c2, [], some ⟨v2.heap.size, 0, none⟩, 2, [tm 0, tm 1], A4, c4, l4⟩ : BArg), HA.out.set 2 _ (⟨A1, c1, l1, A2, c2, [], some ⟨v2.heap.size, 0, none⟩, 2, [tm 0, tm 1], A4, c4, l4⟩ : BArg) (by simpa using blk_set HA.out.bx 2 _) HA.out.r1 HA.out.r2 HROW.out HA.out.r4 HP1.out HP2.out HP3.out, rfl, rfl, rfl, rfl⟩
      case rest =>
        obtain ⟨hn6, x, hV, e1, e2, e3, e4⟩ := hcut
        obtain ⟨A1, c1, l1', A2, c2, l2', A3, c3, l3', A4, c4, l4'⟩ := x
        simp only at e1 e2 e3 e4
        obtain ⟨n3, hn⟩ : ∃ n : Int, n = cond f4 4 n2 := ⟨_, rfl⟩
        rw [← hn] at hn6
        subst hn6
        subst l1'
        subst l2'
        obtain ⟨l3, hl⟩ : ∃ l, l = l3' := ⟨_, rfl⟩
        rw [← hl] at hV e3
        have L3 := Lib.hid e3
        clear hl e3
        subst l4'
        have N3 := Lib.hid hn
        have HV := Lib.hid hV
        clear hn hV
        go_upto_if 52 with fail
        go_cut [6] (fun s6 wx => BE w3 bb l1 (cond f2 [tm 0] []) l3 l4 (cond f2 6 n3) s6 wx)
        case first =>
          have hf := H2.out
          cases f2 with
          | false =>
            go_wp2
            go_meet
            exact ⟨rfl, _, HV.out, rfl, rfl, rfl, rfl⟩
          | true =>
            have HV0 := Lib.hid HV.out
            go_wp2_with fail
            refine (tame_c 0 _).mono ?_
            rintro e v1 ⟨rfl, hb⟩
            have HV1 := Lib.hid (HV0.out.below hb)
            clear hb HV0
            have HA := Lib.hid (HV1.out.below (below_alloc (Below.refl _ _) (.cells #[.string (tm 0).f0.f0, .string (tm 0).f0.f1, .string (tm 0).f1, .string (tm 0).f2.f0, .string (tm 0).f2.f1, .string (tm 0).f2.f2] 41)))
            have hrow : Row (v1.alloc (.cells #[.string (tm 0).f0.f0, .string (tm 0).f0.f1, .string (tm 0).f1, .string (tm 0).f2.f0, .string (tm 0).f2.f1, .string (tm 0).f2.f2] 41)) v1.heap.size (some ⟨v1.heap.size, 0, none⟩) 1 [tm 0] := row_lit _ _ _ 1 rfl rfl (by decide)
            have HROW := Lib.hid (hrow.lower HV1.out.bw.size)
            have HP1 := Lib.hid HV1.out.p1
            have HP2 := Lib.hid (ner_new' HV1.out.r4 1 1)
            have HP3 := Lib.hid HV1.out.p3
            have g1 := HA.out.f1
            have gz := HA.out.fz 1
            clear hrow HV1
            go_wp2
            go_meet
            exact ⟨rfl, (⟨A1, c1, l1, some ⟨v1.heap.size, 0, none⟩, 1, [tm 0], A3, c3, l3, A4, c4, l4⟩ : BArg), HA.out.set 1 _ (⟨A1, c1, l1, some ⟨v1.heap.size, 0, none⟩, 1, [tm 0], A3, c3, l3, A4, c4, l4⟩ : BArg) (by simpa using blk_set HA.out.bx 1 _) HA.out.r1 HROW.out HA.out.r3 HA.out.r4 HP1.out HP2.out HP3.out, rfl, rfl, rfl, rfl⟩
        case rest =>
          obtain ⟨hn6, x, hV, e1, e2, e3, e4⟩ := hcut
          obtain ⟨A1, c1, l1', A2, c2, l2', A3, c3, l3', A4, c4, l4'⟩ := x
          simp only at e1 e2 e3 e4
          obtain ⟨n4, hn⟩ : ∃ n : Int, n = cond f2 6 n3 := ⟨_, rfl⟩
          rw [← hn] at hn6
          subst hn6
          subst l1'
          obtain ⟨l2, hl⟩ : ∃ l, l = l2' := ⟨_, rfl⟩
          rw [← hl] at hV e2
          have L2 := Lib.hid e2
          clear hl e2
          subst l3'
          subst l4'
          have N4 := Lib.hid hn
          have HV := Lib.hid hV
          clear hn hV
          go_upto_if 59 with fail
          go_cut [6] (fun s6 wx => BE w3 bb l1 l2 l3 (cond f1 (l4 ++ [z41]) l4) (cond f1 2 n4) s6 wx)
          case first =>
            have hf := H1.out
            have HL4 := Lib.hid (show l4.length ≤ 2 by rw [L4.out]; cases f8 <;> decide)
            cases f1 with
            | false =>
              go_wp2
              go_meet
              exact ⟨rfl, _, HV.out, rfl, rfl, rfl, rfl⟩
            | true =>
              have g3 := HV.out.f3
              go_wp2_with (at_builtin; refine Kd.R_append_rows k41 (w0 := wc.alloc (.cells #[.string ⟨#[]⟩, .string ⟨#[]⟩, .string ⟨#[]⟩, .string ⟨#[]⟩, .string ⟨#[]⟩, .string ⟨#[]⟩] 41)) w3.heap.size rfl (.tmp 61) (.tmp 63) 23 41 (.agg #[.string ⟨#[]⟩, .string ⟨#[]⟩, .string ⟨#[]⟩, .string ⟨#[]⟩, .string ⟨#[]⟩, .string ⟨#[]⟩]) 96 rfl Try.underlying23 (by kernel_rfl) rfl (by decide) (by decide) (.slice A4 l4.length c4) l4 [z41] (some ⟨wc.heap.size, 0, none⟩) 1 1 (fun _ => True) (fun _ => False) rfl rfl (HV.out.below (below_alloc (Below.refl _ _) _)).r4.out (show Row (wc.alloc (.cells #[.string ⟨#[]⟩, .string ⟨#[]⟩, .string ⟨#[]⟩, .string ⟨#[]⟩, .string ⟨#[]⟩, .string ⟨#[]⟩] 41)) wc.heap.size (some ⟨wc.heap.size, 0, none⟩) 1 [z41] from row_lit _ _ _ 1 rfl rfl (by decide)).rd.C km_flat (fun _ h => h.elim) (fun _ _ => trivial) (Below.refl _ _) ((HV.out.below (below_alloc (Below.refl _ _) _)).bw.size) (by have := HL4.out; omega) ?_)
              intro v1 w9 hR1 hB1 hgr hat
              obtain ⟨A9, c9, rfl, hV9, j3, jz⟩ := (HV.out.below (below_alloc (Below.refl _ _) _)).app4 hR1 hB1 hgr (by simpa using hat)
              clear hR1 hB1 hgr hat
              generalize (l4 ++ [z41]).length = n9 at hV9 ⊢
              go_wp2
              go_meet
              exact ⟨rfl, _, hV9, rfl, rfl, rfl, rfl⟩
          case rest =>
            obtain ⟨hn6, x, hV, e1, e2, e3, e4⟩ := hcut
            obtain ⟨A1, c1, l1', A2, c2, l2', A3, c3, l3', A4, c4, l4'⟩ := x
            simp only at e1 e2 e3 e4
            obtain ⟨n5, hn⟩ : ∃ n : Int, n = cond f1 2 n4 := ⟨_, rfl⟩
            rw [← hn] at hn6
            subst hn6
            subst l1'
            subst l2'
            subst l3'
            obtain ⟨l5, hl⟩ : ∃ l, l = l4' := ⟨_, rfl⟩
            rw [← hl] at hV e4
            have hx := err_all f16 f8 f4 f2 f1 A1 c1 A2 c2 A3 c3 A4 c4
            rw [← L4.out, ← e4, ← L1.out, ← L2.out, ← L3.out, ← N1.out, ← N2.out, ← N3.out, ← N4.out, ← hn] at hx
            obtain ⟨x1, x2, x3⟩ := hx
            have hst := HS3.out.below hV.bw
            have hlen : BLen (⟨A1, c1, l1, A2, c2, l2, A3, c3, l3, A4, c4, l5⟩ : BArg) := ⟨by rw [L1.out]; cases f16 <;> simp, by rw [L2.out]; cases f2 <;> simp, by rw [L3.out]; cases f4 <;> simp, by rw [e4, L4.out]; cases f1 <;> cases f8 <;> simp⟩
            have hsm : BSmall (⟨A1, c1, l1, A2, c2, l2, A3, c3, l3, A4, c4, l5⟩ : BArg) := ⟨by rw [L1.out]; cases f16 <;> simp [sm0, sm2, sm4], by rw [L2.out]; cases f2 <;> simp [sm0], by rw [L3.out]; cases f4 <;> simp [sm0, sm1], by rw [e4, L4.out]; cases f1 <;> cases f8 <;> simp [sm0, sm1, smz]⟩
            have HW := Lib.hid (write_eq (⟨A1, c1, l1, A2, c2, l2, A3, c3, l3, A4, c4, l5⟩ : BArg) x1 x2 x3 hst ⟨hV.r1.rd, hV.r2.rd, hV.r3.rd, hV.r4.rd⟩ hlen hsm (by simp) (by simp [SS]) (by simp))
            have HB := Lib.hid (chainB HB3.out hV.bw)
            have g0 := hV.f0
            have g1 := hV.f1
            have g2 := hV.f2
            have g3 := hV.f3
            clear hV x1 x2 x3 hst hlen hsm hn hl e4 L1 L2 L3 L4 N1 N2 N3 N4 HS3 HB3
            go_wp2_with fail
            refine HW.out.mono ?_
            rintro e w7 ⟨q7, rfl, hst, hk, hb⟩
            have HST := Lib.hid hst
            have HB7 := Lib.hid (HB.out.trans hb)
            clear hst hk hb HB HW g0 g1 g2 g3
            go_wp2_with fail
            refine (rev_n HST.out 1 rfl).mono ?_
            rintro e w8 ⟨rfl, rfl⟩
            go_wp2_with fail
            refine (len_n HST.out 1 rfl).mono ?_
            rintro e w9 ⟨rfl, hdr⟩
            have HB9 := Lib.hid (chainB HB7.out (below_of_drawn hdr))
            clear hdr HB7 HST
            go_wp2_with fail
            refine (awake4_c _).mono ?_
            rintro e w10 ⟨rfl, hb⟩
            have HB10 := Lib.hid (chainB HB9.out hb)
            clear hb HB9
            go_wp2
            go_ret
            exact ⟨rfl, HB10.out⟩
end Go.Proofs.Ytpgmeaofmlipkaa.PT
