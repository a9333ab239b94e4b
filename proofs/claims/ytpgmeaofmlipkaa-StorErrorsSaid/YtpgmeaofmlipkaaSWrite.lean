/- Walks and contracts over the store of tuples (Write). No condition beyond those that each contract names. -/
import Derived.Test.YtpgmeaofmlipkaaSFuns
import Derived.Lib.Hide
import Derived.Laws.EntriesVeiled
import Derived.Shelf.SlicesQ.IndexFunc
namespace Go.Proofs.Ytpgmeaofmlipkaa.PT
open Go.RowKit Go.Proofs.YtpgmeaofmlipkaaW.PrintWords Go.Proofs.YtpgmeaofmlipkaaW.PrintLast Go.Proofs.YtpgmeaofmlipkaaW.PrintMore
attribute [local go_sem] max2_int min2_int max_two min_two max_three min_three max_four min_four
set_option linter.unusedVariables false
set_option linter.unusedSimpArgs false
open Go.Proofs.YtpgmeaofmlipkaaH
/-- A batch that was handed over: its four rows. -/
structure BArg where
  A1 : Option Addr
  c1 : Nat
  l1 : List S41
  A2 : Option Addr
  c2 : Nat
  l2 : List S41
  A3 : Option Addr
  c3 : Nat
  l3 : List S41
  A4 : Option Addr
  c4 : Nat
  l4 : List S41
/-- The batch's rows can be read. -/
structure BRd (x : BArg) (W : World) : Prop where
  r1 : Rd W x.A1 x.c1 x.l1
  r2 : Rd W x.A2 x.c2 x.l2
  r3 : Rd W x.A3 x.c3 x.l3
  r4 : Rd W x.A4 x.c4 x.l4
theorem BRd.below {x : BArg} {W W' : World} (h : BRd x W) (hb : Below W.heap.size W W') : BRd x W' := ⟨h.r1.below hb, h.r2.below hb, h.r3.below hb, h.r4.below hb⟩
structure BLen (x : BArg) : Prop where
  n1 : x.l1.length < 100000000
  n2 : x.l2.length < 100000000
  n3 : x.l3.length < 100000000
  n4 : x.l4.length < 100000000
structure BSmall (x : BArg) : Prop where
  s1 : ∀ t ∈ x.l1, Small t
  s2 : ∀ t ∈ x.l2, Small t
  s3 : ∀ t ∈ x.l3, Small t
  s4 : ∀ t ∈ x.l4, Small t
/-- What Write's walk carries along. -/
structure WB (W0 : World) (B g : Nat) (q : Option Nat) (m : Int) (past : List (List S41)) (now : List S41) (x : BArg) (b0 : Nat) (W : World) : Prop where
  st : St W B g q m past now
  rd : BRd x W
  bx : W.heap[b0]? = some (.cells #[.slice x.A1 x.l1.length x.c1, .slice x.A2 x.l2.length x.c2, .slice x.A3 x.l3.length x.c3, .slice x.A4 x.l4.length x.c4] 54 (0, 0))
  bw : Below W0.heap.size W0 W
theorem WB.below {W0 : World} {B g : Nat} {q : Option Nat} {m : Int} {past now} {x : BArg} {b0 : Nat} {W W' : World} (h : WB W0 B g q m past now x b0 W) (hb : Below W.heap.size W W') : WB W0 B g q m past now x b0 W' :=
  ⟨h.st.below hb, h.rd.below hb, (hb.block b0 (Array.getElem?_eq_some_iff.1 h.bx).1).trans h.bx, below_then h.bw h.bw.size hb⟩
theorem WB.f0 {W0 : World} {B g : Nat} {q : Option Nat} {m : Int} {past now} {x : BArg} {b0 : Nat} {W : World} (h : WB W0 B g q m past now x b0 W) : W.cell? ⟨b0, 0, none⟩ = some (.slice x.A1 x.l1.length x.c1) := (blk_cell h.bx 0).trans rfl
theorem WB.f1 {W0 : World} {B g : Nat} {q : Option Nat} {m : Int} {past now} {x : BArg} {b0 : Nat} {W : World} (h : WB W0 B g q m past now x b0 W) : W.cell? ⟨b0, 1, none⟩ = some (.slice x.A2 x.l2.length x.c2) := (blk_cell h.bx 1).trans rfl
theorem WB.f2 {W0 : World} {B g : Nat} {q : Option Nat} {m : Int} {past now} {x : BArg} {b0 : Nat} {W : World} (h : WB W0 B g q m past now x b0 W) : W.cell? ⟨b0, 2, none⟩ = some (.slice x.A3 x.l3.length x.c3) := (blk_cell h.bx 2).trans rfl
theorem WB.f3 {W0 : World} {B g : Nat} {q : Option Nat} {m : Int} {past now} {x : BArg} {b0 : Nat} {W : World} (h : WB W0 B g q m past now x b0 W) : W.cell? ⟨b0, 3, none⟩ = some (.slice x.A4 x.l4.length x.c4) := (blk_cell h.bx 3).trans rfl
theorem wrong_eq {w : World} {A c l} {b : Bool} (e : l.any badB = b) (h : Rd w A c l) (hl : l.length < 100000000) (hs : ∀ t ∈ l, Small t) : Calls Try.prog 48 #[.slice A l.length c] w fun e w' => e = .returned (.bool b) ∧ Below w.heap.size w w' := by
  rw [← e]; exact wrong_c h (by omega) hs
/-- A store's Write has refused: nothing has turned. -/
def Refused (w : World) (n : Int) (e : Ending) (w' : World) : Prop := e = .returned (.int .i64 n) ∧ Below w.heap.size w w'
theorem wb_start {w : World} {B g : Nat} {q : Option Nat} {m : Int} {past now} (h : St w B g q m past now) (x : BArg) (hr : BRd x w) : WB w B g q m past now x w.heap.size (w.alloc (.cells #[.slice x.A1 x.l1.length x.c1, .slice x.A2 x.l2.length x.c2, .slice x.A3 x.l3.length x.c3, .slice x.A4 x.l4.length x.c4] 54)) :=
  ⟨h.below (below_alloc (Below.refl _ _) _), hr.below (below_alloc (Below.refl _ _) _), heap_newS rfl, below_alloc (Below.refl _ _) _⟩
def Wrong (x : BArg) : Prop := x.l1.any badB = true ∨ x.l2.any badB = true ∨ x.l3.any badB = true ∨ x.l4.any badB = true
set_option maxHeartbeats 4000000 in
theorem write_wrong {w : World} {B g : Nat} {q : Option Nat} {m : Int} {past now} (h : St w B g q m past now) (x : BArg) (hr : BRd x w) (hl : BLen x) (hs : BSmall x) (hw : Wrong x) :
    Calls Try.prog 29 #[.pointer (some ⟨g, 0, none⟩), .agg #[.slice x.A1 x.l1.length x.c1, .slice x.A2 x.l2.length x.c2, .slice x.A3 x.l3.length x.c3, .slice x.A4 x.l4.length x.c4]] w (Refused w 2) := by
  have HX0 := Lib.hid (wb_start h x hr)
  obtain ⟨W, hW⟩ : ∃ W, W = w.alloc (.cells #[.slice x.A1 x.l1.length x.c1, .slice x.A2 x.l2.length x.c2, .slice x.A3 x.l3.length x.c3, .slice x.A4 x.l4.length x.c4] 54) := ⟨_, rfl⟩
  rw [← hW] at HX0
  have HW := Lib.hid hW
  have c1 : ∃ b1, x.l1.any badB = b1 := ⟨_, rfl⟩
  have c2 : ∃ b1, x.l2.any badB = b1 := ⟨_, rfl⟩
  have c3 : ∃ b1, x.l3.any badB = b1 := ⟨_, rfl⟩
  have c4 : ∃ b1, x.l4.any badB = b1 := ⟨_, rfl⟩
  obtain ⟨b1, e1⟩ := c1
  obtain ⟨b2, e2⟩ := c2
  obtain ⟨b3, e3⟩ := c3
  obtain ⟨b4, e4⟩ := c4
  unfold Wrong at hw
  rw [e1, e2, e3, e4] at hw
  have E1 := Lib.hid e1
  have E2 := Lib.hid e2
  have E3 := Lib.hid e3
  have E4 := Lib.hid e4
  clear h hr hW e1 e2 e3 e4
  obtain rfl | ⟨rfl, rfl⟩ | ⟨rfl, rfl, rfl⟩ | ⟨rfl, rfl, rfl, rfl⟩ : b1 = true ∨ (b1 = false ∧ b2 = true) ∨ (b1 = false ∧ b2 = false ∧ b3 = true) ∨ (b1 = false ∧ b2 = false ∧ b3 = false ∧ b4 = true) := by
    clear HX0 HW E1 E2 E3 E4 hl hs
    cases b1 <;> cases b2 <;> cases b3 <;> cases b4 <;> simp_all
  · skip
    go_enter Try.func29, Try.ntmps29
    go_wp2_with fail
    rw [← HW.out]
    refine (wrong_eq E1.out HX0.out.rd.r1 hl.n1 hs.s1).mono ?_
    rintro e w1 ⟨rfl, hb⟩
    have HX1 := Lib.hid (HX0.out.below hb)
    clear hb
    have f10 := HX1.out.f0
    have f11 := HX1.out.f1
    have f12 := HX1.out.f2
    have f13 := HX1.out.f3
    go_wp2
    go_ret
    exact ⟨rfl, HX1.out.bw⟩
  · skip
    go_enter Try.func29, Try.ntmps29
    go_wp2_with fail
    rw [← HW.out]
    refine (wrong_eq E1.out HX0.out.rd.r1 hl.n1 hs.s1).mono ?_
    rintro e w1 ⟨rfl, hb⟩
    have HX1 := Lib.hid (HX0.out.below hb)
    clear hb
    have f10 := HX1.out.f0
    have f11 := HX1.out.f1
    have f12 := HX1.out.f2
    have f13 := HX1.out.f3
    go_wp2_with fail
    refine (wrong_eq E2.out HX1.out.rd.r2 hl.n2 hs.s2).mono ?_
    rintro e w2 ⟨rfl, hb⟩
    have HX2 := Lib.hid (HX1.out.below hb)
    clear hb f10 f11 f12 f13
    have f20 := HX2.out.f0
    have f21 := HX2.out.f1
    have f22 := HX2.out.f2
    have f23 := HX2.out.f3
    go_wp2
    go_ret
    exact ⟨rfl, HX2.out.bw⟩
  · skip
    go_enter Try.func29, Try.ntmps29
    go_wp2_with fail
    rw [← HW.out]
    refine (wrong_eq E1.out HX0.out.rd.r1 hl.n1 hs.s1).mono ?_
    rintro e w1 ⟨rfl, hb⟩
    have HX1 := Lib.hid (HX0.out.below hb)
    clear hb
    have f10 := HX1.out.f0
    have f11 := HX1.out.f1
    have f12 := HX1.out.f2
    have f13 := HX1.out.f3
    go_wp2_with fail
    refine (wrong_eq E2.out HX1.out.rd.r2 hl.n2 hs.s2).mono ?_
    rintro e w2 ⟨rfl, hb⟩
    have HX2 := Lib.hid (HX1.out.below hb)
    clear hb f10 f11 f12 f13
    have f20 := HX2.out.f0
    have f21 := HX2.out.f1
    have f22 := HX2.out.f2
    have f23 := HX2.out.f3
    go_wp2_with fail
    refine (wrong_eq E3.out HX2.out.rd.r3 hl.n3 hs.s3).mono ?_
    rintro e w3 ⟨rfl, hb⟩
    have HX3 := Lib.hid (HX2.out.below hb)
    clear hb f20 f21 f22 f23
    have f30 := HX3.out.f0
    have f31 := HX3.out.f1
    have f32 := HX3.out.f2
    have f33 := HX3.out.f3
    go_wp2
    go_ret
    exact ⟨rfl, HX3.out.bw⟩
  · skip
    go_enter Try.func29, Try.ntmps29
    go_wp2_with fail
    rw [← HW.out]
    refine (wrong_eq E1.out HX0.out.rd.r1 hl.n1 hs.s1).mono ?_
    rintro e w1 ⟨rfl, hb⟩
    have HX1 := Lib.hid (HX0.out.below hb)
    clear hb
    have f10 := HX1.out.f0
    have f11 := HX1.out.f1
    have f12 := HX1.out.f2
    have f13 := HX1.out.f3
    go_wp2_with fail
    refine (wrong_eq E2.out HX1.out.rd.r2 hl.n2 hs.s2).mono ?_
    rintro e w2 ⟨rfl, hb⟩
    have HX2 := Lib.hid (HX1.out.below hb)
    clear hb f10 f11 f12 f13
    have f20 := HX2.out.f0
    have f21 := HX2.out.f1
    have f22 := HX2.out.f2
    have f23 := HX2.out.f3
    go_wp2_with fail
    refine (wrong_eq E3.out HX2.out.rd.r3 hl.n3 hs.s3).mono ?_
    rintro e w3 ⟨rfl, hb⟩
    have HX3 := Lib.hid (HX2.out.below hb)
    clear hb f20 f21 f22 f23
    have f30 := HX3.out.f0
    have f31 := HX3.out.f1
    have f32 := HX3.out.f2
    have f33 := HX3.out.f3
    go_wp2_with fail
    refine (wrong_eq E4.out HX3.out.rd.r4 hl.n4 hs.s4).mono ?_
    rintro e w4 ⟨rfl, hb⟩
    have HX4 := Lib.hid (HX3.out.below hb)
    clear hb f30 f31 f32 f33
    have f40 := HX4.out.f0
    have f41 := HX4.out.f1
    have f42 := HX4.out.f2
    have f43 := HX4.out.f3
    go_wp2
    go_ret
    exact ⟨rfl, HX4.out.bw⟩
end Go.Proofs.Ytpgmeaofmlipkaa.PT
