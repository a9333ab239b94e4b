/- Walks and contracts over the store of tuples (Call3). No condition beyond those that each contract names. -/
import Derived.Test.YtpgmeaofmlipkaaSFuns3
import Derived.Lib.Hide
import Derived.Laws.EntriesVeiled
import Derived.Shelf.SlicesQ.IndexFunc
namespace Go.Proofs.Ytpgmeaofmlipkaa.PT
open Go.RowKit Go.Proofs.YtpgmeaofmlipkaaW.PrintWords Go.Proofs.YtpgmeaofmlipkaaW.PrintLast Go.Proofs.YtpgmeaofmlipkaaW.PrintMore
attribute [local go_sem] max2_int min2_int max_two min_two max_three min_three max_four min_four
set_option linter.unusedVariables false
set_option linter.unusedSimpArgs false
open Go.Proofs.YtpgmeaofmlipkaaH
/-- A batch that was handed over: its four rows. -/
structure BArg where
 A1 : Option Addr
 c1 : Nat
 l1 : List S41
 A2 : Option Addr
 c2 : Nat
 l2 : List S41
 A3 : Option Addr
 c3 : Nat
 l3 : List S41
 A4 : Option Addr
 c4 : Nat
 l4 : List S41
/-- The batch's rows can be read. -/
structure BRd (x : BArg) (W : World) : Prop where
 r1 : Rd W x.A1 x.c1 x.l1
 r2 : Rd W x.A2 x.c2 x.l2
 r3 : Rd W x.A3 x.c3 x.l3
 r4 : Rd W x.A4 x.c4 x.l4
theorem BRd.below {x : BArg} {W W' : World} (h : BRd x W) (hb : Below W.heap.size W W') : BRd x W' := ⟨h.r1.below hb, h.r2.below hb, h.r3.below hb, h.r4.below hb⟩
structure BLen (x : BArg) : Prop where
 n1 : x.l1.length < 100000000
 n2 : x.l2.length < 100000000
 n3 : x.l3.length < 100000000
 n4 : x.l4.length < 100000000
structure BSmall (x : BArg) : Prop where
 s1 : ∀ t ∈ x.l1, Small t
 s2 : ∀ t ∈ x.l2, Small t
 s3 : ∀ t ∈ x.l3, Small t
 s4 : ∀ t ∈ x.l4, Small t
/-- What Write's walk carries along. -/
structure WB (W0 : World) (B g : Nat) (q : Option Nat) (m : Int) (past : List (List S41)) (now : List S41) (x : BArg) (b0 : Nat) (W : World) : Prop where
 st : St W B g q m past now
 rd : BRd x W
 bx : W.heap[b0]? = some (.cells #[.slice x.A1 x.l1.length x.c1, .slice x.A2 x.l2.length x.c2, .slice x.A3 x.l3.length x.c3, .slice x.A4 x.l4.length x.c4] 54 (0, 0))
 bw : Below W0.heap.size W0 W
theorem WB.below {W0 : World} {B g : Nat} {q : Option Nat} {m : Int} {past now} {x : BArg} {b0 : Nat} {W W' : World} (h : WB W0 B g q m past now x b0 W) (hb : Below W.heap.size W W') : WB W0 B g q m past now x b0 W' :=
 ⟨h.st.below hb, h.rd.below hb, (hb.block b0 (Array.getElem?_eq_some_iff.1 h.bx).1).trans h.bx, below_then h.bw h.bw.size hb⟩
theorem WB.f0 {W0 : World} {B g : Nat} {q : Option Nat} {m : Int} {past now} {x : BArg} {b0 : Nat} {W : World} (h : WB W0 B g q m past now x b0 W) : W.cell? ⟨b0, 0, none⟩ = some (.slice x.A1 x.l1.length x.c1) := (blk_cell h.bx 0).trans rfl
theorem WB.f1 {W0 : World} {B g : Nat} {q : Option Nat} {m : Int} {past now} {x : BArg} {b0 : Nat} {W : World} (h : WB W0 B g q m past now x b0 W) : W.cell? ⟨b0, 1, none⟩ = some (.slice x.A2 x.l2.length x.c2) := (blk_cell h.bx 1).trans rfl
theorem WB.f2 {W0 : World} {B g : Nat} {q : Option Nat} {m : Int} {past now} {x : BArg} {b0 : Nat} {W : World} (h : WB W0 B g q m past now x b0 W) : W.cell? ⟨b0, 2, none⟩ = some (.slice x.A3 x.l3.length x.c3) := (blk_cell h.bx 2).trans rfl
theorem WB.f3 {W0 : World} {B g : Nat} {q : Option Nat} {m : Int} {past now} {x : BArg} {b0 : Nat} {W : World} (h : WB W0 B g q m past now x b0 W) : W.cell? ⟨b0, 3, none⟩ = some (.slice x.A4 x.l4.length x.c4) := (blk_cell h.bx 3).trans rfl
theorem wrong_eq {w : World} {A c l} {b : Bool} (e : l.any badB = b) (h : Rd w A c l) (hl : l.length < 100000000) (hs : ∀ t ∈ l, Small t) : Calls Try.prog 48 #[.slice A l.length c] w fun e w' => e = .returned (.bool b) ∧ Below w.heap.size w w' := by
 rw [← e]; exact wrong_c h (by omega) hs
/-- A store's Write has refused: nothing has turned. -/
def Refused (w : World) (n : Int) (e : Ending) (w' : World) : Prop := e = .returned (.int .i64 n) ∧ Below w.heap.size w w'
theorem wb_start {w : World} {B g : Nat} {q : Option Nat} {m : Int} {past now} (h : St w B g q m past now) (x : BArg) (hr : BRd x w) : WB w B g q m past now x w.heap.size (w.alloc (.cells #[.slice x.A1 x.l1.length x.c1, .slice x.A2 x.l2.length x.c2, .slice x.A3 x.l3.length x.c3, .slice x.A4 x.l4.length x.c4] 54)) :=
 ⟨h.below (below_alloc (Below.refl _ _) _), hr.below (below_alloc (Below.refl _ _) _), heap_newS rfl, below_alloc (Below.refl _ _) _⟩
def Wrong (x : BArg) : Prop := x.l1.any badB = true ∨ x.l2.any badB = true ∨ x.l3.any badB = true ∨ x.l4.any badB = true
set_option maxHeartbeats 4000000 in
theorem write_wrong {w : World} {B g : Nat} {q : Option Nat} {m : Int} {past now} (h : St w B g q m past now) (x : BArg) (hr : BRd x w) (hl : BLen x) (hs : BSmall x) (hw : Wrong x) :
  Calls Try.prog 29 #[.pointer (some ⟨g, 0, none⟩), .agg #[.slice x.A1 x.l1.length x.c1, .slice x.A2 x.l2.length x.c2, .slice x.A3 x.l3.length x.c3, .slice x.A4 x.l4.length x.c4]] w (Refused w 2) := by
 have HX0 := Lib.hid (wb_start h x hr)
 obtain ⟨W, hW⟩ : ∃ W, W = w.alloc (.cells #[.slice x.A1 x.l1.length x.c1, .slice x.A2 x.l2.length x.c2, .slice x.A3 x.l3.length x.c3, .slice x.A4 x.l4.length x.c4] 54) := ⟨_, rfl⟩
 rw [← hW] at HX0
 have HW := Lib.hid hW
 have c1 : ∃ b1, x.l1.any badB = b1 := ⟨_, rfl⟩
 have c2 : ∃ b1, x.l2.any badB = b1 := ⟨_, rfl⟩
 have c3 : ∃ b1, x.l3.any badB = b1 := ⟨_, rfl⟩
 have c4 : ∃ b1, x.l4.any badB = b1 := ⟨_, rfl⟩
 obtain ⟨b1, e1⟩ := c1
 obtain ⟨b2, e2⟩ := c2
 obtain ⟨b3, e3⟩ := c3
 obtain ⟨b4, e4⟩ := c4
 unfold Wrong at hw
 rw [e1, e2, e3, e4] at hw
 have E1 := Lib.hid e1
 have E2 := Lib.hid e2
 have E3 := Lib.hid e3
 have E4 := Lib.hid e4
 clear h hr hW e1 e2 e3 e4
 obtain rfl | ⟨rfl, rfl⟩ | ⟨rfl, rfl, rfl⟩ | ⟨rfl, rfl, rfl, rfl⟩ : b1 = true ∨ (b1 = false ∧ b2 = true) ∨ (b1 = false ∧ b2 = false ∧ b3 = true) ∨ (b1 = false ∧ b2 = false ∧ b3 = false ∧ b4 = true) := by
  clear HX0 HW E1 E2 E3 E4 hl hs
  cases b1 <;> cases b2 <;> cases b3 <;> cases b4 <;> simp_all
 ·skip
  go_enter Try.func29, Try.ntmps29
  go_wp2_with fail
  rw [← HW.out]
  refine (wrong_eq E1.out HX0.out.rd.r1 hl.n1 hs.s1).mono ?_
  rintro e w1 ⟨rfl, hb⟩
  have HX1 := Lib.hid (HX0.out.below hb)
  clear hb
  have f10 := HX1.out.f0
  have f11 := HX1.out.f1
  have f12 := HX1.out.f2
  have f13 := HX1.out.f3
  go_wp2
  go_ret
  exact ⟨rfl, HX1.out.bw⟩
 ·skip
  go_enter Try.func29, Try.ntmps29
  go_wp2_with fail
  rw [← HW.out]
  refine (wrong_eq E1.out HX0.out.rd.r1 hl.n1 hs.s1).mono ?_
  rintro e w1 ⟨rfl, hb⟩
  have HX1 := Lib.hid (HX0.out.below hb)
  clear hb
  have f10 := HX1.out.f0
  have f11 := HX1.out.f1
  have f12 := HX1.out.f2
  have f13 := HX1.out.f3
  go_wp2_with fail
  refine (wrong_eq E2.out HX1.out.rd.r2 hl.n2 hs.s2).mono ?_
  rintro e w2 ⟨rfl, hb⟩
  have HX2 := Lib.hid (HX1.out.below hb)
  clear hb f10 f11 f12 f13
  have f20 := HX2.out.f0
  have f21 := HX2.out.f1
  have f22 := HX2.out.f2
  have f23 := HX2.out.f3
  go_wp2
  go_ret
  exact ⟨rfl, HX2.out.bw⟩
 ·skip
  go_enter Try.func29, Try.ntmps29
  go_wp2_with fail
  rw [← HW.out]
  refine (wrong_eq E1.out HX0.out.rd.r1 hl.n1 hs.s1).mono ?_
  rintro e w1 ⟨rfl, hb⟩
  have HX1 := Lib.hid (HX0.out.below hb)
  clear hb
  have f10 := HX1.out.f0
  have f11 := HX1.out.f1
  have f12 := HX1.out.f2
  have f13 := HX1.out.f3
  go_wp2_with fail
  refine (wrong_eq E2.out HX1.out.rd.r2 hl.n2 hs.s2).mono ?_
  rintro e w2 ⟨rfl, hb⟩
  have HX2 := Lib.hid (HX1.out.below hb)
  clear hb f10 f11 f12 f13
  have f20 := HX2.out.f0
  have f21 := HX2.out.f1
  have f22 := HX2.out.f2
  have f23 := HX2.out.f3
  go_wp2_with fail
  refine (wrong_eq E3.out HX2.out.rd.r3 hl.n3 hs.s3).mono ?_
  rintro e w3 ⟨rfl, hb⟩
  have HX3 := Lib.hid (HX2.out.below hb)
  clear hb f20 f21 f22 f23
  have f30 := HX3.out.f0
  have f31 := HX3.out.f1
  have f32 := HX3.out.f2
  have f33 := HX3.out.f3
  go_wp2
  go_ret
  exact ⟨rfl, HX3.out.bw⟩
 ·skip
  go_enter Try.func29, Try.ntmps29
  go_wp2_with fail
  rw [← HW.out]
  refine (wrong_eq E1.out HX0.out.rd.r1 hl.n1 hs.s1).mono ?_
  rintro e w1 ⟨rfl, hb⟩
  have HX1 := Lib.hid (HX0.out.below hb)
  clear hb
  have f10 := HX1.out.f0
  have f11 := HX1.out.f1
  have f12 := HX1.out.f2
  have f13 := HX1.out.f3
  go_wp2_with fail
  refine (wrong_eq E2.out HX1.out.rd.r2 hl.n2 hs.s2).mono ?_
  rintro e w2 ⟨rfl, hb⟩
  have HX2 := Lib.hid (HX1.out.below hb)
  clear hb f10 f11 f12 f13
  have f20 := HX2.out.f0
  have f21 := HX2.out.f1
  have f22 := HX2.out.f2
  have f23 := HX2.out.f3
  go_wp2_with fail
  refine (wrong_eq E3.out HX2.out.rd.r3 hl.n3 hs.s3).mono ?_
  rintro e w3 ⟨rfl, hb⟩
  have HX3 := Lib.hid (HX2.out.below hb)
  clear hb f20 f21 f22 f23
  have f30 := HX3.out.f0
  have f31 := HX3.out.f1
  have f32 := HX3.out.f2
  have f33 := HX3.out.f3
  go_wp2_with fail
  refine (wrong_eq E4.out HX3.out.rd.r4 hl.n4 hs.s4).mono ?_
  rintro e w4 ⟨rfl, hb⟩
  have HX4 := Lib.hid (HX3.out.below hb)
  clear hb f30 f31 f32 f33
  have f40 := HX4.out.f0
  have f41 := HX4.out.f1
  have f42 := HX4.out.f2
  have f43 := HX4.out.f3
  go_wp2
  go_ret
  exact ⟨rfl, HX4.out.bw⟩
open Go.Proofs.YtpgmeaofmlipkaaH
/-- What Write carries behind its sets: the sets of what is added and dropped, the set that is, in its variable. -/
structure WR (W0 : World) (B g : Nat) (q : Option Nat) (m : Int) (past : List (List S41)) (now : List S41) (x : BArg) (b0 : Nat) (A5 : Option Addr) (c5 : Nat) (A6 : Option Addr) (c6 : Nat) (An : Option Addr) (cn : Nat) (bn : Nat) (W : World) : Prop where
 wb : WB W0 B g q m past now x b0 W
 n5 : Rd W A5 c5 (norm cmpT x.l1)
 n6 : Rd W A6 c6 (norm cmpT x.l2)
 nn : Rd W An cn now
 bn : W.heap[bn]? = some (.cells #[.slice An now.length cn] 23 (0, 0))
theorem WR.below {W0 : World} {B g : Nat} {q : Option Nat} {m : Int} {past now} {x : BArg} {b0 : Nat} {A5 c5 A6 c6 An cn bn} {W W' : World} (h : WR W0 B g q m past now x b0 A5 c5 A6 c6 An cn bn W) (hb : Below W.heap.size W W') : WR W0 B g q m past now x b0 A5 c5 A6 c6 An cn bn W' :=
 ⟨h.wb.below hb, h.n5.below hb, h.n6.below hb, h.nn.below hb, (hb.block bn (Array.getElem?_eq_some_iff.1 h.bn).1).trans h.bn⟩
/-- What a region with calls leaves, told of three slots. -/
def Reg3 (W0 : World) (B g : Nat) (q : Option Nat) (m : Int) (past : List (List S41)) (now : List S41) (x : BArg) (b0 : Nat) (s5 s6 s7 : Value) (W : World) : Prop :=
 ∃ A5 c5 A6 c6 An cn bn, s5 = .slice A5 (norm cmpT x.l1).length c5 ∧ s6 = .slice A6 (norm cmpT x.l2).length c6 ∧ s7 = .pointer (some ⟨bn, 0, none⟩) ∧ WR W0 B g q m past now x b0 A5 c5 A6 c6 An cn bn W
theorem below_setS {w w1 : World} (h : Below w.heap.size w w1) {p : Addr} (hp : w.heap.size ≤ p.block) (u : Value) : Below w.heap.size w (w1.setCell p u) := h.setCell hp u
theorem bcellS {W w1 : World} (hb : Below W.heap.size W w1) : (∀ b o, b < W.heap.size → w1.cell? ⟨b, o, none⟩ = W.cell? ⟨b, o, none⟩) ∧ (∀ b o, b < W.heap.size → w1.frozen? ⟨b, o, none⟩ = W.frozen? ⟨b, o, none⟩) :=
 ⟨fun b o h => hb.cell (p := ⟨b, o, none⟩) h, fun b o h => hb.frozen (p := ⟨b, o, none⟩) h⟩
theorem below_of_drawn {w w1 : World} (h : ∃ q, w1 = w.drewN q) : Below w.heap.size w w1 := by
 obtain ⟨q, rfl⟩ := h
 exact pw_below_drewN (Below.refl _ _) _
theorem chainB {a b c : World} (h : Below a.heap.size a b) (k : Below b.heap.size b c) : Below a.heap.size a c := below_then h h.size k
theorem blkB {w w1 : World} {b : Nat} {o : Obj} (h : w.heap[b]? = some o) (hb : Below w.heap.size w w1) : w1.heap[b]? = some o := (hb.block b (Array.getElem?_eq_some_iff.1 h).1).trans h
theorem blk_drewS {w : World} {b : Nat} {o : Obj} (h : w.heap[b]? = some o) : w.drew.heap[b]? = some o := h
theorem Row.set {w : World} {B A c l} (h : Row w B A c l) {b : Nat} {cs : Array Value} (hb : w.heap[b]? = some (.cells cs 23 (0, 0))) (j : Nat) (u : Value) : Row (w.setCell ⟨b, j, none⟩ u) B A c l :=
 ⟨Kd.R_mono (Kd.R_step (Kd.R_bound h.out) (fun k hk _ => Below.heap_setCell w ⟨b, j, none⟩ u k (by
  obtain ⟨_, _, _, q, hq, cells, hc⟩ := hk
  rintro rfl
  rw [hb] at hc
  injection hc with hc
  injection hc with _ hc
  rw [← hc] at hq
  exact absurd hq (by decide)))) (fun _ _ => trivial)⟩
theorem blk_setS {w : World} {b t : Nat} {x u : Value} (h : w.heap[b]? = some (.cells #[x] t (0, 0))) : (w.setCell ⟨b, 0, none⟩ u).heap[b]? = some (.cells #[u] t (0, 0)) := by simpa using blk_set h 0 u
theorem NowIs.rd {w : World} {g n : Nat} {A : Option Addr} {c : Nat} {now : List S41} (h : NowIs w g n A c now) : Rd w A c now := by
 obtain ⟨ad, c0, h1, h2, h3, h4⟩ := h.out
 exact ⟨h3, h4⟩
theorem reg3_close {W0 : World} {B g : Nat} {q : Option Nat} {m : Int} {past : List (List S41)} {now : List S41} {x : BArg} {b0 : Nat} {w4 wz : World} {A5 c5 A6 c6 An cn bn} {z : Value} (hx : WB W0 B g q m past now x b0 w4) (hn : NowIs w4 g past.length An cn now)
  (hz : wz.heap[bn]? = some (.cells #[z] 23 (0, 0))) (hge : w4.heap.size ≤ bn) (hB : Below w4.heap.size w4 wz) (h5 : ∃ B5, Row wz B5 A5 c5 (norm cmpT x.l1)) (h6 : ∃ B6, Row wz B6 A6 c6 (norm cmpT x.l2)) :
  Reg3 W0 B g q m past now x b0 (.slice A5 (norm cmpT x.l1).length c5) (.slice A6 (norm cmpT x.l2).length c6) (.pointer (some ⟨bn, 0, none⟩)) (wz.setCell ⟨bn, 0, none⟩ (.slice An now.length cn)) :=
 have ⟨_, h5⟩ := h5
 have ⟨_, h6⟩ := h6
 ⟨A5, c5, A6, c6, An, cn, bn, rfl, rfl, rfl, hx.below (below_setS hB hge _), (h5.set hz 0 _).rd, (h6.set hz 0 _).rd, hn.rd.below (below_setS hB hge _), blk_setS hz⟩
theorem rowE_below {w w1 : World} {A c l} (h : ∃ B, Row w B A c l) (hb : Below w.heap.size w w1) : ∃ B, Row w1 B A c l := by
 obtain ⟨B, h⟩ := h
 exact ⟨B, h.below hb⟩
theorem reg3_new {W0 : World} {B g : Nat} {q : Option Nat} {m : Int} {past : List (List S41)} {now : List S41} {x : BArg} {b0 : Nat} {w4 wz : World} {A5 c5 A6 c6 An cn} (hx : WB W0 B g q m past now x b0 w4) (hn : NowIs w4 g past.length An cn now)
  (hB : Below w4.heap.size w4 wz) (h5 : ∃ B5, Row wz B5 A5 c5 (norm cmpT x.l1)) (h6 : ∃ B6, Row wz B6 A6 c6 (norm cmpT x.l2)) :
  Reg3 W0 B g q m past now x b0 (.slice A5 (norm cmpT x.l1).length c5) (.slice A6 (norm cmpT x.l2).length c6) (.pointer (some ⟨wz.heap.size, 0, none⟩)) (wz.alloc (.cells #[.slice An now.length cn] 23)) :=
 have h := below_alloc (Below.refl wz.heap.size wz) (.cells #[.slice An now.length cn] 23)
 have ⟨_, h5⟩ := h5
 have ⟨_, h6⟩ := h6
 ⟨A5, c5, A6, c6, An, cn, wz.heap.size, rfl, rfl, rfl, hx.below (chainB hB h), (h5.below h).rd, (h6.below h).rd, hn.rd.below (chainB hB h), heap_newS rfl⟩
/-- The set that a batch makes. -/
def nextW (now : List S41) (x : BArg) : List S41 := norm cmpT (less (norm cmpT now) x.l2 ++ x.l1)
theorem nextW_eq (now : List S41) (x : BArg) : norm cmpT (less (norm cmpT now) (norm cmpT x.l2) ++ norm cmpT x.l1) = nextW now x := by
 unfold nextW
 rw [less_norm cmpT_tot]
 exact norm_same cmpT_tot fun t => by simp [mem_norm cmpT_tot]
theorem nextW_length (now : List S41) (x : BArg) : (nextW now x).length ≤ now.length + x.l1.length := by
 have h1 := norm_length cmpT (less (norm cmpT now) x.l2 ++ x.l1)
 have h2 := less_length (norm cmpT now) x.l2
 have h3 := norm_length cmpT now
 rw [List.length_append] at h1
 unfold nextW
 omega
def wErr (m : Int) (now : List S41) (x : BArg) : Int :=
 if (less (norm cmpT x.l1) x.l2).length < (norm cmpT x.l1).length then 6
 else if (x.l3.any fun t => !decide (t ∈ now)) = true then 4
 else if (x.l4.any fun t => decide (t ∈ now)) = true then 3
 else if m < ((nextW now x).length : Int) then 5
 else 0
/-- What a store's Write has done. -/
def Wrote (w : World) (B g : Nat) (q : Option Nat) (m : Int) (past : List (List S41)) (now : List S41) (x : BArg) (e : Ending) (w' : World) : Prop :=
 ∃ q' past' now', e = .returned (.int .i64 (wErr m now x)) ∧ St w' B g q' m past' now' ∧ Kept w w' (fun k => k = g ∨ some k = q) ∧ Below B w w' ∧ (q' = q ∨ ∃ k, q' = some k ∧ w.heap.size ≤ k) ∧
  (if wErr m now x = 0 ∧ ¬ nextW now x = now then past' = past ++ [now] ∧ now' = nextW now x else past' = past ∧ now' = now)
theorem St.base {w : World} {B g : Nat} {q : Option Nat} {m : Int} {past now} (h : St w B g q m past now) : B ≤ g := by
 obtain ⟨v, hq, hg, hB, hR⟩ := h.out
 exact hB
theorem wb_base {w : World} {B g : Nat} {q : Option Nat} {m : Int} {past now} {x : BArg} {b0 : Nat} {W : World} (hl : g < w.heap.size) (hx : WB w B g q m past now x b0 W) : Below B w W := hx.bw.mono (by have := hx.st.base; omega)
theorem refused_wrote {w : World} {B g : Nat} {q : Option Nat} {m : Int} {past now} {x : BArg} {b0 : Nat} {W : World} {n : Int} (hn : wErr m now x = n) (h0 : n ≠ 0) (hl : g < w.heap.size) (hx : WB w B g q m past now x b0 W) : Wrote w B g q m past now x (.returned (.int .i64 n)) W :=
 ⟨q, past, now, by rw [hn], hx.st, Kept.of_below hx.bw _, wb_base hl hx, Or.inl rfl, by rw [if_neg (by rw [hn]; exact fun h => h0 h.1)]; exact ⟨rfl, rfl⟩⟩
theorem same_wrote {w : World} {B g : Nat} {q : Option Nat} {m : Int} {past now} {x : BArg} {b0 : Nat} {W : World} (hn : wErr m now x = 0) (heq : nextW now x = now) (hl : g < w.heap.size) (hx : WB w B g q m past now x b0 W) : Wrote w B g q m past now x (.returned (.int .i64 0)) W :=
 ⟨q, past, now, by rw [hn], hx.st, Kept.of_below hx.bw _, wb_base hl hx, Or.inl rfl, by rw [if_neg (fun h => h.2 heq)]; exact ⟨rfl, rfl⟩⟩
theorem next_apart {w : World} {B : Nat} {v : Value} {l : List (List S41)} {A c n} (hv : Kd.R (Kd.slice 41 k41) 23 w B (fun _ => True) v l) (hn : Row w B A c n) : (Kd.slice 41 k41).M w B (fun k => some k ≠ v.ownBlock) n [.slice A n.length c] := by
 obtain ⟨inner, ho⟩ := Kd.R_own hv
 exact ⟨_, rfl, Kd.R_mono (Kd.R_bound hn.out) (fun k hk he => by
  obtain ⟨_, _, _, q, hq, cells, hc⟩ := hk
  obtain ⟨cells', hc'⟩ := own_typed ho k he.symm
  rw [hc] at hc'
  injection hc' with hc'
  injection hc' with _ hc'
  rw [hc'] at hq
  exact absurd hq (by decide))⟩
theorem new_wrote {w : World} {B g : Nat} {q : Option Nat} {m : Int} {past now} {x : BArg} {b0 : Nat} {W w11 : World} {v v1 : Value} (hn : wErr m now x = 0) (heq : ¬ nextW now x = now) (hl : g < w.heap.size) (hx : WB w B g q m past now x b0 W)
  (hR : Kd.R (Kd.slice 41 k41) 23 w11 B (fun _ => True) v1 (past ++ [now] ++ [nextW now x])) (hB : Below B W w11) (hgr : W.grownBy w11 v.ownBlock) (hat : v1.ownBlock = v.ownBlock ∨ ∃ b, v1.ownBlock = some b ∧ W.heap.size ≤ b)
  (hG : w11.heap[g]? = some (.cells #[.int .i64 m, v] 77 (0, 0))) (hq : v.ownBlock = q) : Wrote w B g q m past now x (.returned (.int .i64 0)) (w11.setCell ⟨g, 1, none⟩ v1) := by
 have hsz := hx.bw.size
 refine ⟨v1.ownBlock, past ++ [now], nextW now x, by rw [hn], ⟨v1, rfl, by simpa using blk_set hG 1 v1, hx.st.base, Kd.R_mono (Kd.R_far (p := ⟨g, 1, none⟩) (Kd.R_types hR hG (by decide)) (fun _ hk => hk.2) v1) (fun _ hk => hk.1)⟩, ⟨?_, fun i hi hne => ?_⟩, ?_, ?_, by rw [if_pos ⟨hn, heq⟩]; exact ⟨rfl, rfl⟩⟩
 ·have := hgr.size
  simp [World.setCell]
  omega
 ·rw [Below.heap_setCell _ _ _ _ (fun h => hne (Or.inl h)), hgr.block i (by omega) (fun h => hne (Or.inr (by rw [← hq]; exact h))), hx.bw.block i hi]
 ·exact (Below.trans (wb_base hl hx) hB).setCell hx.st.base v1
 ·rcases hat with h | ⟨b, h, hle⟩
  ·exact Or.inl (h.trans hq)
  ·exact Or.inr ⟨b, h, by omega⟩
def NotWrong (x : BArg) : Prop := x.l1.any badB = false ∧ x.l2.any badB = false ∧ x.l3.any badB = false ∧ x.l4.any badB = false
set_option maxHeartbeats 8000000 in
set_option maxRecDepth 100000 in
theorem write_main {w : World} {B g : Nat} {q : Option Nat} {m : Int} {past now} (h : St w B g q m past now) (x : BArg) (hr : BRd x w) (hl : BLen x) (hs : BSmall x) (hw : NotWrong x) (hn : now.length < 100000000) (hss : SS cmpT now) (hp : past.length < 1000000) :
  Calls Try.prog 29 #[.pointer (some ⟨g, 0, none⟩), .agg #[.slice x.A1 x.l1.length x.c1, .slice x.A2 x.l2.length x.c2, .slice x.A3 x.l3.length x.c3, .slice x.A4 x.l4.length x.c4]] w (Wrote w B g q m past now x) := by
 have hgl := h.lt
 have HX0 := Lib.hid (wb_start h x hr)
 obtain ⟨W, hW⟩ : ∃ W, W = w.alloc (.cells #[.slice x.A1 x.l1.length x.c1, .slice x.A2 x.l2.length x.c2, .slice x.A3 x.l3.length x.c3, .slice x.A4 x.l4.length x.c4] 54) := ⟨_, rfl⟩
 rw [← hW] at HX0
 have HW := Lib.hid hW
 obtain ⟨e1, e2, e3, e4⟩ := hw
 have E1 := Lib.hid e1
 have E2 := Lib.hid e2
 have E3 := Lib.hid e3
 have E4 := Lib.hid e4
 clear h hr hW e1 e2 e3 e4
 obtain ⟨b0, hb0⟩ : ∃ b0, w.heap.size = b0 := ⟨_, rfl⟩
 go_enter Try.func29, Try.ntmps29
 go_wp2_with fail
 rw [← HW.out]
 rw [hb0] at HX0
 have HB0 := Lib.hid hb0
 clear hb0
 refine (wrong_eq E1.out HX0.out.rd.r1 hl.n1 hs.s1).mono ?_
 rintro e w1 ⟨rfl, hb⟩
 have HX1 := Lib.hid (HX0.out.below hb)
 clear hb
 have f10 := HX1.out.f0
 have f11 := HX1.out.f1
 have f12 := HX1.out.f2
 have f13 := HX1.out.f3
 go_wp2_with fail
 refine (wrong_eq E2.out HX1.out.rd.r2 hl.n2 hs.s2).mono ?_
 rintro e w2 ⟨rfl, hb⟩
 have HX2 := Lib.hid (HX1.out.below hb)
 clear hb f10 f11 f12 f13
 have f20 := HX2.out.f0
 have f21 := HX2.out.f1
 have f22 := HX2.out.f2
 have f23 := HX2.out.f3
 go_wp2_with fail
 refine (wrong_eq E3.out HX2.out.rd.r3 hl.n3 hs.s3).mono ?_
 rintro e w3 ⟨rfl, hb⟩
 have HX3 := Lib.hid (HX2.out.below hb)
 clear hb f20 f21 f22 f23
 have f30 := HX3.out.f0
 have f31 := HX3.out.f1
 have f32 := HX3.out.f2
 have f33 := HX3.out.f3
 go_wp2_with fail
 refine (wrong_eq E4.out HX3.out.rd.r4 hl.n4 hs.s4).mono ?_
 rintro e w4 ⟨rfl, hb⟩
 have HX4 := Lib.hid (HX3.out.below hb)
 clear hb f30 f31 f32 f33
 have f40 := HX4.out.f0
 have f41 := HX4.out.f1
 clear HX0 HX1 HX2 HX3 E1 E2 E3 E4 HW
 go_wp2_with fail
 obtain ⟨An, cn, hnow⟩ := HX4.out.st.nowIs
 have HN := Lib.hid hnow
 clear hnow
 go_cut [5, 6, 7] (fun s5 s6 s7 wx => Reg3 w B g q m past now x b0 s5 s6 s7 wx)
 case first =>
  have kS : ∀ w', Below w4.heap.size w4 w' → w'.cell? ⟨b0, 0, none⟩ = some (.slice x.A1 x.l1.length x.c1) ∧ w'.cell? ⟨b0, 1, none⟩ = some (.slice x.A2 x.l2.length x.c2) ∧ Below w4.heap.size w4 w' := fun w' h => ⟨pw_cell_below h f40, pw_cell_below h f41, h⟩
  clear f40 f41
  go_region_held3 (fun w' => w'.cell? ⟨b0, 0, none⟩ = some (.slice x.A1 x.l1.length x.c1) ∧ w'.cell? ⟨b0, 1, none⟩ = some (.slice x.A2 x.l2.length x.c2) ∧ Below w4.heap.size w4 w')
   ((refine kS _ ?_; (repeat (first | assumption | (with_reducible exact Below.refl _ _) | (with_reducible refine pw_below_drewN ?_ _) | (with_reducible refine below_drew ?_) | (with_reducible refine below_alloc ?_ _) | (with_reducible refine below_setS ?_ (by first | omega | (dsimp only; omega)) _) | (refine chainB ?_ (by assumption))))))
   (first
    | (go_at_call_of 12 (Value.slice x.A1 x.l1.length x.c1); refine (of_c (HX4.out.rd.r1.below (by first | assumption | exact And.right (And.right (by assumption)))) (by have := hl.n1; omega)).mono ?_; rintro e w5 ⟨A5, c5, rfl, hrow5, hb5⟩; obtain ⟨hc5, hf5⟩ := bcellS hb5; have hz50 : w4.heap.size ≤ w5.heap.size := (by have hq := hb5.size; (try simp at hq); omega); (try (have hz56 : w4.heap.size < w5.heap.size := by have hq := hb5.size; (try simp at hq); omega)); (try (have hz57 : w6.heap.size < w5.heap.size := by have hq := hb5.size; (try simp at hq); omega)); (try (have hz58 : w7.heap.size < w5.heap.size := by have hq := hb5.size; (try simp at hq); omega)))
    | (go_at_call_of 12 (Value.slice x.A2 x.l2.length x.c2); refine (of_c (HX4.out.rd.r2.below (by first | assumption | exact And.right (And.right (by assumption)))) (by have := hl.n2; omega)).mono ?_; rintro e w6 ⟨A6, c6, rfl, hrow6, hb6⟩; obtain ⟨hc6, hf6⟩ := bcellS hb6; have hz60 : w4.heap.size ≤ w6.heap.size := (by have hq := hb6.size; (try simp at hq); omega); (try (have hz6 : w4.heap.size < w6.heap.size := by have hq := hb6.size; (try simp at hq); omega)); (try (have hz67 : w5.heap.size < w6.heap.size := by have hq := hb6.size; (try simp at hq); omega)); (try (have hz68 : w7.heap.size < w6.heap.size := by have hq := hb6.size; (try simp at hq); omega)))
    | (go_at_call 47; refine (now_at (HX4.out.st.below (by first | assumption | exact And.right (And.right (by assumption)))) (HN.out.below (by first | assumption | exact And.right (And.right (by assumption))))).mono ?_; rintro e w7 ⟨rfl, hw7⟩; replace hw7 := below_of_drawn hw7; obtain ⟨hc7, hf7⟩ := bcellS hw7; have hz70 : w4.heap.size ≤ w7.heap.size := (by have hq := hw7.size; (try simp at hq); omega); (try (have hz7 : w4.heap.size < w7.heap.size := by have hq := hw7.size; (try simp at hq); omega)); (try (have hz76 : w6.heap.size < w7.heap.size := by have hq := hw7.size; (try simp at hq); omega)); (try (have hz75 : w5.heap.size < w7.heap.size := by have hq := hw7.size; (try simp at hq); omega))))
  all_goals (go_wp2_with fail; go_meet; clear hc5 hf5 hc6 hf6 hc7 hf7)
  all_goals first | refine reg3_close (z := .slice none 0 0) HX4.out HN.out ?_ ?_ ?_ ?_ ?_ | refine reg3_new HX4.out HN.out ?_ ?_ ?_
  all_goals first
   | omega
   | ((repeat (first | exact heap_newS (by simp) | refine blkB ?_ hw7 | refine blkB ?_ hb6 | refine blkB ?_ hb5 | refine blk_drewS ?_)); done)
   | ((repeat (first | exact Below.refl _ _ | refine chainB ?_ hw7 | refine chainB ?_ hb6 | refine chainB ?_ hb5 | (with_reducible refine below_drew ?_) | (with_reducible refine below_alloc ?_ _))); done)
   | ((repeat (first | exact ⟨_, hrow5⟩ | exact ⟨_, hrow6⟩ | refine rowE_below ?_ hw7 | refine rowE_below ?_ hb6 | refine rowE_below ?_ hb5 | (with_reducible refine rowE_below ?_ (below_alloc (Below.refl _ _) _)) | (with_reducible refine rowE_below ?_ (below_drew (Below.refl _ _))))); done)
 case rest =>
  clear HX4 HN f40 f41
  obtain ⟨A5, c5, A6, c6, An', cn', bn, rfl, rfl, rfl, hR⟩ := hcut
  have HR0 := Lib.hid hR
  clear hR
  go_upto_region 5 with fail
  obtain ⟨wd, hwd⟩ : ∃ wd, wd = wc.alloc (.cells #[.func (.func 49) #[] #[.pointer (some ⟨bn, 0, none⟩)]] 78) := ⟨_, rfl⟩
  rw [← hwd]
  have HR := Lib.hid (HR0.out.below (show Below wc.heap.size wc wd by rw [hwd]; exact below_alloc (Below.refl _ _) _))
  have hH : wd.heap[wc.heap.size]? = some (.cells #[.func (.func 49) #[] #[.pointer (some ⟨bn, 0, none⟩)]] 78 (0, 0)) := by rw [hwd]; exact heap_newS rfl
  generalize wc.heap.size = bh at hH ⊢
  have HH := Lib.hid hH
  clear hwd hH HR0
  have f1 := (blk_cell HR.out.bn 0).trans (rfl : _ = some (Value.slice An' now.length cn'))
  go_wp2_with fail
  refine (minus_c HR.out.nn HR.out.n6 (by have := hn; omega) (by have := norm_length cmpT x.l2; have := hl.n2; omega)).mono ?_
  rintro e w5 ⟨A9, c9, rfl, hm, hb⟩
  have HR1 := Lib.hid (HR.out.below hb)
  have HH1 := Lib.hid (blkB HH.out hb)
  have HM := Lib.hid hm
  clear hb hm f1
  go_wp2_with fail
  refine (plus_c HM.out.rd HR1.out.n5 (by have := less_length (norm cmpT now) (norm cmpT x.l2); have := norm_length cmpT now; omega) (by have := norm_length cmpT x.l1; have := hl.n1; omega)).mono ?_
  rintro e w6 ⟨AN, cN, rfl, hN, hb⟩
  have HR2 := Lib.hid (HR1.out.below hb)
  have HH2 := Lib.hid (blkB HH1.out hb)
  rw [nextW_eq] at hN ⊢
  have HNX := Lib.hid (hN.lower (show B ≤ w5.heap.size by have h1 := HR1.out.wb.bw.size; have h2 := HR1.out.wb.st.base; omega))
  clear hb hN HM HR1 HH1
  go_wp2_with fail
  refine (minus_c HR2.out.n5 HR2.out.n6 (by have := norm_length cmpT x.l1; have := hl.n1; omega) (by have := norm_length cmpT x.l2; have := hl.n2; omega)).mono ?_
  rw [norm_norm cmpT_tot, less_norm cmpT_tot]
  rintro e w7 ⟨A8, c8, rfl, _, hb⟩
  have HR3 := Lib.hid (HR2.out.below hb)
  have HH3 := Lib.hid (blkB HH2.out hb)
  have HN3 := Lib.hid (HNX.out.below hb)
  clear hb HR2 HH2 HNX
  by_cases hboth : (less (norm cmpT x.l1) x.l2).length < (norm cmpT x.l1).length
  ·have d1 : decide ((less (norm cmpT x.l1) x.l2).length < (norm cmpT x.l1).length) = true := decide_eq_true hboth
   have HE := Lib.hid (show wErr m now x = 6 by unfold wErr; rw [if_pos hboth])
   clear hboth
   go_wp2
   go_ret
   exact refused_wrote HE.out (by decide) hgl HR3.out.wb
  have d1 : decide ((less (norm cmpT x.l1) x.l2).length < (norm cmpT x.l1).length) = false := decide_eq_false hboth
  have HE1 := Lib.hid hboth
  clear hboth
  have f2 := HR3.out.wb.f2
  go_wp2_with fail
  clear d1 f2
  refine (must_c HR3.out.nn (by omega) hss ((blk_cell HR3.out.bn 0).trans rfl) ((blk_cell HH3.out 0).trans rfl) HR3.out.wb.rd.r3 (by have := hl.n3; omega)).mono ?_
  obtain ⟨bm, hbm⟩ : ∃ bm, (x.l3.any fun t => !decide (t ∈ now)) = bm := ⟨_, rfl⟩
  rw [hbm]
  have HE2 := Lib.hid hbm
  clear hbm
  rintro e w8 ⟨rfl, hb⟩
  have HR4 := Lib.hid (HR3.out.below hb)
  have HH4 := Lib.hid (blkB HH3.out hb)
  have HN4 := Lib.hid (HN3.out.below hb)
  clear hb HR3 HH3 HN3
  cases bm with
  | true =>
   have HE := Lib.hid (show wErr m now x = 4 by unfold wErr; rw [if_neg HE1.out, if_pos HE2.out])
   go_wp2
   go_ret
   exact refused_wrote HE.out (by decide) hgl HR4.out.wb
  | false =>
  have f3 := HR4.out.wb.f3
  have fh := (blk_cell HH4.out 0).trans (rfl : _ = some (Value.func (.func 49) #[] #[.pointer (some ⟨bn, 0, none⟩)]))
  go_wp2_with fail
  clear f3 fh
  refine (not_c HR4.out.nn (by omega) hss ((blk_cell HR4.out.bn 0).trans rfl) HR4.out.wb.rd.r4 (by have := hl.n4; omega)).mono ?_
  obtain ⟨bm, hbm⟩ : ∃ bm, (x.l4.any fun t => decide (t ∈ now)) = bm := ⟨_, rfl⟩
  rw [hbm]
  have HE3 := Lib.hid hbm
  clear hbm
  rintro e w9 ⟨rfl, hb⟩
  have HR5 := Lib.hid (HR4.out.below hb)
  have HN5 := Lib.hid (HN4.out.below hb)
  clear hb HR4 HH4 HN4
  cases bm with
  | true =>
   have HE := Lib.hid (show wErr m now x = 3 by unfold wErr; rw [if_neg HE1.out, if_neg (by rw [HE2.out]; decide), if_pos HE3.out])
   go_wp2
   go_ret
   exact refused_wrote HE.out (by decide) hgl HR5.out.wb
  | false =>
  obtain ⟨v, hq, hg, hB, hRow⟩ := HR5.out.wb.st.out
  have g0 := (blk_cell hg 0).trans (rfl : _ = some (Value.int .i64 m))
  have g1 := (blk_cell hg 1).trans (rfl : _ = some v)
  have gf := blk_frozen hg 1
  have gf0 := blk_frozen hg 0
  have fn := (blk_cell HR5.out.bn 0).trans (rfl : _ = some (Value.slice An' now.length cn'))
  have HG := Lib.hid hg
  have HQ := Lib.hid hq
  have HRW := Lib.hid hRow
  clear hg hq hRow
  by_cases hfull : m < ((nextW now x).length : Int)
  ·have d2 : decide (m < ((nextW now x).length : Int)) = true := decide_eq_true hfull
   have HE := Lib.hid (show wErr m now x = 5 by unfold wErr; rw [if_neg HE1.out, if_neg (by rw [HE2.out]; decide), if_neg (by rw [HE3.out]; decide), if_pos hfull])
   clear hfull
   go_wp2
   go_ret
   exact refused_wrote HE.out (by decide) hgl HR5.out.wb
  have d2 : decide (m < ((nextW now x).length : Int)) = false := decide_eq_false hfull
  have HE := Lib.hid (show wErr m now x = 0 by unfold wErr; rw [if_neg HE1.out, if_neg (by rw [HE2.out]; decide), if_neg (by rw [HE3.out]; decide), if_neg hfull])
  clear hfull HE1 HE2 HE3
  go_wp2_with fail
  refine (equal_c HN5.out.rd HR5.out.nn (by have := nextW_length now x; have := hl.n1; omega)).mono ?_
  rintro e w10 ⟨rfl, hdr⟩
  replace hdr := below_of_drawn hdr
  have HR6 := Lib.hid (HR5.out.below hdr)
  have HN6 := Lib.hid (HN5.out.below hdr)
  have k0 := (blk_cell (blkB HG.out hdr) 0).trans (rfl : _ = some (Value.int .i64 m))
  have k1 := (blk_cell (blkB HG.out hdr) 1).trans (rfl : _ = some v)
  have kf := blk_frozen (blkB HG.out hdr) 1
  have HG6 := Lib.hid (blkB HG.out hdr)
  have HRW6 := Lib.hid (Kd.R_below HRW.out hdr)
  clear hdr HR5 HN5 g0 g1 gf gf0 fn HG HRW
  by_cases heq : nextW now x = now
  ·have d3 : decide (nextW now x = now) = true := decide_eq_true heq
   have HEQ := Lib.hid heq
   clear heq
   go_wp2
   go_ret
   exact same_wrote HE.out HEQ.out hgl HR6.out.wb
  have d3 : decide (nextW now x = now) = false := decide_eq_false heq
  have HEQ := Lib.hid heq
  clear heq
  have HAP := Lib.hid (next_apart HRW6.out HN6.out)
  have HBB := Lib.hid (show B ≤ w10.heap.size by have h1 := HR6.out.wb.bw.size; have h2 := HR6.out.wb.st.base; omega)
  go_wp2_with (at_builtin; refine Kd.R_append (Kd.slice 41 k41) (w0 := w10) B rfl (.tmp 76) (.tmp 78) 48 23 (.slice none 0 0) 24 rfl Try.underlying48 info23 rfl (by decide) (by decide) v (past ++ [now]) (nextW now x) [.slice AN (nextW now x).length cN] (fun _ => True) (fun k => some k ≠ v.ownBlock) rfl rfl ?ap1 ?ap2 ?ap3 HRW6.out (Below.refl _ _) HBB.out ?ap5 ?_)
  case ap1 => exact HAP.out
  case ap2 => exact fun k hk => ⟨trivial, hk⟩
  case ap3 => exact fun _ _ => trivial
  case ap5 => simp only [List.length_append, List.length_cons, List.length_nil]; omega
  intro v1 w11 hR1 hB1 hgr hat
  obtain ⟨Av, cv, hv1, _⟩ := Kd.R_reads hR1
  generalize (past ++ [now, nextW now x]).length = n1 at hv1
  subst hv1
  have G11 := blk_grown HG6.out hgr (Kd.R_ne HRW6.out HG6.out (by decide))
  have HNEW := Lib.hid (new_wrote HE.out HEQ.out hgl HR6.out.wb (by rw [List.append_assoc]; exact hR1) hB1 hgr hat G11 HQ.out)
  have j1 := (blk_cell G11 1).trans (rfl : _ = some v)
  have jf := blk_frozen G11 1
  clear hR1 hB1 hgr hat G11 k0 k1 kf
  go_wp2
  go_ret
  exact HNEW.out
open Go.Proofs.YtpgmeaofmlipkaaH
def wrongB (x : BArg) : Bool := x.l1.any badB || (x.l2.any badB || (x.l3.any badB || x.l4.any badB))
/-- The error of a Write. -/
def wErrA (m : Int) (now : List S41) (x : BArg) : Int := if wrongB x = true then 2 else wErr m now x
def nowA (m : Int) (now : List S41) (x : BArg) : List S41 := if wErrA m now x = 0 then nextW now x else now
def pastA (m : Int) (past : List (List S41)) (now : List S41) (x : BArg) : List (List S41) := if wErrA m now x = 0 ∧ ¬ nextW now x = now then past ++ [now] else past
/-- What a store's Write has done: its error n, the sets behind it. -/
def WroteA (w : World) (B g : Nat) (q : Option Nat) (m : Int) (past' : List (List S41)) (now' : List S41) (n : Int) (e : Ending) (w' : World) : Prop :=
 ∃ q', e = .returned (.int .i64 n) ∧ St w' B g q' m past' now' ∧ Kept w w' (fun k => k = g ∨ some k = q) ∧ Below B w w'
theorem write_c {w : World} {B g : Nat} {q : Option Nat} {m : Int} {past now} (h : St w B g q m past now) (x : BArg) (hr : BRd x w) (hl : BLen x) (hs : BSmall x) (hn : now.length < 100000000) (hss : SS cmpT now) (hp : past.length < 1000000) :
  Calls Try.prog 29 #[.pointer (some ⟨g, 0, none⟩), .agg #[.slice x.A1 x.l1.length x.c1, .slice x.A2 x.l2.length x.c2, .slice x.A3 x.l3.length x.c3, .slice x.A4 x.l4.length x.c4]] w (WroteA w B g q m (pastA m past now x) (nowA m now x) (wErrA m now x)) := by
 by_cases hw : wrongB x = true
 ·have h1 : wErrA m now x = 2 := by unfold wErrA; rw [if_pos hw]
  have h2 : nowA m now x = now := by unfold nowA; rw [h1, if_neg (by decide)]
  have h3 : pastA m past now x = past := by unfold pastA; rw [h1, if_neg (by simp)]
  rw [h1, h2, h3]
  refine (write_wrong h x hr hl hs (by unfold Wrong; unfold wrongB at hw; simpa [Bool.or_eq_true] using hw)).mono fun e w' ⟨he, hb⟩ => ?_
  exact ⟨q, he, h.below hb, Kept.of_below hb _, hb.mono (by have := h.base; have := h.lt; omega)⟩
 ·have h1 : wErrA m now x = wErr m now x := by unfold wErrA; rw [if_neg hw]
  refine (write_main h x hr hl hs (by unfold NotWrong; unfold wrongB at hw; simpa [Bool.or_eq_true] using hw) hn hss hp).mono fun e w' ⟨q', past', now', he, hst, hk, hb, _, hc⟩ => ?_
  refine ⟨q', by rw [h1]; exact he, ?_, hk, hb⟩
  unfold pastA nowA
  rw [h1]
  by_cases h0 : wErr m now x = 0
  ·by_cases h4 : nextW now x = now
   ·rw [if_neg (fun h => h.2 h4)] at hc
    rw [if_neg (fun h => h.2 h4), if_pos h0, h4, ← hc.1, ← hc.2]
    rw [← hc.1, ← hc.2] at *
    exact hst
   ·rw [if_pos ⟨h0, h4⟩] at hc
    rw [if_pos ⟨h0, h4⟩, if_pos h0, ← hc.1, ← hc.2]
    exact hst
  ·rw [if_neg (fun h => h0 h.1)] at hc
   rw [if_neg (fun h => h0 h.1), if_neg h0, ← hc.1, ← hc.2]
   rw [← hc.1, ← hc.2] at *
   exact hst
/-- .. of which all is known. -/
theorem write_eq {w : World} {B g : Nat} {q : Option Nat} {m n : Int} {past now past' now'} (x : BArg) (he : wErrA m now x = n) (hp' : pastA m past now x = past') (hn' : nowA m now x = now') (h : St w B g q m past now) (hr : BRd x w) (hl : BLen x) (hs : BSmall x) (hn : now.length < 100000000) (hss : SS cmpT now) (hp : past.length < 1000000) :
  Calls Try.prog 29 #[.pointer (some ⟨g, 0, none⟩), .agg #[.slice x.A1 x.l1.length x.c1, .slice x.A2 x.l2.length x.c2, .slice x.A3 x.l3.length x.c3, .slice x.A4 x.l4.length x.c4]] w (WroteA w B g q m past' now' n) := by
 rw [← he, ← hp', ← hn']; exact write_c h x hr hl hs hn hss hp
theorem Row.write {w w' : World} {B' A c l} {B g : Nat} {q : Option Nat} {m : Int} {past now} (h : Row w B' A c l) (s : St w B g q m past now) (hk : Kept w w' (fun k => k = g ∨ some k = q)) : Row w' B' A c l := by
 obtain ⟨v, hq, hg, hB, hR⟩ := s.out
 obtain ⟨inner, ho⟩ := Kd.R_own hR
 refine ⟨Kd.R_mono (Kd.R_step (Kd.R_bound h.out) (fun k hk2 hlt => hk.2 k hlt ?_)) (fun _ _ => trivial)⟩
 obtain ⟨_, _, _, t, ht, cells, hc⟩ := hk2
 rintro (rfl | he)
 ·rw [hg] at hc
  injection hc with hc
  injection hc with _ hc
  rw [← hc] at ht
  exact absurd ht (by decide)
 ·obtain ⟨cells', hc'⟩ := own_typed ho k (by rw [hq, he])
  rw [hc] at hc'
  injection hc' with hc'
  injection hc' with _ hc'
  rw [hc'] at ht
  exact absurd ht (by decide)
/-- A block of another type is as it was behind a store's Write. -/
theorem blk_write {w w' : World} {b t : Nat} {cs : Array Value} {B g : Nat} {q : Option Nat} {m : Int} {past now} (h : w.heap[b]? = some (.cells cs t (0, 0))) (h1 : t ≠ 77) (h2 : t ≠ 23) (s : St w B g q m past now) (hk : Kept w w' (fun k => k = g ∨ some k = q)) : w'.heap[b]? = some (.cells cs t (0, 0)) := by
 obtain ⟨v, hq, hg, hB, hR⟩ := s.out
 obtain ⟨inner, ho⟩ := Kd.R_own hR
 refine (hk.2 b (Array.getElem?_eq_some_iff.1 h).1 ?_).trans h
 rintro (rfl | he)
 ·rw [hg] at h
  injection h with h
  injection h with _ h
  exact h1 h.symm
 ·obtain ⟨cells', hc'⟩ := own_typed ho b (by rw [hq, he])
  rw [h] at hc'
  injection hc' with hc'
  injection hc' with _ hc'
  exact h2 hc'
/-- A tuple in a variable. -/
def TupAt (w : World) (b : Nat) (t : S41) : Prop := w.heap[b]? = some (.cells #[.string t.f0.f0, .string t.f0.f1, .string t.f1, .string t.f2.f0, .string t.f2.f1, .string t.f2.f2] 41 (0, 0))
theorem TupAt.below {w w1 : World} {b t} (h : TupAt w b t) (hb : Below w.heap.size w w1) : TupAt w1 b t := blkB h hb
theorem TupAt.c0 {w : World} {b t} (h : TupAt w b t) : w.cell? ⟨b, 0, none⟩ = some (.string t.f0.f0) := (blk_cell h 0).trans rfl
theorem TupAt.c1 {w : World} {b t} (h : TupAt w b t) : w.cell? ⟨b, 1, none⟩ = some (.string t.f0.f1) := (blk_cell h 1).trans rfl
theorem TupAt.c2 {w : World} {b t} (h : TupAt w b t) : w.cell? ⟨b, 2, none⟩ = some (.string t.f1) := (blk_cell h 2).trans rfl
theorem TupAt.c3 {w : World} {b t} (h : TupAt w b t) : w.cell? ⟨b, 3, none⟩ = some (.string t.f2.f0) := (blk_cell h 3).trans rfl
theorem TupAt.c4 {w : World} {b t} (h : TupAt w b t) : w.cell? ⟨b, 4, none⟩ = some (.string t.f2.f1) := (blk_cell h 4).trans rfl
theorem TupAt.c5 {w : World} {b t} (h : TupAt w b t) : w.cell? ⟨b, 5, none⟩ = some (.string t.f2.f2) := (blk_cell h 5).trans rfl
/-- A literal row of tuples. -/
theorem row_lit (w : World) (l : List S41) (cs : Array Value) (n : Nat) (h : cs = (cellsOf enc41 l).toArray) (hn : l.length = n) (hl : n < 1000000) : Row (w.alloc (.cells cs 41)) w.heap.size (some ⟨w.heap.size, 0, none⟩) n l := by
 subst h
 subst hn
 refine ⟨R_of_cells flat41 ?_ (fun _ _ => trivial)⟩
 have h2 := World.ownsRow_lit (base := w.heap.size) (e := 41) (size := 6) w (cellsOf enc41 l).toArray l.length (Nat.le_refl _) (by unfold maxLen; omega) (by have := cells_len flat41 l; rw [List.size_toArray]; exact this)
 have h3 : (w.alloc (.cells (cellsOf enc41 l).toArray 41)).ownsRow w.heap.size 41 6 (.slice (some ⟨w.heap.size, 0, none⟩) l.length l.length) l.length (cellsOf enc41 l) := by simpa using h2
 exact h3
end Go.Proofs.Ytpgmeaofmlipkaa.PT
