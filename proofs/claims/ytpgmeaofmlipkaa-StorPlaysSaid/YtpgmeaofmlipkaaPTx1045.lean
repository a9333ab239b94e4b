-- Written by a program of this session (wip/tools/pp.py over the kit's printer). Lean checks it.
import Derived.Test.YtpgmeaofmlipkaaPTx0
import Derived.Test.YtpgmeaofmlipkaaPTx1042
namespace Go.Proofs.Ytpgmeaofmlipkaa.PT
open Go.RowKit Go.Proofs.YtpgmeaofmlipkaaW.PrintWords Go.Proofs.YtpgmeaofmlipkaaW.PrintLast Go.Proofs.YtpgmeaofmlipkaaW.PrintMore
attribute [local go_sem] max2_int min2_int max_two min_two max_three min_three max_four min_four   -- for this text's walks alone
set_option linter.unusedVariables false
set_option linter.unusedSimpArgs false

/-! ### entailref1_place: function 45 -/
def entailref1_place.l0 : Nat → List (S41) → Int → Int → ByteArray → ByteArray → ByteArray → ByteArray → ByteArray → ByteArray → Option (Int)
 | 0, _, _, _, _, _, _, _, _, _ => none
 | k + 1, x0, x5, x6, x367000, x367001, x367002, x367003, x367004, x367005 => if x5 < x6 then (if 0 ≤ (wrap64 (Int.tdiv (wrap64 (x5 + x6)) 2)) then (if (wrap64 (Int.tdiv (wrap64 (x5 + x6)) 2)) < (x0.length : Int) then ((entailref1_Less.f ((rd_T41 x0 (wrap64 (Int.tdiv (wrap64 (x5 + x6)) 2))).f0.f0) ((rd_T41 x0 (wrap64 (Int.tdiv (wrap64 (x5 + x6)) 2))).f0.f1) ((rd_T41 x0 (wrap64 (Int.tdiv (wrap64 (x5 + x6)) 2))).f1) ((rd_T41 x0 (wrap64 (Int.tdiv (wrap64 (x5 + x6)) 2))).f2.f0) ((rd_T41 x0 (wrap64 (Int.tdiv (wrap64 (x5 + x6)) 2))).f2.f1) ((rd_T41 x0 (wrap64 (Int.tdiv (wrap64 (x5 + x6)) 2))).f2.f2) x367000 x367001 x367002 x367003 x367004 x367005).bind fun t368 => (if t368 = true then (entailref1_place.l0 k x0 (wrap64 ((wrap64 (Int.tdiv (wrap64 (x5 + x6)) 2)) + 1)) x6 x367000 x367001 x367002 x367003 x367004 x367005) else (entailref1_place.l0 k x0 x5 (wrap64 (Int.tdiv (wrap64 (x5 + x6)) 2)) x367000 x367001 x367002 x367003 x367004 x367005))) else (none)) else (none)) else (some x5)
def entailref1_place.f (k : Nat) (l0 : List (S41)) (a1_0 : ByteArray) (a1_1 : ByteArray) (a1_2 : ByteArray) (a1_3 : ByteArray) (a1_4 : ByteArray) (a1_5 : ByteArray) : Option (Int) := entailref1_place.l0 k l0 0 (l0.length : Int) a1_0 a1_1 a1_2 a1_3 a1_4 a1_5
theorem entailref1_place.mono_l : ∀ k, (∀ y0 y1 y2 y3 y4 y5 y6 y7 y8, LeO (entailref1_place.l0 k y0 y1 y2 y3 y4 y5 y6 y7 y8) (entailref1_place.l0 (k + 1) y0 y1 y2 y3 y4 y5 y6 y7 y8))
 | 0 => fun _ _ _ _ _ _ _ _ _ r h => by simp [entailref1_place.l0] at h
 | k + 1 => by
  have ih0 := entailref1_place.mono_l k
  ·intro y0 y1 y2 y3 y4 y5 y6 y7 y8
   unfold entailref1_place.l0
   repeat' first
   | (with_reducible exact ih0 _ _ _ _ _ _ _ _ _)
   | (with_reducible exact LeO.refl _)
   | (with_reducible exact LeO.none _)
   | (with_reducible refine LeO.ite ?_ ?_)
   | (with_reducible refine LeO.bind ?_ (fun _ => ?_))
   | exact ih0 _ _ _ _ _ _ _ _ _
   | exact LeO.none _
   | refine LeO.ite ?_ ?_
   | refine LeO.bind ?_ (fun _ => ?_)
theorem entailref1_place.mono : ∀ a0 a1 a2 a3 a4 a5 a6 k, LeO (entailref1_place.f k a0 a1 a2 a3 a4 a5 a6) (entailref1_place.f (k + 1) a0 a1 a2 a3 a4 a5 a6) := by
 intro a0 a1 a2 a3 a4 a5 a6 k
 have ih0 := entailref1_place.mono_l k
 unfold entailref1_place.f
 repeat' first
   | (with_reducible exact ih0 _ _ _ _ _ _ _ _ _)
   | (with_reducible exact LeO.refl _)
   | (with_reducible exact LeO.none _)
   | (with_reducible refine LeO.ite ?_ ?_)
   | (with_reducible refine LeO.bind ?_ (fun _ => ?_))
   | exact ih0 _ _ _ _ _ _ _ _ _
   | exact LeO.none _
   | refine LeO.ite ?_ ?_
   | refine LeO.bind ?_ (fun _ => ?_)
set_option maxHeartbeats 8000000 in
set_option maxRecDepth 100000 in
theorem entailref1_place.calls (k : Nat) (A0 : Option Addr) (c0 : Nat) (l0 : List (S41)) (a1_0 : ByteArray) (a1_1 : ByteArray) (a1_2 : ByteArray) (a1_3 : ByteArray) (a1_4 : ByteArray) (a1_5 : ByteArray) (r : Int) (w : World) (hr0 : Kd.C k41 w A0 l0.length l0) (hc0 : l0.length ≤ c0) (h : entailref1_place.f k l0 a1_0 a1_1 a1_2 a1_3 a1_4 a1_5 = some r) :
  Calls Try.prog 45 #[.slice A0 l0.length c0, .agg #[.string a1_0, .string a1_1, .string a1_2, .string a1_3, .string a1_4, .string a1_5]] w fun e w' => e = .returned (.int .i64 r) ∧ Below w.heap.size w w' := by
 have hu41 := Try.underlying41
 have HR0 := Aside0.mk hr0
 have HC0 := Aside0.mk hc0
 clear hr0 hc0
 have HB := Aside0.mk (Below.refl w.heap.size w)
 have H : (entailref1_place.l0 k l0 0 (l0.length : Int) a1_0 a1_1 a1_2 a1_3 a1_4 a1_5) = some r := h
 clear h
 have H' := Aside0.mk H
 clear H
 go_enter Try.func45, Try.ntmps45
 go_wp2_with (first | ((with_reducible refine gate_dst (N := 3) rfl ?_); refine box_event ?hg (N := 3) ?hd (cs := #[.string a1_0, .string a1_1, .string a1_2, .string a1_3, .string a1_4, .string a1_5]) (t := 41) ?hr ?_; (case hd => rfl); (case hg => rfl); (case hr => first | (go_simp; done) | (go_simp; rfl)); intro gb366 hg w3 hbox hb; have n0_ := Aside0.mk (below_step (by repeat (first | (with_reducible first | exact HB.out | apply below_alloc | apply pw_below_drewN | apply below_drew1) | exact HB.out)) hb); have n1_ := Aside0.mk (hbox); have n2_ := Aside0.mk ((by rw [hg]; exact (below_size (by repeat (first | (with_reducible first | exact HB.out | apply below_alloc | apply pw_below_drewN | apply below_drew1) | exact HB.out))) : w.heap.size ≤ gb366)); have n3_ := Aside0.mk ((by rw [hg]; exact (below_size (by repeat (first | (with_reducible first | exact HB.out | apply below_alloc | apply pw_below_drewN | apply below_drew1) | exact HB.out))) : w.heap.size ≤ gb366)); clear HB; have HB := n0_; have BK366 := n1_; have GW366 := n2_; have GE366 := n3_; clear n0_ n1_ n2_ n3_; clear hb hbox hg))
 go_loopg [5, 6] k (fun kq v5 v6 w' => ∃ (x5_1 : Int) (x6_1 : Int), v5 = .int .i64 x5_1 ∧ v6 = .int .i64 x6_1 ∧ Aside0 (entailref1_place.l0 kq l0 x5_1 x6_1 a1_0 a1_1 a1_2 a1_3 a1_4 a1_5 = some r) ∧ Aside0 (kq ≤ k) ∧ Aside0 (w'.heap[gb366]? = some (.cells #[.string a1_0, .string a1_1, .string a1_2, .string a1_3, .string a1_4, .string a1_5] 41 (0, 0))) ∧ Aside0 (Below w.heap.size w w'))
 case atStart => exact ⟨(0), ((l0.length : Int)), (by first | rfl | (simp; done) | (simp [*]; done)), (by first | rfl | (simp; done) | (simp [*]; done)), H', ⟨Nat.le_refl _⟩, ⟨by (with_reducible repeat (first | refine blk_drewN ?_ _ | refine blk_drew ?_ | refine blk_alloc ?_ _)); exact BK366.out⟩, ⟨by repeat (first | (with_reducible first | exact HB.out | apply below_alloc | apply pw_below_drewN | apply below_drew1 | refine below_set ?_ GE366.out) | exact HB.out)⟩⟩
 case round =>
  clear H'
  try clear p2
  obtain ⟨x5_1, x6_1, rfl, rfl, HA, HK1, BK366, HB⟩ := hrel
  cases gk with
  | zero => exact absurd HA.out (by simp [entailref1_place.l0])
  | succ k1 =>
   have H := HA.out
   clear HA
   simp only [entailref1_place.l0] at H
   by_cases c4 : x5_1 < x6_1
   ·rw [if_pos c4] at H
    have c4b0 : decide (x5_1 < x6_1) = true := decide_eq_true c4
    clear c4
    obtain ⟨ji5, hji5⟩ : ∃ j_ : Int, (wrap64 (Int.tdiv (wrap64 (x5_1 + x6_1)) 2)) = j_ := ⟨_, rfl⟩
    replace H : (if 0 ≤ (ji5) then (if (ji5) < (l0.length : Int) then ((entailref1_Less.f ((rd_T41 l0 (ji5)).f0.f0) ((rd_T41 l0 (ji5)).f0.f1) ((rd_T41 l0 (ji5)).f1) ((rd_T41 l0 (ji5)).f2.f0) ((rd_T41 l0 (ji5)).f2.f1) ((rd_T41 l0 (ji5)).f2.f2) a1_0 a1_1 a1_2 a1_3 a1_4 a1_5).bind fun t368 => (if t368 = true then (entailref1_place.l0 k1 l0 (wrap64 ((ji5) + 1)) x6_1 a1_0 a1_1 a1_2 a1_3 a1_4 a1_5) else (entailref1_place.l0 k1 l0 x5_1 ji5 a1_0 a1_1 a1_2 a1_3 a1_4 a1_5))) else (none)) else (none)) = some r := by first | (rw [hji5] at H; exact H) | (simp only [hji5] at H ⊢; exact H)
    have hji5w : (IntKind.i64.wrap (Int.tdiv (wrap64 (x5_1 + x6_1)) 2)) = ji5 := (i64_w _).trans hji5
    by_cases c6 : 0 ≤ (ji5)
    ·rw [if_pos c6] at H
     have c6b0 : decide (0 ≤ (ji5)) = true := decide_eq_true c6
     clear c6
     by_cases c7 : (ji5) < (l0.length : Int)
     ·rw [if_pos c7] at H
      have c7b0 : decide ((ji5) < (l0.length : Int)) = true := decide_eq_true c7
      clear c7
      replace H := Option.bind_eq_some_iff.mp H
      obtain ⟨t368, A80, H⟩ := H
      replace H : (if t368 = true then (entailref1_place.l0 k1 l0 (wrap64 ((ji5) + 1)) x6_1 a1_0 a1_1 a1_2 a1_3 a1_4 a1_5) else (entailref1_place.l0 k1 l0 x5_1 ji5 a1_0 a1_1 a1_2 a1_3 a1_4 a1_5)) = some r := H
      have A8 := Aside0.mk A80
      clear A80
      by_cases c9 : t368 = true
      ·subst c9
       have H1 : (entailref1_place.l0 k1 l0 (wrap64 ((ji5) + 1)) x6_1 a1_0 a1_1 a1_2 a1_3 a1_4 a1_5) = some r := by rw [if_pos rfl] at H; exact H
       clear H
       have H := H1
       clear H1
       have H' := Aside0.mk H
       clear H
       try go_wp2
       have n0_ := Aside0.mk (blk_drew BK366.out)
       have n1_ := Aside0.mk (below_drew1 HB.out)
       clear BK366
       clear HB
       have BK366 := n0_
       have HB := n1_
       clear n0_ n1_
       have p367 : 0 ≤ ((ji5) : Int) := of_decide_eq_true (by first | (with_reducible assumption) | assumption)
       have q367 : (ji5) < (l0.length : Int) := of_decide_eq_true (by first | (with_reducible assumption) | assumption)
       obtain ⟨ad367, e367, hx367_0, hx367_1, hx367_2, hx367_3, hx367_4, hx367_5⟩ := at_T41 HR0.out (ji5) p367 q367
       have hw367_5 := hx367_5
       have hw367_4 := hx367_4
       have hw367_3 := hx367_3
       have hw367_2 := hx367_2
       have hw367_1 := hx367_1
       have hw367_0 := hx367_0
       cases e367
       replace hx367_0 := (HB.out.cell (World.block_lt_of_cell? w _ hx367_0)).trans hx367_0
       replace hx367_1 := (HB.out.cell (World.block_lt_of_cell? w _ hx367_1)).trans hx367_1
       replace hx367_2 := (HB.out.cell (World.block_lt_of_cell? w _ hx367_2)).trans hx367_2
       replace hx367_3 := (HB.out.cell (World.block_lt_of_cell? w _ hx367_3)).trans hx367_3
       replace hx367_4 := (HB.out.cell (World.block_lt_of_cell? w _ hx367_4)).trans hx367_4
       replace hx367_5 := (HB.out.cell (World.block_lt_of_cell? w _ hx367_5)).trans hx367_5
       replace p367 := eq_true p367
       replace q367 := eq_true q367
       refine start_ (n := 6) (S := fun w' => w'.cell? ⟨gb366, 0, none⟩ = some (.string a1_0) ∧ w'.cell? ⟨gb366, 1, none⟩ = some (.string a1_1) ∧ w'.cell? ⟨gb366, 2, none⟩ = some (.string a1_2) ∧ w'.cell? ⟨gb366, 3, none⟩ = some (.string a1_3) ∧ w'.cell? ⟨gb366, 4, none⟩ = some (.string a1_4) ∧ w'.cell? ⟨gb366, 5, none⟩ = some (.string a1_5) ∧ w'.cell? (ad367.add (((ji5)).toNat * 6)) = some (.string ((rd_T41 l0 (ji5)).f0.f0)) ∧ w'.cell? ⟨(ad367.add (((ji5)).toNat * 6)).block, (ad367.add (((ji5)).toNat * 6)).off + 1, none⟩ = some (.string ((rd_T41 l0 (ji5)).f0.f1)) ∧ w'.cell? ⟨(ad367.add (((ji5)).toNat * 6)).block, (ad367.add (((ji5)).toNat * 6)).off + 2, none⟩ = some (.string ((rd_T41 l0 (ji5)).f1)) ∧ w'.cell? ⟨(ad367.add (((ji5)).toNat * 6)).block, (ad367.add (((ji5)).toNat * 6)).off + 3, none⟩ = some (.string ((rd_T41 l0 (ji5)).f2.f0)) ∧ w'.cell? ⟨(ad367.add (((ji5)).toNat * 6)).block, (ad367.add (((ji5)).toNat * 6)).off + 4, none⟩ = some (.string ((rd_T41 l0 (ji5)).f2.f1)) ∧ w'.cell? ⟨(ad367.add (((ji5)).toNat * 6)).block, (ad367.add (((ji5)).toNat * 6)).off + 5, none⟩ = some (.string ((rd_T41 l0 (ji5)).f2.f2))) (ds := []) #[F,F,F,F,F,F] (by kernel_rfl) rfl rfl ⟨(blk_cell BK366.out 0).trans rfl, (blk_cell BK366.out 1).trans rfl, (blk_cell BK366.out 2).trans rfl, (blk_cell BK366.out 3).trans rfl, (blk_cell BK366.out 4).trans rfl, (blk_cell BK366.out 5).trans rfl, ((HB.out.cell (World.block_lt_of_cell? w _ hw367_0)).trans hw367_0), ((HB.out.cell (World.block_lt_of_cell? w _ hw367_1)).trans hw367_1), ((HB.out.cell (World.block_lt_of_cell? w _ hw367_2)).trans hw367_2), ((HB.out.cell (World.block_lt_of_cell? w _ hw367_3)).trans hw367_3), ((HB.out.cell (World.block_lt_of_cell? w _ hw367_4)).trans hw367_4), ((HB.out.cell (World.block_lt_of_cell? w _ hw367_5)).trans hw367_5)⟩ (fun hHeld => ?_)
       generalize wr.drew = w10 at BK366 HB hx367_0 hx367_1 hx367_2 hx367_3 hx367_4 hx367_5 hHeld ⊢
       refine pure_ (i := 0) (N := some 17) (v := ?_) (a' := ?_) #[T,F,F,F,F,F] rfl rfl (by kernel_rfl) (fun _ _ _ h => h) (Or.inl ⟨by rfl, ?_⟩) ?_ ?_
       rotate_left
       ·intro w'
        go_simp
        with_reducible rfl
       rotate_left
       ·simp only [Act.put, sa_, sz_, ss_, i64_w, i32_w]
        rfl
       refine pure_ (i := 1) (N := some 18) (v := ?_) (a' := ?_) #[T,T,F,F,F,F] rfl rfl (by kernel_rfl) (fun _ _ _ h => h) (Or.inl ⟨by rfl, ?_⟩) ?_ ?_
       rotate_left
       ·intro w'
        go_simp
        with_reducible rfl
       rotate_left
       ·simp only [Act.put, sa_, sz_, ss_, i64_w, i32_w]
        rfl
       refine pure_ (i := 2) (N := some 19) (v := ?_) (a' := ?_) #[T,T,T,F,F,F] rfl rfl (by kernel_rfl) (fun _ _ _ h => h) (Or.inl ⟨by rfl, ?_⟩) ?_ ?_
       rotate_left
       ·intro w'
        go_simp
        with_reducible rfl
       rotate_left
       ·simp only [Act.put, sa_, sz_, ss_, i64_w, i32_w]
        rfl
       refine take_ (i := 3) (N := some 20) (v := ?_) (a' := ?_) #[T,T,T,T,F,F] rfl rfl (by kernel_rfl) (fun _ _ _ h => h) (Or.inl ⟨by rfl, ?_⟩) hHeld ?_ ?_
       rotate_left
       ·rintro w' ⟨s0, s1, s2, s3, s4, s5, s6, s7, s8, s9, s10, s11⟩
        go_simp
        with_reducible rfl
       rotate_left
       ·simp only [Act.put, sa_, sz_, ss_, i64_w, i32_w]
        rfl
       refine take_ (i := 4) (N := some 21) (v := ?_) (a' := ?_) #[T,T,T,T,T,F] rfl rfl (by kernel_rfl) (fun _ _ _ h => h) (Or.inl ⟨by rfl, ?_⟩) hHeld ?_ ?_
       rotate_left
       ·rintro w' ⟨s0, s1, s2, s3, s4, s5, s6, s7, s8, s9, s10, s11⟩
        go_simp
        with_reducible rfl
       rotate_left
       ·simp only [Act.put, sa_, sz_, ss_, i64_w, i32_w]
        rfl
       refine one_ (i := 5) (N := some 22) #[T,T,T,T,T,T] rfl rfl (by kernel_rfl) (by decide) (fun K hK => ?_)
       refine goes_ Try.func42 (by kernel_rfl) rfl #[.agg #[.string ((rd_T41 l0 (ji5)).f0.f0), .string ((rd_T41 l0 (ji5)).f0.f1), .string ((rd_T41 l0 (ji5)).f1), .string ((rd_T41 l0 (ji5)).f2.f0), .string ((rd_T41 l0 (ji5)).f2.f1), .string ((rd_T41 l0 (ji5)).f2.f2)], .agg #[.string a1_0, .string a1_1, .string a1_2, .string a1_3, .string a1_4, .string a1_5]] (by rfl) rfl rfl (by (try simp only [List.map_toArray, List.map_cons, List.map_nil]); first | done | (simp only [hji5]; rfl) | rfl | (simp only [List.length_drop, List.length_take]; rfl)) ?_
       with_reducible refine (entailref1_Less.calls ((rd_T41 l0 (ji5)).f0.f0) ((rd_T41 l0 (ji5)).f0.f1) ((rd_T41 l0 (ji5)).f1) ((rd_T41 l0 (ji5)).f2.f0) ((rd_T41 l0 (ji5)).f2.f1) ((rd_T41 l0 (ji5)).f2.f2) a1_0 a1_1 a1_2 a1_3 a1_4 a1_5 true _ A8.out).mono ?_
       rintro e w11 ⟨rfl, hb⟩
       refine ⟨_, rfl, ?_⟩
       have n0_ := Aside0.mk (blk_below (g := gb366) (o := .cells #[.string a1_0, .string a1_1, .string a1_2, .string a1_3, .string a1_4, .string a1_5] 41 (0, 0)) (by (with_reducible repeat (first | refine blk_drewN ?_ _ | refine blk_drew ?_ | refine blk_alloc ?_ _)); exact BK366.out) hb)
       have n1_ := Aside0.mk (below_step (by repeat (first | (with_reducible first | exact HB.out | apply below_alloc | apply pw_below_drewN | apply below_drew1 | refine below_set ?_ GE366.out) | exact HB.out)) hb)
       clear BK366
       clear HB
       have BK366 := n0_
       have HB := n1_
       clear n0_ n1_
       (try clear hb)
       (try clear hb2)
       (try clear hk)
       (try clear hi)
       refine hK.out _ _ ⟨(blk_cell BK366.out 0).trans rfl, (blk_cell BK366.out 1).trans rfl, (blk_cell BK366.out 2).trans rfl, (blk_cell BK366.out 3).trans rfl, (blk_cell BK366.out 4).trans rfl, (blk_cell BK366.out 5).trans rfl, ((HB.out.cell (World.block_lt_of_cell? w _ hw367_0)).trans hw367_0), ((HB.out.cell (World.block_lt_of_cell? w _ hw367_1)).trans hw367_1), ((HB.out.cell (World.block_lt_of_cell? w _ hw367_2)).trans hw367_2), ((HB.out.cell (World.block_lt_of_cell? w _ hw367_3)).trans hw367_3), ((HB.out.cell (World.block_lt_of_cell? w _ hw367_4)).trans hw367_4), ((HB.out.cell (World.block_lt_of_cell? w _ hw367_5)).trans hw367_5)⟩ (fun hHeld => ?_)
       clear hK K
       refine norm_ (a' := ?_) ?_ ?_
       rotate_left
       ·show Act.put _ (some 22) _ = _
        simp only [Act.put, sa_, sz_, ss_, i64_w, i32_w]
        rfl
       refine done_ (by kernel_rfl) ?_
       try go_wp2
       go_roundg k1
       case measure => have := HK1.out; omega
       case rel => exact ⟨(wrap64 ((ji5) + 1)), (x6_1), (by first | rfl | (simp; done) | (simp only [← hji5] <;> (first | rfl | simp)) | (simp [*]; done)), (by first | rfl | (simp; done) | (simp [*]; done)), H', ⟨by have := HK1.out; omega⟩, ⟨by (with_reducible repeat (first | refine blk_drewN ?_ _ | refine blk_drew ?_ | refine blk_alloc ?_ _)); exact BK366.out⟩, ⟨by repeat (first | (with_reducible first | exact HB.out | apply below_alloc | apply pw_below_drewN | apply below_drew1 | refine below_set ?_ GE366.out) | exact HB.out)⟩⟩
      ·replace c9 := Bool.eq_false_iff.mpr c9
       subst c9
       have H1 : (entailref1_place.l0 k1 l0 x5_1 ji5 a1_0 a1_1 a1_2 a1_3 a1_4 a1_5) = some r := by rw [if_neg (show ¬ (false = true) by decide)] at H; exact H
       clear H
       have H := H1
       clear H1
       have H' := Aside0.mk H
       clear H
       try go_wp2
       have n0_ := Aside0.mk (blk_drew BK366.out)
       have n1_ := Aside0.mk (below_drew1 HB.out)
       clear BK366
       clear HB
       have BK366 := n0_
       have HB := n1_
       clear n0_ n1_
       have p367 : 0 ≤ ((ji5) : Int) := of_decide_eq_true (by first | (with_reducible assumption) | assumption)
       have q367 : (ji5) < (l0.length : Int) := of_decide_eq_true (by first | (with_reducible assumption) | assumption)
       obtain ⟨ad367, e367, hx367_0, hx367_1, hx367_2, hx367_3, hx367_4, hx367_5⟩ := at_T41 HR0.out (ji5) p367 q367
       have hw367_5 := hx367_5
       have hw367_4 := hx367_4
       have hw367_3 := hx367_3
       have hw367_2 := hx367_2
       have hw367_1 := hx367_1
       have hw367_0 := hx367_0
       cases e367
       replace hx367_0 := (HB.out.cell (World.block_lt_of_cell? w _ hx367_0)).trans hx367_0
       replace hx367_1 := (HB.out.cell (World.block_lt_of_cell? w _ hx367_1)).trans hx367_1
       replace hx367_2 := (HB.out.cell (World.block_lt_of_cell? w _ hx367_2)).trans hx367_2
       replace hx367_3 := (HB.out.cell (World.block_lt_of_cell? w _ hx367_3)).trans hx367_3
       replace hx367_4 := (HB.out.cell (World.block_lt_of_cell? w _ hx367_4)).trans hx367_4
       replace hx367_5 := (HB.out.cell (World.block_lt_of_cell? w _ hx367_5)).trans hx367_5
       replace p367 := eq_true p367
       replace q367 := eq_true q367
       refine start_ (n := 6) (S := fun w' => w'.cell? ⟨gb366, 0, none⟩ = some (.string a1_0) ∧ w'.cell? ⟨gb366, 1, none⟩ = some (.string a1_1) ∧ w'.cell? ⟨gb366, 2, none⟩ = some (.string a1_2) ∧ w'.cell? ⟨gb366, 3, none⟩ = some (.string a1_3) ∧ w'.cell? ⟨gb366, 4, none⟩ = some (.string a1_4) ∧ w'.cell? ⟨gb366, 5, none⟩ = some (.string a1_5) ∧ w'.cell? (ad367.add (((ji5)).toNat * 6)) = some (.string ((rd_T41 l0 (ji5)).f0.f0)) ∧ w'.cell? ⟨(ad367.add (((ji5)).toNat * 6)).block, (ad367.add (((ji5)).toNat * 6)).off + 1, none⟩ = some (.string ((rd_T41 l0 (ji5)).f0.f1)) ∧ w'.cell? ⟨(ad367.add (((ji5)).toNat * 6)).block, (ad367.add (((ji5)).toNat * 6)).off + 2, none⟩ = some (.string ((rd_T41 l0 (ji5)).f1)) ∧ w'.cell? ⟨(ad367.add (((ji5)).toNat * 6)).block, (ad367.add (((ji5)).toNat * 6)).off + 3, none⟩ = some (.string ((rd_T41 l0 (ji5)).f2.f0)) ∧ w'.cell? ⟨(ad367.add (((ji5)).toNat * 6)).block, (ad367.add (((ji5)).toNat * 6)).off + 4, none⟩ = some (.string ((rd_T41 l0 (ji5)).f2.f1)) ∧ w'.cell? ⟨(ad367.add (((ji5)).toNat * 6)).block, (ad367.add (((ji5)).toNat * 6)).off + 5, none⟩ = some (.string ((rd_T41 l0 (ji5)).f2.f2))) (ds := []) #[F,F,F,F,F,F] (by kernel_rfl) rfl rfl ⟨(blk_cell BK366.out 0).trans rfl, (blk_cell BK366.out 1).trans rfl, (blk_cell BK366.out 2).trans rfl, (blk_cell BK366.out 3).trans rfl, (blk_cell BK366.out 4).trans rfl, (blk_cell BK366.out 5).trans rfl, ((HB.out.cell (World.block_lt_of_cell? w _ hw367_0)).trans hw367_0), ((HB.out.cell (World.block_lt_of_cell? w _ hw367_1)).trans hw367_1), ((HB.out.cell (World.block_lt_of_cell? w _ hw367_2)).trans hw367_2), ((HB.out.cell (World.block_lt_of_cell? w _ hw367_3)).trans hw367_3), ((HB.out.cell (World.block_lt_of_cell? w _ hw367_4)).trans hw367_4), ((HB.out.cell (World.block_lt_of_cell? w _ hw367_5)).trans hw367_5)⟩ (fun hHeld => ?_)
       generalize wr.drew = w12 at BK366 HB hx367_0 hx367_1 hx367_2 hx367_3 hx367_4 hx367_5 hHeld ⊢
       refine pure_ (i := 0) (N := some 17) (v := ?_) (a' := ?_) #[T,F,F,F,F,F] rfl rfl (by kernel_rfl) (fun _ _ _ h => h) (Or.inl ⟨by rfl, ?_⟩) ?_ ?_
       rotate_left
       ·intro w'
        go_simp
        with_reducible rfl
       rotate_left
       ·simp only [Act.put, sa_, sz_, ss_, i64_w, i32_w]
        rfl
       refine pure_ (i := 1) (N := some 18) (v := ?_) (a' := ?_) #[T,T,F,F,F,F] rfl rfl (by kernel_rfl) (fun _ _ _ h => h) (Or.inl ⟨by rfl, ?_⟩) ?_ ?_
       rotate_left
       ·intro w'
        go_simp
        with_reducible rfl
       rotate_left
       ·simp only [Act.put, sa_, sz_, ss_, i64_w, i32_w]
        rfl
       refine pure_ (i := 2) (N := some 19) (v := ?_) (a' := ?_) #[T,T,T,F,F,F] rfl rfl (by kernel_rfl) (fun _ _ _ h => h) (Or.inl ⟨by rfl, ?_⟩) ?_ ?_
       rotate_left
       ·intro w'
        go_simp
        with_reducible rfl
       rotate_left
       ·simp only [Act.put, sa_, sz_, ss_, i64_w, i32_w]
        rfl
       refine take_ (i := 3) (N := some 20) (v := ?_) (a' := ?_) #[T,T,T,T,F,F] rfl rfl (by kernel_rfl) (fun _ _ _ h => h) (Or.inl ⟨by rfl, ?_⟩) hHeld ?_ ?_
       rotate_left
       ·rintro w' ⟨s0, s1, s2, s3, s4, s5, s6, s7, s8, s9, s10, s11⟩
        go_simp
        with_reducible rfl
       rotate_left
       ·simp only [Act.put, sa_, sz_, ss_, i64_w, i32_w]
        rfl
       refine take_ (i := 4) (N := some 21) (v := ?_) (a' := ?_) #[T,T,T,T,T,F] rfl rfl (by kernel_rfl) (fun _ _ _ h => h) (Or.inl ⟨by rfl, ?_⟩) hHeld ?_ ?_
       rotate_left
       ·rintro w' ⟨s0, s1, s2, s3, s4, s5, s6, s7, s8, s9, s10, s11⟩
        go_simp
        with_reducible rfl
       rotate_left
       ·simp only [Act.put, sa_, sz_, ss_, i64_w, i32_w]
        rfl
       refine one_ (i := 5) (N := some 22) #[T,T,T,T,T,T] rfl rfl (by kernel_rfl) (by decide) (fun K hK => ?_)
       refine goes_ Try.func42 (by kernel_rfl) rfl #[.agg #[.string ((rd_T41 l0 (ji5)).f0.f0), .string ((rd_T41 l0 (ji5)).f0.f1), .string ((rd_T41 l0 (ji5)).f1), .string ((rd_T41 l0 (ji5)).f2.f0), .string ((rd_T41 l0 (ji5)).f2.f1), .string ((rd_T41 l0 (ji5)).f2.f2)], .agg #[.string a1_0, .string a1_1, .string a1_2, .string a1_3, .string a1_4, .string a1_5]] (by rfl) rfl rfl (by (try simp only [List.map_toArray, List.map_cons, List.map_nil]); first | done | (simp only [hji5]; rfl) | rfl | (simp only [List.length_drop, List.length_take]; rfl)) ?_
       with_reducible refine (entailref1_Less.calls ((rd_T41 l0 (ji5)).f0.f0) ((rd_T41 l0 (ji5)).f0.f1) ((rd_T41 l0 (ji5)).f1) ((rd_T41 l0 (ji5)).f2.f0) ((rd_T41 l0 (ji5)).f2.f1) ((rd_T41 l0 (ji5)).f2.f2) a1_0 a1_1 a1_2 a1_3 a1_4 a1_5 false _ A8.out).mono ?_
       rintro e w13 ⟨rfl, hb⟩
       refine ⟨_, rfl, ?_⟩
       have n0_ := Aside0.mk (blk_below (g := gb366) (o := .cells #[.string a1_0, .string a1_1, .string a1_2, .string a1_3, .string a1_4, .string a1_5] 41 (0, 0)) (by (with_reducible repeat (first | refine blk_drewN ?_ _ | refine blk_drew ?_ | refine blk_alloc ?_ _)); exact BK366.out) hb)
       have n1_ := Aside0.mk (below_step (by repeat (first | (with_reducible first | exact HB.out | apply below_alloc | apply pw_below_drewN | apply below_drew1 | refine below_set ?_ GE366.out) | exact HB.out)) hb)
       clear BK366
       clear HB
       have BK366 := n0_
       have HB := n1_
       clear n0_ n1_
       (try clear hb)
       (try clear hb2)
       (try clear hk)
       (try clear hi)
       refine hK.out _ _ ⟨(blk_cell BK366.out 0).trans rfl, (blk_cell BK366.out 1).trans rfl, (blk_cell BK366.out 2).trans rfl, (blk_cell BK366.out 3).trans rfl, (blk_cell BK366.out 4).trans rfl, (blk_cell BK366.out 5).trans rfl, ((HB.out.cell (World.block_lt_of_cell? w _ hw367_0)).trans hw367_0), ((HB.out.cell (World.block_lt_of_cell? w _ hw367_1)).trans hw367_1), ((HB.out.cell (World.block_lt_of_cell? w _ hw367_2)).trans hw367_2), ((HB.out.cell (World.block_lt_of_cell? w _ hw367_3)).trans hw367_3), ((HB.out.cell (World.block_lt_of_cell? w _ hw367_4)).trans hw367_4), ((HB.out.cell (World.block_lt_of_cell? w _ hw367_5)).trans hw367_5)⟩ (fun hHeld => ?_)
       clear hK K
       refine norm_ (a' := ?_) ?_ ?_
       rotate_left
       ·show Act.put _ (some 22) _ = _
        simp only [Act.put, sa_, sz_, ss_, i64_w, i32_w]
        rfl
       refine done_ (by kernel_rfl) ?_
       try go_wp2
       go_roundg k1
       case measure => have := HK1.out; omega
       case rel => exact ⟨(x5_1), (ji5), (by first | rfl | (simp; done) | (simp [*]; done)), (by first | rfl | (simp; done) | (simp only [← hji5] <;> (first | rfl | simp)) | (simp [*]; done)), H', ⟨by have := HK1.out; omega⟩, ⟨by (with_reducible repeat (first | refine blk_drewN ?_ _ | refine blk_drew ?_ | refine blk_alloc ?_ _)); exact BK366.out⟩, ⟨by repeat (first | (with_reducible first | exact HB.out | apply below_alloc | apply pw_below_drewN | apply below_drew1 | refine below_set ?_ GE366.out) | exact HB.out)⟩⟩
     ·rw [if_neg c7] at H
      exact absurd H (by simp)
    ·rw [if_neg c6] at H
     exact absurd H (by simp)
   ·rw [if_neg c4] at H
    have c4b0 : decide (x5_1 < x6_1) = false := decide_eq_false c4
    clear c4
    obtain rfl := Option.some.inj H
    go_wp2
    go_ret
    exact ⟨by first | rfl | (simp [errW_none, errW_some] <;> rfl) | (simp [*, errW_none, errW_some] <;> rfl), by repeat (first | (with_reducible first | exact HB.out | apply below_alloc | apply pw_below_drewN | apply below_drew1 | refine below_set ?_ GE366.out) | exact HB.out)⟩

end Go.Proofs.Ytpgmeaofmlipkaa.PT
