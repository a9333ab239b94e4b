-- Written by a program of this session (wip/tools/pp.py over the kit's printer). Lean checks it.
import Derived.Test.YtpgmeaofmlipkaaPTx0
import Derived.Test.YtpgmeaofmlipkaaPTx1043
import Derived.Test.YtpgmeaofmlipkaaPTx3037
namespace Go.Proofs.Ytpgmeaofmlipkaa.PT
open Go.RowKit Go.Proofs.YtpgmeaofmlipkaaW.PrintWords Go.Proofs.YtpgmeaofmlipkaaW.PrintLast Go.Proofs.YtpgmeaofmlipkaaW.PrintMore
attribute [local go_sem] max2_int min2_int max_two min_two max_three min_three max_four min_four   -- for this text's walks alone
set_option linter.unusedVariables false
set_option linter.unusedSimpArgs false

attribute [local go_sem high] eqA41
/-! ### rows_without: function 41 -/
mutual
def rows_without.l0 : Nat → List (S41) → List (S41) → List (S41) → Int → Int → Option ((List (S41)))
 | 0, _, _, _, _, _ => none
 | k + 1, x1, x5, x8, x9, x10 => if x10 < x9 then (if 0 ≤ x10 then (if x10 < (x8.length : Int) then (rows_without.l1 k x1 x5 x8 x9 x10 ((rd_T41 x8 x10).f0.f0) ((rd_T41 x8 x10).f0.f1) ((rd_T41 x8 x10).f1) ((rd_T41 x8 x10).f2.f0) ((rd_T41 x8 x10).f2.f1) ((rd_T41 x8 x10).f2.f2)) else (none)) else (none)) else (some x5)
def rows_without.l1 : Nat → List (S41) → List (S41) → List (S41) → Int → Int → ByteArray → ByteArray → ByteArray → ByteArray → ByteArray → ByteArray → Option ((List (S41)))
 | 0, _, _, _, _, _, _, _, _, _, _, _ => none
 | k + 1, x1, x5, x8, x9, x10, x166000, x166001, x166002, x166003, x166004, x166005 => if (x1.length : Int) > 0 then (if 0 < (x1.length : Int) then ((tupl_Less.f ((rd_T41 x1 0).f0.f0) ((rd_T41 x1 0).f0.f1) ((rd_T41 x1 0).f1) ((rd_T41 x1 0).f2.f0) ((rd_T41 x1 0).f2.f1) ((rd_T41 x1 0).f2.f2) x166000 x166001 x166002 x166003 x166004 x166005).bind fun t167 => (if t167 = true then (if 1 ≤ (x1.length : Int) then (rows_without.l1 k (x1.drop 1) x5 x8 x9 x10 x166000 x166001 x166002 x166003 x166004 x166005) else (none)) else (if (x1.length : Int) = 0 then (if x5.length < 1466015503701 then (rows_without.l0 k x1 (x5 ++ [(⟨(⟨x166000, x166001⟩ : S37), x166002, (⟨x166003, x166004, x166005⟩ : S39)⟩ : S41)]) x8 x9 (wrap64 (x10 + 1))) else (none)) else (if ((!((((rd_T41 x1 0).f0.f0).toList) == x166000.toList) || (!((((rd_T41 x1 0).f0.f1).toList) == x166001.toList))) || (!((((rd_T41 x1 0).f1).toList) == x166002.toList) || ((!((((rd_T41 x1 0).f2.f0).toList) == x166003.toList) || (!((((rd_T41 x1 0).f2.f1).toList) == x166004.toList) || (!((((rd_T41 x1 0).f2.f2).toList) == x166005.toList))))))) = true then (if x5.length < 1466015503701 then (rows_without.l0 k x1 (x5 ++ [(⟨(⟨x166000, x166001⟩ : S37), x166002, (⟨x166003, x166004, x166005⟩ : S39)⟩ : S41)]) x8 x9 (wrap64 (x10 + 1))) else (none)) else (rows_without.l0 k x1 x5 x8 x9 (wrap64 (x10 + 1))))))) else (none)) else (if (x1.length : Int) = 0 then (if x5.length < 1466015503701 then (rows_without.l0 k x1 (x5 ++ [(⟨(⟨x166000, x166001⟩ : S37), x166002, (⟨x166003, x166004, x166005⟩ : S39)⟩ : S41)]) x8 x9 (wrap64 (x10 + 1))) else (none)) else (if 0 < (x1.length : Int) then (if ((!((((rd_T41 x1 0).f0.f0).toList) == x166000.toList) || (!((((rd_T41 x1 0).f0.f1).toList) == x166001.toList))) || (!((((rd_T41 x1 0).f1).toList) == x166002.toList) || ((!((((rd_T41 x1 0).f2.f0).toList) == x166003.toList) || (!((((rd_T41 x1 0).f2.f1).toList) == x166004.toList) || (!((((rd_T41 x1 0).f2.f2).toList) == x166005.toList))))))) = true then (if x5.length < 1466015503701 then (rows_without.l0 k x1 (x5 ++ [(⟨(⟨x166000, x166001⟩ : S37), x166002, (⟨x166003, x166004, x166005⟩ : S39)⟩ : S41)]) x8 x9 (wrap64 (x10 + 1))) else (none)) else (rows_without.l0 k x1 x5 x8 x9 (wrap64 (x10 + 1)))) else (none)))
end
def rows_without.f (k : Nat) (l0 : List (S41)) (l1 : List (S41)) : Option ((List (S41))) := rows_without.l0 k l1 ([] : List (S41)) l0 (l0.length : Int) 0
theorem rows_without.mono_l : ∀ k, (∀ y0 y1 y2 y3 y4, LeO (rows_without.l0 k y0 y1 y2 y3 y4) (rows_without.l0 (k + 1) y0 y1 y2 y3 y4)) ∧ (∀ y0 y1 y2 y3 y4 y5 y6 y7 y8 y9 y10, LeO (rows_without.l1 k y0 y1 y2 y3 y4 y5 y6 y7 y8 y9 y10) (rows_without.l1 (k + 1) y0 y1 y2 y3 y4 y5 y6 y7 y8 y9 y10))
 | 0 => ⟨fun _ _ _ _ _ r h => by simp [rows_without.l0] at h, fun _ _ _ _ _ _ _ _ _ _ _ r h => by simp [rows_without.l1] at h⟩
 | k + 1 => by
  obtain ⟨ih0, ih1⟩ := rows_without.mono_l k
  refine ⟨?_, ?_⟩
  ·intro y0 y1 y2 y3 y4
   unfold rows_without.l0
   repeat' first
   | (with_reducible exact ih0 _ _ _ _ _)
   | (with_reducible exact ih1 _ _ _ _ _ _ _ _ _ _ _)
   | (with_reducible exact LeO.refl _)
   | (with_reducible exact LeO.none _)
   | (with_reducible refine LeO.ite ?_ ?_)
   | (with_reducible refine LeO.bind ?_ (fun _ => ?_))
   | exact ih0 _ _ _ _ _
   | exact ih1 _ _ _ _ _ _ _ _ _ _ _
   | exact LeO.none _
   | refine LeO.ite ?_ ?_
   | refine LeO.bind ?_ (fun _ => ?_)
  ·intro y0 y1 y2 y3 y4 y5 y6 y7 y8 y9 y10
   unfold rows_without.l1
   repeat' first
   | (with_reducible exact ih0 _ _ _ _ _)
   | (with_reducible exact ih1 _ _ _ _ _ _ _ _ _ _ _)
   | (with_reducible exact LeO.refl _)
   | (with_reducible exact LeO.none _)
   | (with_reducible refine LeO.ite ?_ ?_)
   | (with_reducible refine LeO.bind ?_ (fun _ => ?_))
   | exact ih0 _ _ _ _ _
   | exact ih1 _ _ _ _ _ _ _ _ _ _ _
   | exact LeO.none _
   | refine LeO.ite ?_ ?_
   | refine LeO.bind ?_ (fun _ => ?_)
theorem rows_without.mono : ∀ a0 a1 k, LeO (rows_without.f k a0 a1) (rows_without.f (k + 1) a0 a1) := by
 intro a0 a1 k
 obtain ⟨ih0, ih1⟩ := rows_without.mono_l k
 unfold rows_without.f
 repeat' first
   | (with_reducible exact ih0 _ _ _ _ _)
   | (with_reducible exact ih1 _ _ _ _ _ _ _ _ _ _ _)
   | (with_reducible exact LeO.refl _)
   | (with_reducible exact LeO.none _)
   | (with_reducible refine LeO.ite ?_ ?_)
   | (with_reducible refine LeO.bind ?_ (fun _ => ?_))
   | exact ih0 _ _ _ _ _
   | exact ih1 _ _ _ _ _ _ _ _ _ _ _
   | exact LeO.none _
   | refine LeO.ite ?_ ?_
   | refine LeO.bind ?_ (fun _ => ?_)
def rows_without.T5 : Bool × List (List Nat × List Nat) := (true, [([], []), ([0], [0]), ([1], [1]), ([2], [2]), ([3], [3]), ([4, 3], [3, 4]), ([5, 3], [3, 5]), ([3], [3]), ([6, 7, 3, 3], [3, 6, 7]), ([3, 8], [3, 8])])
def rows_without.B5 : List Nat := [0, 1, 3, 7, 15, 31, 63, 15, 255, 511]
theorem rows_without.tab5 : rtab .any (opsOf Try.f41 5) = rows_without.T5 := by kernel_rfl
theorem rows_without.bits5 : waitsOk rows_without.T5.2 rows_without.B5 = true := by kernel_rfl
def rows_without.T7 : Bool × List (List Nat × List Nat) := (true, [([], []), ([0], [0]), ([1], [1]), ([2], [2]), ([3], [3]), ([4, 3], [3, 4]), ([5, 3], [3, 5]), ([3], [3]), ([6, 7, 3], [3, 6, 7]), ([3, 8], [3, 8])])
def rows_without.B7 : List Nat := [0, 1, 3, 7, 15, 31, 63, 15, 255, 511]
theorem rows_without.tab7 : rtab .any (opsOf Try.f41 7) = rows_without.T7 := by kernel_rfl
theorem rows_without.bits7 : waitsOk rows_without.T7.2 rows_without.B7 = true := by kernel_rfl
set_option maxHeartbeats 8000000 in
set_option maxRecDepth 100000 in
theorem rows_without.calls (k : Nat) (A0 : Option Addr) (c0 : Nat) (l0 : List (S41)) (P1_ : Nat → Prop) (A1 : Option Addr) (c1 : Nat) (l1 : List (S41)) (r : List (S41)) (w : World) (hr0 : Kd.C k41 w A0 l0.length l0) (hc0 : l0.length ≤ c0) (hs1 : Kd.V k41 41 w w.heap.size (fun k_ => P1_ k_) (.slice A1 l1.length c1) l1) (h : rows_without.f k l0 l1 = some r) :
  Calls Try.prog 41 #[.slice A0 l0.length c0, .slice A1 l1.length c1] w fun e w' => ∃ v0_ : Value, e = .returned (v0_) ∧ Kd.R k41 41 w' w.heap.size (fun k_ => (w.heap.size ≤ k_)) v0_ r ∧ Below w.heap.size w w' := by
 have hu41 := Try.underlying41
 have HR0 := Aside0.mk hr0
 have HC0 := Aside0.mk hc0
 clear hr0 hc0
 have HO1 := Aside0.mk (show Kd.V k41 41 w w.heap.size (fun k_ => (P1_ k_ ∨ w.heap.size ≤ k_)) (.slice A1 l1.length c1) l1 from Kd.V_mono hs1 (fun k_ hk => .inl hk))
 have HB := Aside0.mk (Below.refl w.heap.size w)
 have H : (rows_without.l0 k l1 ([] : List (S41)) l0 (l0.length : Int) 0) = some r := h
 clear h
 have H' := Aside0.mk H
 clear H
 go_enter Try.func41, Try.ntmps41
 go_wp2
 go_loopg [1, 5, 10] k (fun kq v1 v5 v10 w' => ∃ (x1_1 : List (S41)) (x5_1 : List (S41)) (x10_1 : Int), v10 = .int .i64 x10_1 ∧ Aside0 (rows_without.l0 kq x1_1 x5_1 l0 (l0.length : Int) x10_1 = some r) ∧ Aside0 (kq ≤ k) ∧ Aside0 (Kd.V k41 41 w' w.heap.size (fun k_ => (P1_ k_ ∨ w.heap.size ≤ k_) ∧ some k_ ≠ (v5 : Value).ownBlock) v1 x1_1) ∧ Aside0 (Kd.R k41 41 w' w.heap.size (fun k_ => (w.heap.size ≤ k_)) v5 x5_1) ∧ Aside0 (Below w.heap.size w w'))
 case atStart => exact ⟨(l1), (([] : List (S41))), (0), (by first | rfl | (simp; done) | (simp [*]; done)), H', ⟨Nat.le_refl _⟩, ⟨by (with_reducible repeat (first | apply Kd.V_alloc | apply Kd.V_drewN | apply Kd.V_drew)); exact Kd.V_mono HO1.out (fun _ hk => ⟨hk, (by simp [Value.ownBlock])⟩)⟩, ⟨by first | exact Kd.R_nil _ _ _ _ _ | exact Kd.N_nil _ _ _ _ _ | exact Kd.V_nil _ _ _ _ _ | exact Kd.Q_nil _ _ _ _ _ | exact Kd.S_nil _ _ _ _ _⟩, ⟨by repeat (first | (with_reducible first | exact HB.out | apply below_alloc | apply pw_below_drewN | apply below_drew1) | exact HB.out)⟩⟩
 case round =>
  clear H'
  try clear c1
  try clear p2
  obtain ⟨x1_1, x5_1, x10_1, rfl, HA, HK1, HO_1, HO_5, HB⟩ := hrel
  cases gk with
  | zero => exact absurd HA.out (by simp [rows_without.l0])
  | succ k1 =>
   have H := HA.out
   clear HA
   simp only [rows_without.l0] at H
   by_cases c3 : x10_1 < (l0.length : Int)
   ·rw [if_pos c3] at H
    have c3b0 : decide (x10_1 < (l0.length : Int)) = true := decide_eq_true c3
    clear c3
    by_cases c4 : 0 ≤ x10_1
    ·rw [if_pos c4] at H
     have c4b0 : decide (0 ≤ x10_1) = true := decide_eq_true c4
     clear c4
     by_cases c5 : x10_1 < (l0.length : Int)
     ·rw [if_pos c5] at H
      have c5b0 : decide (x10_1 < (l0.length : Int)) = true := decide_eq_true c5
      clear c5
      have H' := Aside0.mk H
      clear H
      have p164 : 0 ≤ (x10_1 : Int) := of_decide_eq_true (by first | (with_reducible assumption) | assumption)
      have q164 : x10_1 < (l0.length : Int) := of_decide_eq_true (by first | (with_reducible assumption) | assumption)
      obtain ⟨ad164, e164, hx164_0, hx164_1, hx164_2, hx164_3, hx164_4, hx164_5⟩ := at_T41 HR0.out x10_1 p164 q164
      cases e164
      replace hx164_0 := (HB.out.cell (World.block_lt_of_cell? w _ hx164_0)).trans hx164_0
      replace hx164_1 := (HB.out.cell (World.block_lt_of_cell? w _ hx164_1)).trans hx164_1
      replace hx164_2 := (HB.out.cell (World.block_lt_of_cell? w _ hx164_2)).trans hx164_2
      replace hx164_3 := (HB.out.cell (World.block_lt_of_cell? w _ hx164_3)).trans hx164_3
      replace hx164_4 := (HB.out.cell (World.block_lt_of_cell? w _ hx164_4)).trans hx164_4
      replace hx164_5 := (HB.out.cell (World.block_lt_of_cell? w _ hx164_5)).trans hx164_5
      replace p164 := eq_true p164
      replace q164 := eq_true q164
      go_wp2_with (first | ((with_reducible refine gate_dst (N := 7) rfl ?_); refine box_event ?hg (N := 7) ?hd (cs := #[.string (⟨#[]⟩ : ByteArray), .string (⟨#[]⟩ : ByteArray), .string (⟨#[]⟩ : ByteArray), .string (⟨#[]⟩ : ByteArray), .string (⟨#[]⟩ : ByteArray), .string (⟨#[]⟩ : ByteArray)]) (t := 41) ?hr ?_; (case hd => rfl); (case hg => rfl); (case hr => first | (go_simp; done) | (go_simp; rfl)); intro gb165 hg w6 hbox hb; have n0_ := Aside0.mk (Kd.V_below (Kd.V_elderB (by (with_reducible repeat (first | apply Kd.V_alloc | apply Kd.V_drewN | apply Kd.V_drew)); exact HO_1.out) gb165 (Nat.le_of_eq hg.symm)) hb); have n1_ := Aside0.mk (Kd.R_below (Kd.R_elderB (by (with_reducible repeat (first | apply Kd.R_alloc | apply Kd.R_drewN | apply Kd.R_drew)); exact HO_5.out) gb165 (Nat.le_of_eq hg.symm)) hb); have n2_ := Aside0.mk (below_step (by repeat (first | (with_reducible first | exact HB.out | apply below_alloc | apply pw_below_drewN | apply below_drew1) | exact HB.out)) hb); have n3_ := Aside0.mk (hbox); have n4_ := Aside0.mk ((by rw [hg]; exact (below_size (by repeat (first | (with_reducible first | exact HB.out | apply below_alloc | apply pw_below_drewN | apply below_drew1) | exact HB.out))) : w.heap.size ≤ gb165)); have n5_ := Aside0.mk ((by rw [hg]; exact (below_size (by repeat (first | (with_reducible first | exact HB.out | apply below_alloc | apply pw_below_drewN | apply below_drew1) | exact HB.out))) : w.heap.size ≤ gb165)); clear HO_1; clear HO_5; clear HB; have HO_1 := n0_; have HO_5 := n1_; have HB := n2_; have BK165 := n3_; have GW165 := n4_; have GE165 := n5_; clear n0_ n1_ n2_ n3_ n4_ n5_; clear hb hbox hg; have hcz7_0 : w6.cell? ⟨gb165, 0, none⟩ = some (.string (⟨#[]⟩ : ByteArray)) := (blk_cell BK165.out 0).trans rfl; have hcz7_1 : w6.cell? ⟨gb165, 1, none⟩ = some (.string (⟨#[]⟩ : ByteArray)) := (blk_cell BK165.out 1).trans rfl; have hcz7_2 : w6.cell? ⟨gb165, 2, none⟩ = some (.string (⟨#[]⟩ : ByteArray)) := (blk_cell BK165.out 2).trans rfl; have hcz7_3 : w6.cell? ⟨gb165, 3, none⟩ = some (.string (⟨#[]⟩ : ByteArray)) := (blk_cell BK165.out 3).trans rfl; have hcz7_4 : w6.cell? ⟨gb165, 4, none⟩ = some (.string (⟨#[]⟩ : ByteArray)) := (blk_cell BK165.out 4).trans rfl; have hcz7_5 : w6.cell? ⟨gb165, 5, none⟩ = some (.string (⟨#[]⟩ : ByteArray)) := (blk_cell BK165.out 5).trans rfl; have hfz7_0 := blk_frozen BK165.out 0; have hfz7_1 := blk_frozen BK165.out 1; have hfz7_2 := blk_frozen BK165.out 2; have hfz7_3 := blk_frozen BK165.out 3; have hfz7_4 := blk_frozen BK165.out 4; have hfz7_5 := blk_frozen BK165.out 5))
      go_loopg [1] k1 (fun kq v1 w' => ∃ (x1_2 : List (S41)), Aside0 (rows_without.l1 kq x1_2 x5_1 l0 (l0.length : Int) x10_1 ((rd_T41 l0 x10_1).f0.f0) ((rd_T41 l0 x10_1).f0.f1) ((rd_T41 l0 x10_1).f1) ((rd_T41 l0 x10_1).f2.f0) ((rd_T41 l0 x10_1).f2.f1) ((rd_T41 l0 x10_1).f2.f2) = some r) ∧ Aside0 (kq ≤ k1) ∧ Aside0 (Kd.V k41 41 w' w.heap.size (fun k_ => (P1_ k_ ∨ w.heap.size ≤ k_) ∧ some k_ ≠ (u5 : Value).ownBlock ∧ k_ ≠ gb165) v1 x1_2) ∧ Aside0 (Kd.R k41 41 w' w.heap.size (fun k_ => (w.heap.size ≤ k_) ∧ k_ ≠ gb165) u5 x5_1) ∧ Aside0 (w'.heap[gb165]? = some (.cells #[.string ((rd_T41 l0 x10_1).f0.f0), .string ((rd_T41 l0 x10_1).f0.f1), .string ((rd_T41 l0 x10_1).f1), .string ((rd_T41 l0 x10_1).f2.f0), .string ((rd_T41 l0 x10_1).f2.f1), .string ((rd_T41 l0 x10_1).f2.f2)] 41 (0, 0))) ∧ Aside0 (Below w.heap.size w w'))
      case atStart => exact ⟨(x1_1), H', ⟨Nat.le_refl _⟩, ⟨by (with_reducible repeat (first | apply Kd.V_alloc | apply Kd.V_drewN | apply Kd.V_drew)); exact Kd.V_mono (Kd.V_far (p := ⟨gb165, 5, none⟩) (Kd.V_far (p := ⟨gb165, 4, none⟩) (Kd.V_far (p := ⟨gb165, 3, none⟩) (Kd.V_far (p := ⟨gb165, 2, none⟩) (Kd.V_far (p := ⟨gb165, 1, none⟩) (Kd.V_far (p := ⟨gb165, 0, none⟩) (Kd.V_mono HO_1.out (fun k_ hk => (⟨hk, hk.2⟩ : _ ∧ k_ ≠ gb165))) (fun _ hk => hk.2) (.string ((rd_T41 l0 x10_1).f0.f0))) (fun _ hk => hk.2) (.string ((rd_T41 l0 x10_1).f0.f1))) (fun _ hk => hk.2) (.string ((rd_T41 l0 x10_1).f1))) (fun _ hk => hk.2) (.string ((rd_T41 l0 x10_1).f2.f0))) (fun _ hk => hk.2) (.string ((rd_T41 l0 x10_1).f2.f1))) (fun _ hk => hk.2) (.string ((rd_T41 l0 x10_1).f2.f2))) (fun _ hk => ⟨hk.1.1.1, ⟨hk.1.1.2, hk.1.2⟩⟩)⟩, ⟨by (with_reducible repeat (first | apply Kd.R_alloc | apply Kd.R_drewN | apply Kd.R_drew)); exact Kd.R_mono (Kd.R_far (p := ⟨gb165, 5, none⟩) (Kd.R_far (p := ⟨gb165, 4, none⟩) (Kd.R_far (p := ⟨gb165, 3, none⟩) (Kd.R_far (p := ⟨gb165, 2, none⟩) (Kd.R_far (p := ⟨gb165, 1, none⟩) (Kd.R_far (p := ⟨gb165, 0, none⟩) (Kd.R_mono HO_5.out (fun k_ hk => (⟨hk, hk.2⟩ : _ ∧ k_ ≠ gb165))) (fun _ hk => hk.2) (.string ((rd_T41 l0 x10_1).f0.f0))) (fun _ hk => hk.2) (.string ((rd_T41 l0 x10_1).f0.f1))) (fun _ hk => hk.2) (.string ((rd_T41 l0 x10_1).f1))) (fun _ hk => hk.2) (.string ((rd_T41 l0 x10_1).f2.f0))) (fun _ hk => hk.2) (.string ((rd_T41 l0 x10_1).f2.f1))) (fun _ hk => hk.2) (.string ((rd_T41 l0 x10_1).f2.f2))) (fun _ hk => by first | exact ⟨hk.1.1, hk.1.2⟩ | trivial)⟩, ⟨by (with_reducible repeat (first | refine blk_drewN ?_ _ | refine blk_drew ?_ | refine blk_alloc ?_ _)); refine blk_put (cs := #[.string ((rd_T41 l0 x10_1).f0.f0), .string ((rd_T41 l0 x10_1).f0.f1), .string ((rd_T41 l0 x10_1).f1), .string ((rd_T41 l0 x10_1).f2.f0), .string ((rd_T41 l0 x10_1).f2.f1), .string (⟨#[]⟩ : ByteArray)]) ?_ 5 _ rfl; (with_reducible repeat (first | refine blk_drewN ?_ _ | refine blk_drew ?_ | refine blk_alloc ?_ _)); refine blk_put (cs := #[.string ((rd_T41 l0 x10_1).f0.f0), .string ((rd_T41 l0 x10_1).f0.f1), .string ((rd_T41 l0 x10_1).f1), .string ((rd_T41 l0 x10_1).f2.f0), .string (⟨#[]⟩ : ByteArray), .string (⟨#[]⟩ : ByteArray)]) ?_ 4 _ rfl; (with_reducible repeat (first | refine blk_drewN ?_ _ | refine blk_drew ?_ | refine blk_alloc ?_ _)); refine blk_put (cs := #[.string ((rd_T41 l0 x10_1).f0.f0), .string ((rd_T41 l0 x10_1).f0.f1), .string ((rd_T41 l0 x10_1).f1), .string (⟨#[]⟩ : ByteArray), .string (⟨#[]⟩ : ByteArray), .string (⟨#[]⟩ : ByteArray)]) ?_ 3 _ rfl; (with_reducible repeat (first | refine blk_drewN ?_ _ | refine blk_drew ?_ | refine blk_alloc ?_ _)); refine blk_put (cs := #[.string ((rd_T41 l0 x10_1).f0.f0), .string ((rd_T41 l0 x10_1).f0.f1), .string (⟨#[]⟩ : ByteArray), .string (⟨#[]⟩ : ByteArray), .string (⟨#[]⟩ : ByteArray), .string (⟨#[]⟩ : ByteArray)]) ?_ 2 _ rfl; (with_reducible repeat (first | refine blk_drewN ?_ _ | refine blk_drew ?_ | refine blk_alloc ?_ _)); refine blk_put (cs := #[.string ((rd_T41 l0 x10_1).f0.f0), .string (⟨#[]⟩ : ByteArray), .string (⟨#[]⟩ : ByteArray), .string (⟨#[]⟩ : ByteArray), .string (⟨#[]⟩ : ByteArray), .string (⟨#[]⟩ : ByteArray)]) ?_ 1 _ rfl; (with_reducible repeat (first | refine blk_drewN ?_ _ | refine blk_drew ?_ | refine blk_alloc ?_ _)); refine blk_put (cs := #[.string (⟨#[]⟩ : ByteArray), .string (⟨#[]⟩ : ByteArray), .string (⟨#[]⟩ : ByteArray), .string (⟨#[]⟩ : ByteArray), .string (⟨#[]⟩ : ByteArray), .string (⟨#[]⟩ : ByteArray)]) ?_ 0 _ rfl; (with_reducible repeat (first | refine blk_drewN ?_ _ | refine blk_drew ?_ | refine blk_alloc ?_ _)); exact BK165.out⟩, ⟨by repeat (first | (with_reducible first | exact HB.out | apply below_alloc | apply pw_below_drewN | apply below_drew1 | refine below_set ?_ GE165.out) | exact HB.out)⟩⟩
      case round =>
       clear H'
       try clear c1
       try clear p1
       try clear q1
       try clear hx1
       try clear p2
       try clear c3
       try clear c3b0
       try clear c4
       try clear c4b0
       try clear c5
       try clear c5b0
       try clear hcz7_0
       try clear hcz7_1
       try clear hcz7_2
       try clear hcz7_3
       try clear hcz7_4
       try clear hcz7_5
       try clear hfz7_0
       try clear hfz7_1
       try clear hfz7_2
       try clear hfz7_3
       try clear hfz7_4
       try clear hfz7_5
       try clear hx164_0
       try clear hx164_1
       try clear hx164_2
       try clear hx164_3
       try clear hx164_4
       try clear hx164_5
       try clear p164
       try clear p2
       try clear q164
       obtain ⟨x1_2, HA, HK2, HO_1, HO_5, BK165, HB⟩ := hrel
       cases gk with
       | zero => exact absurd HA.out (by simp [rows_without.l1])
       | succ k2 =>
        have H := HA.out
        clear HA
        simp only [rows_without.l1] at H
        by_cases c8 : (x1_2.length : Int) > 0
        ·rw [if_pos c8] at H
         have c8b0 : decide (0 < (x1_2.length : Int)) = true := decide_eq_true c8
         have c8b1 : decide (0 < x1_2.length) = true := decide_eq_true (by omega)
         clear c8
         by_cases c9 : 0 < (x1_2.length : Int)
         ·rw [if_pos c9] at H
          have c9b0 : decide (0 < (x1_2.length : Int)) = true := decide_eq_true c9
          have c9b1 : decide (0 < x1_2.length) = true := decide_eq_true (by omega)
          clear c9
          replace H := Option.bind_eq_some_iff.mp H
          obtain ⟨t167, A100, H⟩ := H
          replace H : (if t167 = true then (if 1 ≤ (x1_2.length : Int) then (rows_without.l1 k2 (x1_2.drop 1) x5_1 l0 (l0.length : Int) x10_1 ((rd_T41 l0 x10_1).f0.f0) ((rd_T41 l0 x10_1).f0.f1) ((rd_T41 l0 x10_1).f1) ((rd_T41 l0 x10_1).f2.f0) ((rd_T41 l0 x10_1).f2.f1) ((rd_T41 l0 x10_1).f2.f2)) else (none)) else (if (x1_2.length : Int) = 0 then (if x5_1.length < 1466015503701 then (rows_without.l0 k2 x1_2 (x5_1 ++ [(⟨(⟨((rd_T41 l0 x10_1).f0.f0), ((rd_T41 l0 x10_1).f0.f1)⟩ : S37), ((rd_T41 l0 x10_1).f1), (⟨((rd_T41 l0 x10_1).f2.f0), ((rd_T41 l0 x10_1).f2.f1), ((rd_T41 l0 x10_1).f2.f2)⟩ : S39)⟩ : S41)]) l0 (l0.length : Int) (wrap64 (x10_1 + 1))) else (none)) else (if ((!((((rd_T41 x1_2 0).f0.f0).toList) == ((rd_T41 l0 x10_1).f0.f0).toList) || (!((((rd_T41 x1_2 0).f0.f1).toList) == ((rd_T41 l0 x10_1).f0.f1).toList))) || (!((((rd_T41 x1_2 0).f1).toList) == ((rd_T41 l0 x10_1).f1).toList) || ((!((((rd_T41 x1_2 0).f2.f0).toList) == ((rd_T41 l0 x10_1).f2.f0).toList) || (!((((rd_T41 x1_2 0).f2.f1).toList) == ((rd_T41 l0 x10_1).f2.f1).toList) || (!((((rd_T41 x1_2 0).f2.f2).toList) == ((rd_T41 l0 x10_1).f2.f2).toList))))))) = true then (if x5_1.length < 1466015503701 then (rows_without.l0 k2 x1_2 (x5_1 ++ [(⟨(⟨((rd_T41 l0 x10_1).f0.f0), ((rd_T41 l0 x10_1).f0.f1)⟩ : S37), ((rd_T41 l0 x10_1).f1), (⟨((rd_T41 l0 x10_1).f2.f0), ((rd_T41 l0 x10_1).f2.f1), ((rd_T41 l0 x10_1).f2.f2)⟩ : S39)⟩ : S41)]) l0 (l0.length : Int) (wrap64 (x10_1 + 1))) else (none)) else (rows_without.l0 k2 x1_2 x5_1 l0 (l0.length : Int) (wrap64 (x10_1 + 1)))))) = some r := H
          have A10 := Aside0.mk A100
          clear A100
          by_cases c11 : t167 = true
          ·subst c11
           have H1 : (if 1 ≤ (x1_2.length : Int) then (rows_without.l1 k2 (x1_2.drop 1) x5_1 l0 (l0.length : Int) x10_1 ((rd_T41 l0 x10_1).f0.f0) ((rd_T41 l0 x10_1).f0.f1) ((rd_T41 l0 x10_1).f1) ((rd_T41 l0 x10_1).f2.f0) ((rd_T41 l0 x10_1).f2.f1) ((rd_T41 l0 x10_1).f2.f2)) else (none)) = some r := by rw [if_pos rfl] at H; exact H
           clear H
           have H := H1
           clear H1
           by_cases c12 : 1 ≤ (x1_2.length : Int)
           ·rw [if_pos c12] at H
            have c12b0 := eq_true c12
            have c12b1 : decide (1 ≤ (x1_2.length : Int)) = true := decide_eq_true c12
            clear c12
            obtain ⟨y168, hy168⟩ : ∃ y_ : List (S41), y_ = (x1_2.drop 1) := ⟨_, rfl⟩
            replace H : (rows_without.l1 k2 y168 x5_1 l0 (l0.length : Int) x10_1 ((rd_T41 l0 x10_1).f0.f0) ((rd_T41 l0 x10_1).f0.f1) ((rd_T41 l0 x10_1).f1) ((rd_T41 l0 x10_1).f2.f0) ((rd_T41 l0 x10_1).f2.f1) ((rd_T41 l0 x10_1).f2.f2)) = some r := by first | (rw [hy168]; with_reducible exact H) | (have H2_ := (Option.bind_some _ _).symm.trans H; rw [hy168]; with_reducible exact H2_) | (have H2_ := (Option.bind_some _ _).symm.trans H; with_reducible exact H2_) | with_reducible exact H | (rw [hy168]; exact H) | exact H
            have Ny168 := Aside0.mk hy168
            clear hy168
            have H' := Aside0.mk H
            clear H
            try go_wp2
            have n0_ := Aside0.mk (Kd.V_drew HO_1.out)
            have n1_ := Aside0.mk (Kd.R_drew HO_5.out)
            have n2_ := Aside0.mk (blk_drew BK165.out)
            have n3_ := Aside0.mk (below_drew1 HB.out)
            clear HO_1
            clear HO_5
            clear BK165
            clear HB
            have HO_1 := n0_
            have HO_5 := n1_
            have BK165 := n2_
            have HB := n3_
            clear n0_ n1_ n2_ n3_
            obtain ⟨Ao14, co14, eo14⟩ := Kd.V_slice HO_1.out
            (first | subst eo14 | (injection eo14 with f1_ f2_ f3_; have f4_ := f1_.symm; have f5_ := f3_.symm; clear f1_ f2_ f3_; subst f4_; subst f5_))
            have p166 : 0 ≤ (0 : Int) := (by omega)
            have q166 : 0 < (x1_2.length : Int) := of_decide_eq_true (by first | (with_reducible assumption) | assumption)
            obtain ⟨ad166, e166, hx166_0, hx166_1, hx166_2, hx166_3, hx166_4, hx166_5⟩ := at_T41 (Kd.V_reads' HO_1.out).2.2 0 p166 q166
            cases e166
            have qi166 : (0 < x1_2.length) = True := eq_true (by omega)
            (try rw [show ((0 : Int)).toNat = 0 from rfl] at hx166_0)
            (try rw [show 0 * 6 = 0 from rfl] at hx166_0)
            (try rw [Addr.add_zero'] at hx166_0)
            (try rw [show ((0 : Int)).toNat = 0 from rfl] at hx166_1)
            (try rw [show 0 * 6 = 0 from rfl] at hx166_1)
            (try rw [Addr.add_zero'] at hx166_1)
            (try rw [show ((0 : Int)).toNat = 0 from rfl] at hx166_2)
            (try rw [show 0 * 6 = 0 from rfl] at hx166_2)
            (try rw [Addr.add_zero'] at hx166_2)
            (try rw [show ((0 : Int)).toNat = 0 from rfl] at hx166_3)
            (try rw [show 0 * 6 = 0 from rfl] at hx166_3)
            (try rw [Addr.add_zero'] at hx166_3)
            (try rw [show ((0 : Int)).toNat = 0 from rfl] at hx166_4)
            (try rw [show 0 * 6 = 0 from rfl] at hx166_4)
            (try rw [Addr.add_zero'] at hx166_4)
            (try rw [show ((0 : Int)).toNat = 0 from rfl] at hx166_5)
            (try rw [show 0 * 6 = 0 from rfl] at hx166_5)
            (try rw [Addr.add_zero'] at hx166_5)
            replace p166 := eq_true p166
            replace q166 := eq_true q166
            refine start_ (n := 10) (S := fun w' => w'.cell? ⟨gb165, 0, none⟩ = some (.string ((rd_T41 l0 x10_1).f0.f0)) ∧ w'.cell? ⟨gb165, 1, none⟩ = some (.string ((rd_T41 l0 x10_1).f0.f1)) ∧ w'.cell? ⟨gb165, 2, none⟩ = some (.string ((rd_T41 l0 x10_1).f1)) ∧ w'.cell? ⟨gb165, 3, none⟩ = some (.string ((rd_T41 l0 x10_1).f2.f0)) ∧ w'.cell? ⟨gb165, 4, none⟩ = some (.string ((rd_T41 l0 x10_1).f2.f1)) ∧ w'.cell? ⟨gb165, 5, none⟩ = some (.string ((rd_T41 l0 x10_1).f2.f2)) ∧ w'.cell? ad166 = some (.string ((rd_T41 x1_2 0).f0.f0)) ∧ w'.cell? ⟨ad166.block, ad166.off + 1, none⟩ = some (.string ((rd_T41 x1_2 0).f0.f1)) ∧ w'.cell? ⟨ad166.block, ad166.off + 2, none⟩ = some (.string ((rd_T41 x1_2 0).f1)) ∧ w'.cell? ⟨ad166.block, ad166.off + 3, none⟩ = some (.string ((rd_T41 x1_2 0).f2.f0)) ∧ w'.cell? ⟨ad166.block, ad166.off + 4, none⟩ = some (.string ((rd_T41 x1_2 0).f2.f1)) ∧ w'.cell? ⟨ad166.block, ad166.off + 5, none⟩ = some (.string ((rd_T41 x1_2 0).f2.f2))) (ds := []) #[F,F,F,F,F,F,F,F,F,F] (by kernel_rfl) rfl rfl ⟨(blk_cell BK165.out 0).trans rfl, (blk_cell BK165.out 1).trans rfl, (blk_cell BK165.out 2).trans rfl, (blk_cell BK165.out 3).trans rfl, (blk_cell BK165.out 4).trans rfl, (blk_cell BK165.out 5).trans rfl, hx166_0, hx166_1, hx166_2, hx166_3, hx166_4, hx166_5⟩ (fun hHeld => ?_); refine with_tabW rows_without.tab5 rows_without.bits5 (fun HT_ HW_ => ?_)
            generalize wr.drew = w13 at HO_1 HO_5 BK165 HB hx166_0 hx166_1 hx166_2 hx166_3 hx166_4 hx166_5 hHeld ⊢
            refine pure_ (i := 0) (N := some 14) (v := ?_) (a' := ?_) #[T,F,F,F,F,F,F,F,F,F] rfl rfl (any_of HT_.out (by kernel_rfl)) (fun _ _ _ h => h) (Or.inl ⟨by rfl, ?_⟩) ?_ ?_
            rotate_left
            ·intro w'
             go_simp
             with_reducible rfl
            rotate_left
            ·simp only [Act.put, sa_, sz_, ss_, i64_w, i32_w]
             rfl
            refine pure_ (i := 1) (N := some 15) (v := ?_) (a' := ?_) #[T,T,F,F,F,F,F,F,F,F] rfl rfl (any_of HT_.out (by kernel_rfl)) (fun _ _ _ h => h) (Or.inl ⟨by rfl, ?_⟩) ?_ ?_
            rotate_left
            ·intro w'
             go_simp
             with_reducible rfl
            rotate_left
            ·simp only [Act.put, sa_, sz_, ss_, i64_w, i32_w]
             rfl
            refine pure_ (i := 2) (N := some 16) (v := ?_) (a' := ?_) #[T,T,T,F,F,F,F,F,F,F] rfl rfl (any_of HT_.out (by kernel_rfl)) (fun _ _ _ h => h) (Or.inl ⟨by rfl, ?_⟩) ?_ ?_
            rotate_left
            ·intro w'
             go_simp
             with_reducible rfl
            rotate_left
            ·simp only [Act.put, sa_, sz_, ss_, i64_w, i32_w]
             rfl
            refine pure_ (i := 3) (N := some 17) (v := ?_) (a' := ?_) #[T,T,T,T,F,F,F,F,F,F] rfl rfl (any_of HT_.out (by kernel_rfl)) (fun _ _ _ h => h) (Or.inl ⟨by rfl, ?_⟩) ?_ ?_
            rotate_left
            ·intro w'
             go_simp
             with_reducible rfl
            rotate_left
            ·simp only [Act.put, sa_, sz_, ss_, i64_w, i32_w]
             rfl
            refine pure_ (i := 4) (N := some 18) (v := ?_) (a' := ?_) #[T,T,T,T,T,F,F,F,F,F] rfl rfl (any_of HT_.out (by kernel_rfl)) (fun _ _ _ h => h) (Or.inl ⟨by rfl, ?_⟩) ?_ ?_
            rotate_left
            ·intro w'
             go_simp
             with_reducible rfl
            rotate_left
            ·simp only [Act.put, sa_, sz_, ss_, i64_w, i32_w]
             rfl
            refine pure_ (i := 5) (N := some 19) (v := ?_) (a' := ?_) #[T,T,T,T,T,T,F,F,F,F] rfl rfl (any_of HT_.out (by kernel_rfl)) (fun _ _ _ h => h) (Or.inl ⟨by rfl, ?_⟩) ?_ ?_
            rotate_left
            ·intro w'
             go_simp
             with_reducible rfl
            rotate_left
            ·simp only [Act.put, sa_, sz_, ss_, i64_w, i32_w]
             rfl
            refine take_ (i := 6) (N := some 20) (v := ?_) (a' := ?_) #[T,T,T,T,T,T,T,F,F,F] rfl rfl (take_ofW HT_.out HW_.out (by kernel_rfl)) (fun _ _ _ h => h) (Or.inl ⟨by rfl, ?_⟩) hHeld ?_ ?_
            rotate_left
            ·rintro w' ⟨s0, s1, s2, s3, s4, s5, s6, s7, s8, s9, s10, s11⟩
             go_simp
             with_reducible rfl
            rotate_left
            ·simp only [Act.put, sa_, sz_, ss_, i64_w, i32_w]
             rfl
            refine take_ (i := 7) (N := some 21) (v := ?_) (a' := ?_) #[T,T,T,T,T,T,T,T,F,F] rfl rfl (take_ofW HT_.out HW_.out (by kernel_rfl)) (fun _ _ _ h => h) (Or.inl ⟨by rfl, ?_⟩) hHeld ?_ ?_
            rotate_left
            ·rintro w' ⟨s0, s1, s2, s3, s4, s5, s6, s7, s8, s9, s10, s11⟩
             go_simp
             with_reducible rfl
            rotate_left
            ·simp only [Act.put, sa_, sz_, ss_, i64_w, i32_w]
             rfl
            refine one_ (i := 8) (N := some 22) #[T,T,T,T,T,T,T,T,T,F] rfl rfl (one_of HT_.out (by kernel_rfl)) (by decide) (fun K hK => ?_)
            refine goes_ Try.func43 (by kernel_rfl) rfl #[.agg #[.string ((rd_T41 x1_2 0).f0.f0), .string ((rd_T41 x1_2 0).f0.f1), .string ((rd_T41 x1_2 0).f1), .string ((rd_T41 x1_2 0).f2.f0), .string ((rd_T41 x1_2 0).f2.f1), .string ((rd_T41 x1_2 0).f2.f2)], .agg #[.string ((rd_T41 l0 x10_1).f0.f0), .string ((rd_T41 l0 x10_1).f0.f1), .string ((rd_T41 l0 x10_1).f1), .string ((rd_T41 l0 x10_1).f2.f0), .string ((rd_T41 l0 x10_1).f2.f1), .string ((rd_T41 l0 x10_1).f2.f2)]] (by rfl) rfl rfl (by (try simp only [List.map_toArray, List.map_cons, List.map_nil]); first | done | rfl | (simp only [List.length_drop, List.length_take]; rfl)) ?_
            with_reducible refine (tupl_Less.calls ((rd_T41 x1_2 0).f0.f0) ((rd_T41 x1_2 0).f0.f1) ((rd_T41 x1_2 0).f1) ((rd_T41 x1_2 0).f2.f0) ((rd_T41 x1_2 0).f2.f1) ((rd_T41 x1_2 0).f2.f2) ((rd_T41 l0 x10_1).f0.f0) ((rd_T41 l0 x10_1).f0.f1) ((rd_T41 l0 x10_1).f1) ((rd_T41 l0 x10_1).f2.f0) ((rd_T41 l0 x10_1).f2.f1) ((rd_T41 l0 x10_1).f2.f2) true _ A10.out).mono ?_
            rintro e w15 ⟨rfl, hb⟩
            have HS6_ := (hb.cell (World.block_lt_of_cell? _ _ (hHeld.2.2.2.2.2.2.1))).trans (hHeld.2.2.2.2.2.2.1)
            have HS7_ := (hb.cell (World.block_lt_of_cell? _ _ (hHeld.2.2.2.2.2.2.2.1))).trans (hHeld.2.2.2.2.2.2.2.1)
            have HS8_ := (hb.cell (World.block_lt_of_cell? _ _ (hHeld.2.2.2.2.2.2.2.2.1))).trans (hHeld.2.2.2.2.2.2.2.2.1)
            have HS9_ := (hb.cell (World.block_lt_of_cell? _ _ (hHeld.2.2.2.2.2.2.2.2.2.1))).trans (hHeld.2.2.2.2.2.2.2.2.2.1)
            have HS10_ := (hb.cell (World.block_lt_of_cell? _ _ (hHeld.2.2.2.2.2.2.2.2.2.2.1))).trans (hHeld.2.2.2.2.2.2.2.2.2.2.1)
            have HS11_ := (hb.cell (World.block_lt_of_cell? _ _ (hHeld.2.2.2.2.2.2.2.2.2.2.2))).trans (hHeld.2.2.2.2.2.2.2.2.2.2.2)
            refine ⟨_, rfl, ?_⟩
            have n0_ := Aside0.mk (Kd.V_below (by (with_reducible repeat (first | apply Kd.V_alloc | apply Kd.V_drewN | apply Kd.V_drew)); exact HO_1.out) hb)
            have n1_ := Aside0.mk (Kd.R_below (by (with_reducible repeat (first | apply Kd.R_alloc | apply Kd.R_drewN | apply Kd.R_drew)); exact HO_5.out) hb)
            have n2_ := Aside0.mk (blk_below (g := gb165) (o := .cells #[.string ((rd_T41 l0 x10_1).f0.f0), .string ((rd_T41 l0 x10_1).f0.f1), .string ((rd_T41 l0 x10_1).f1), .string ((rd_T41 l0 x10_1).f2.f0), .string ((rd_T41 l0 x10_1).f2.f1), .string ((rd_T41 l0 x10_1).f2.f2)] 41 (0, 0)) (by (with_reducible repeat (first | refine blk_drewN ?_ _ | refine blk_drew ?_ | refine blk_alloc ?_ _)); exact BK165.out) hb)
            have n3_ := Aside0.mk (below_step (by repeat (first | (with_reducible first | exact HB.out | apply below_alloc | apply pw_below_drewN | apply below_drew1 | refine below_set ?_ GE165.out) | exact HB.out)) hb)
            clear HO_1
            clear HO_5
            clear BK165
            clear HB
            have HO_1 := n0_
            have HO_5 := n1_
            have BK165 := n2_
            have HB := n3_
            clear n0_ n1_ n2_ n3_
            (try clear hb)
            (try clear hb2)
            (try clear hk)
            (try clear hi)
            refine hK.out _ _ ⟨(blk_cell BK165.out 0).trans rfl, (blk_cell BK165.out 1).trans rfl, (blk_cell BK165.out 2).trans rfl, (blk_cell BK165.out 3).trans rfl, (blk_cell BK165.out 4).trans rfl, (blk_cell BK165.out 5).trans rfl, HS6_, HS7_, HS8_, HS9_, HS10_, HS11_⟩ (fun hHeld => ?_)
            clear hK K
            refine norm_ (a' := ?_) ?_ ?_
            rotate_left
            ·show Act.put _ (some 22) _ = _
             simp only [Act.put, sa_, sz_, ss_, i64_w, i32_w]
             rfl
            refine pure_ (i := 9) (N := some 23) (v := ?_) (a' := ?_) #[T,T,T,T,T,T,T,T,T,T] rfl rfl (any_of HT_.out (by kernel_rfl)) (fun _ _ _ h => h) (Or.inl ⟨by rfl, ?_⟩) ?_ ?_
            rotate_left
            ·intro w'
             go_simp
             with_reducible rfl
            rotate_left
            ·simp only [Act.put, sa_, sz_, ss_, i64_w, i32_w]
             rfl
            refine done_ (done_of HT_.out (by kernel_rfl)) ?_
            have q16 : (1 : Int) ≤ ((x1_2.length : Int) : Int) := of_decide_eq_true (by first | (with_reducible assumption) | assumption)
            obtain ⟨i016, hi016, _, hsz16, _⟩ := info_parts info41
            have hroom16 : x1_2.length ≤ co14 := (Kd.V_reads' HO_1.out).2.1
            have hC16 : Kd.F k41 _ _ (some ad166) x1_2.length x1_2 := (Kd.V_at (base := w.heap.size) HO_1.out).2.2
            have hcut16 := cut_from (P := Try.prog) 23 41 .i64 Try.underlying23 hi016 6 hsz16 (some ad166) x1_2.length co14 1 (by omega) q16
            have hr16 := Kd.F_cut (m := (1 : Int).toNat) (c := co14) hC16 (by omega) hroom16
            obtain ⟨A16, hA16⟩ : ∃ A1, A1 = (if co14 = (1 : Int).toNat then (some ad166) else ((some ad166) : Option Addr).map (·.add ((1 : Int).toNat * 6))) := ⟨_, rfl⟩
            obtain ⟨c16, hc16⟩ : ∃ c1, c1 = co14 - (1 : Int).toNat := ⟨_, rfl⟩
            have hy16 : y168.length = x1_2.length - (1 : Int).toNat := (by rw [Ny168.out, List.length_drop] <;> omega)
            rw [show (x1_2).drop (1 : Int).toNat = y168 from Ny168.out.symm] at hr16
            replace hr16 : Kd.F k41 _ _ A16 y168.length y168 := (by rw [hA16]; exact hr16)
            rw [← hy16, ← hA16, ← hc16] at hcut16
            have HO172 := Aside0.mk (show Kd.V k41 41 _ w.heap.size _ (.slice A16 y168.length c16) y168 from Kd.V_mk (by rw [hy16, hc16]; exact Nat.sub_le_sub_right hroom16 _) hr16)
            have HC172 := Aside0.mk (show y168.length ≤ c16 from by rw [hy16, hc16]; exact Nat.sub_le_sub_right hroom16 _)
            clear hr16 hC16 hroom16 hi016 hsz16 hc16
            have KY16 := Aside0.mk hy16
            have KA16 := Aside0.mk hA16
            clear hy16 hA16
            replace q16 := eq_true q16
            try go_wp2
            go_roundg k2
            case measure => have := HK1.out; have := HK2.out; omega
            case rel => exact ⟨(y168), H', ⟨by have := HK1.out; have := HK2.out; omega⟩, ⟨by (with_reducible repeat (first | apply Kd.V_alloc | apply Kd.V_drewN | apply Kd.V_drew)); exact HO172.out⟩, ⟨by (with_reducible repeat (first | apply Kd.R_alloc | apply Kd.R_drewN | apply Kd.R_drew)); exact HO_5.out⟩, ⟨by (with_reducible repeat (first | refine blk_drewN ?_ _ | refine blk_drew ?_ | refine blk_alloc ?_ _)); exact BK165.out⟩, ⟨by repeat (first | (with_reducible first | exact HB.out | apply below_alloc | apply pw_below_drewN | apply below_drew1 | refine below_set ?_ GE165.out) | exact HB.out)⟩⟩
           ·rw [if_neg c12] at H
            exact absurd H (by simp)
          ·replace c11 := Bool.eq_false_iff.mpr c11
           subst c11
           have H1 : (if (x1_2.length : Int) = 0 then (if x5_1.length < 1466015503701 then (rows_without.l0 k2 x1_2 (x5_1 ++ [(⟨(⟨((rd_T41 l0 x10_1).f0.f0), ((rd_T41 l0 x10_1).f0.f1)⟩ : S37), ((rd_T41 l0 x10_1).f1), (⟨((rd_T41 l0 x10_1).f2.f0), ((rd_T41 l0 x10_1).f2.f1), ((rd_T41 l0 x10_1).f2.f2)⟩ : S39)⟩ : S41)]) l0 (l0.length : Int) (wrap64 (x10_1 + 1))) else (none)) else (if ((!((((rd_T41 x1_2 0).f0.f0).toList) == ((rd_T41 l0 x10_1).f0.f0).toList) || (!((((rd_T41 x1_2 0).f0.f1).toList) == ((rd_T41 l0 x10_1).f0.f1).toList))) || (!((((rd_T41 x1_2 0).f1).toList) == ((rd_T41 l0 x10_1).f1).toList) || ((!((((rd_T41 x1_2 0).f2.f0).toList) == ((rd_T41 l0 x10_1).f2.f0).toList) || (!((((rd_T41 x1_2 0).f2.f1).toList) == ((rd_T41 l0 x10_1).f2.f1).toList) || (!((((rd_T41 x1_2 0).f2.f2).toList) == ((rd_T41 l0 x10_1).f2.f2).toList))))))) = true then (if x5_1.length < 1466015503701 then (rows_without.l0 k2 x1_2 (x5_1 ++ [(⟨(⟨((rd_T41 l0 x10_1).f0.f0), ((rd_T41 l0 x10_1).f0.f1)⟩ : S37), ((rd_T41 l0 x10_1).f1), (⟨((rd_T41 l0 x10_1).f2.f0), ((rd_T41 l0 x10_1).f2.f1), ((rd_T41 l0 x10_1).f2.f2)⟩ : S39)⟩ : S41)]) l0 (l0.length : Int) (wrap64 (x10_1 + 1))) else (none)) else (rows_without.l0 k2 x1_2 x5_1 l0 (l0.length : Int) (wrap64 (x10_1 + 1))))) = some r := by rw [if_neg (show ¬ (false = true) by decide)] at H; exact H
           clear H
           have H := H1
           clear H1
           by_cases c17 : (x1_2.length : Int) = 0
           ·rw [if_pos c17] at H
            have c17b0 : ((x1_2.length : Int) == 0) = true := beq_iff_eq.mpr c17
            have c17b1 : ((x1_2.length : Int) != 0) = false := bne_eq_false_iff_eq.mpr c17
            clear c17
            by_cases c18 : x5_1.length < 1466015503701
            ·rw [if_pos c18] at H
             have LMc18 := Aside0.mk c18
             clear c18
             obtain ⟨y173, hy173⟩ : ∃ y_ : List (S41), y_ = (x5_1 ++ [(⟨(⟨((rd_T41 l0 x10_1).f0.f0), ((rd_T41 l0 x10_1).f0.f1)⟩ : S37), ((rd_T41 l0 x10_1).f1), (⟨((rd_T41 l0 x10_1).f2.f0), ((rd_T41 l0 x10_1).f2.f1), ((rd_T41 l0 x10_1).f2.f2)⟩ : S39)⟩ : S41)]) := ⟨_, rfl⟩
             replace H : (rows_without.l0 k2 x1_2 y173 l0 (l0.length : Int) (wrap64 (x10_1 + 1))) = some r := by first | (rw [hy173]; with_reducible exact H) | (have H2_ := (Option.bind_some _ _).symm.trans H; rw [hy173]; with_reducible exact H2_) | (have H2_ := (Option.bind_some _ _).symm.trans H; with_reducible exact H2_) | with_reducible exact H | (rw [hy173]; exact H) | exact H
             have Ny173 := Aside0.mk hy173
             clear hy173
             have H' := Aside0.mk H
             clear H
             try go_wp2
             have n0_ := Aside0.mk (Kd.V_drew HO_1.out)
             have n1_ := Aside0.mk (Kd.R_drew HO_5.out)
             have n2_ := Aside0.mk (blk_drew BK165.out)
             have n3_ := Aside0.mk (below_drew1 HB.out)
             clear HO_1
             clear HO_5
             clear BK165
             clear HB
             have HO_1 := n0_
             have HO_5 := n1_
             have BK165 := n2_
             have HB := n3_
             clear n0_ n1_ n2_ n3_
             obtain ⟨Ao20, co20, eo20⟩ := Kd.V_slice HO_1.out
             (first | subst eo20 | (injection eo20 with f1_ f2_ f3_; have f4_ := f1_.symm; have f5_ := f3_.symm; clear f1_ f2_ f3_; subst f4_; subst f5_))
             have p166 : 0 ≤ (0 : Int) := (by omega)
             have q166 : 0 < (x1_2.length : Int) := of_decide_eq_true (by first | (with_reducible assumption) | assumption)
             obtain ⟨ad166, e166, hx166_0, hx166_1, hx166_2, hx166_3, hx166_4, hx166_5⟩ := at_T41 (Kd.V_reads' HO_1.out).2.2 0 p166 q166
             cases e166
             have qi166 : (0 < x1_2.length) = True := eq_true (by omega)
             (try rw [show ((0 : Int)).toNat = 0 from rfl] at hx166_0)
             (try rw [show 0 * 6 = 0 from rfl] at hx166_0)
             (try rw [Addr.add_zero'] at hx166_0)
             (try rw [show ((0 : Int)).toNat = 0 from rfl] at hx166_1)
             (try rw [show 0 * 6 = 0 from rfl] at hx166_1)
             (try rw [Addr.add_zero'] at hx166_1)
             (try rw [show ((0 : Int)).toNat = 0 from rfl] at hx166_2)
             (try rw [show 0 * 6 = 0 from rfl] at hx166_2)
             (try rw [Addr.add_zero'] at hx166_2)
             (try rw [show ((0 : Int)).toNat = 0 from rfl] at hx166_3)
             (try rw [show 0 * 6 = 0 from rfl] at hx166_3)
             (try rw [Addr.add_zero'] at hx166_3)
             (try rw [show ((0 : Int)).toNat = 0 from rfl] at hx166_4)
             (try rw [show 0 * 6 = 0 from rfl] at hx166_4)
             (try rw [Addr.add_zero'] at hx166_4)
             (try rw [show ((0 : Int)).toNat = 0 from rfl] at hx166_5)
             (try rw [show 0 * 6 = 0 from rfl] at hx166_5)
             (try rw [Addr.add_zero'] at hx166_5)
             replace p166 := eq_true p166
             replace q166 := eq_true q166
             refine start_ (n := 10) (S := fun w' => w'.cell? ⟨gb165, 0, none⟩ = some (.string ((rd_T41 l0 x10_1).f0.f0)) ∧ w'.cell? ⟨gb165, 1, none⟩ = some (.string ((rd_T41 l0 x10_1).f0.f1)) ∧ w'.cell? ⟨gb165, 2, none⟩ = some (.string ((rd_T41 l0 x10_1).f1)) ∧ w'.cell? ⟨gb165, 3, none⟩ = some (.string ((rd_T41 l0 x10_1).f2.f0)) ∧ w'.cell? ⟨gb165, 4, none⟩ = some (.string ((rd_T41 l0 x10_1).f2.f1)) ∧ w'.cell? ⟨gb165, 5, none⟩ = some (.string ((rd_T41 l0 x10_1).f2.f2)) ∧ w'.cell? ad166 = some (.string ((rd_T41 x1_2 0).f0.f0)) ∧ w'.cell? ⟨ad166.block, ad166.off + 1, none⟩ = some (.string ((rd_T41 x1_2 0).f0.f1)) ∧ w'.cell? ⟨ad166.block, ad166.off + 2, none⟩ = some (.string ((rd_T41 x1_2 0).f1)) ∧ w'.cell? ⟨ad166.block, ad166.off + 3, none⟩ = some (.string ((rd_T41 x1_2 0).f2.f0)) ∧ w'.cell? ⟨ad166.block, ad166.off + 4, none⟩ = some (.string ((rd_T41 x1_2 0).f2.f1)) ∧ w'.cell? ⟨ad166.block, ad166.off + 5, none⟩ = some (.string ((rd_T41 x1_2 0).f2.f2))) (ds := []) #[F,F,F,F,F,F,F,F,F,F] (by kernel_rfl) rfl rfl ⟨(blk_cell BK165.out 0).trans rfl, (blk_cell BK165.out 1).trans rfl, (blk_cell BK165.out 2).trans rfl, (blk_cell BK165.out 3).trans rfl, (blk_cell BK165.out 4).trans rfl, (blk_cell BK165.out 5).trans rfl, hx166_0, hx166_1, hx166_2, hx166_3, hx166_4, hx166_5⟩ (fun hHeld => ?_); refine with_tabW rows_without.tab5 rows_without.bits5 (fun HT_ HW_ => ?_)
             generalize wr.drew = w19 at HO_1 HO_5 BK165 HB hx166_0 hx166_1 hx166_2 hx166_3 hx166_4 hx166_5 hHeld ⊢
             refine pure_ (i := 0) (N := some 14) (v := ?_) (a' := ?_) #[T,F,F,F,F,F,F,F,F,F] rfl rfl (any_of HT_.out (by kernel_rfl)) (fun _ _ _ h => h) (Or.inl ⟨by rfl, ?_⟩) ?_ ?_
             rotate_left
             ·intro w'
              go_simp
              with_reducible rfl
             rotate_left
             ·simp only [Act.put, sa_, sz_, ss_, i64_w, i32_w]
              rfl
             refine pure_ (i := 1) (N := some 15) (v := ?_) (a' := ?_) #[T,T,F,F,F,F,F,F,F,F] rfl rfl (any_of HT_.out (by kernel_rfl)) (fun _ _ _ h => h) (Or.inl ⟨by rfl, ?_⟩) ?_ ?_
             rotate_left
             ·intro w'
              go_simp
              with_reducible rfl
             rotate_left
             ·simp only [Act.put, sa_, sz_, ss_, i64_w, i32_w]
              rfl
             refine pure_ (i := 2) (N := some 16) (v := ?_) (a' := ?_) #[T,T,T,F,F,F,F,F,F,F] rfl rfl (any_of HT_.out (by kernel_rfl)) (fun _ _ _ h => h) (Or.inl ⟨by rfl, ?_⟩) ?_ ?_
             rotate_left
             ·intro w'
              go_simp
              with_reducible rfl
             rotate_left
             ·simp only [Act.put, sa_, sz_, ss_, i64_w, i32_w]
              rfl
             refine pure_ (i := 3) (N := some 17) (v := ?_) (a' := ?_) #[T,T,T,T,F,F,F,F,F,F] rfl rfl (any_of HT_.out (by kernel_rfl)) (fun _ _ _ h => h) (Or.inl ⟨by rfl, ?_⟩) ?_ ?_
             rotate_left
             ·intro w'
              go_simp
              with_reducible rfl
             rotate_left
             ·simp only [Act.put, sa_, sz_, ss_, i64_w, i32_w]
              rfl
             refine pure_ (i := 4) (N := some 18) (v := ?_) (a' := ?_) #[T,T,T,T,T,F,F,F,F,F] rfl rfl (any_of HT_.out (by kernel_rfl)) (fun _ _ _ h => h) (Or.inl ⟨by rfl, ?_⟩) ?_ ?_
             rotate_left
             ·intro w'
              go_simp
              with_reducible rfl
             rotate_left
             ·simp only [Act.put, sa_, sz_, ss_, i64_w, i32_w]
              rfl
             refine pure_ (i := 5) (N := some 19) (v := ?_) (a' := ?_) #[T,T,T,T,T,T,F,F,F,F] rfl rfl (any_of HT_.out (by kernel_rfl)) (fun _ _ _ h => h) (Or.inl ⟨by rfl, ?_⟩) ?_ ?_
             rotate_left
             ·intro w'
              go_simp
              with_reducible rfl
             rotate_left
             ·simp only [Act.put, sa_, sz_, ss_, i64_w, i32_w]
              rfl
             refine take_ (i := 6) (N := some 20) (v := ?_) (a' := ?_) #[T,T,T,T,T,T,T,F,F,F] rfl rfl (take_ofW HT_.out HW_.out (by kernel_rfl)) (fun _ _ _ h => h) (Or.inl ⟨by rfl, ?_⟩) hHeld ?_ ?_
             rotate_left
             ·rintro w' ⟨s0, s1, s2, s3, s4, s5, s6, s7, s8, s9, s10, s11⟩
              go_simp
              with_reducible rfl
             rotate_left
             ·simp only [Act.put, sa_, sz_, ss_, i64_w, i32_w]
              rfl
             refine take_ (i := 7) (N := some 21) (v := ?_) (a' := ?_) #[T,T,T,T,T,T,T,T,F,F] rfl rfl (take_ofW HT_.out HW_.out (by kernel_rfl)) (fun _ _ _ h => h) (Or.inl ⟨by rfl, ?_⟩) hHeld ?_ ?_
             rotate_left
             ·rintro w' ⟨s0, s1, s2, s3, s4, s5, s6, s7, s8, s9, s10, s11⟩
              go_simp
              with_reducible rfl
             rotate_left
             ·simp only [Act.put, sa_, sz_, ss_, i64_w, i32_w]
              rfl
             refine one_ (i := 8) (N := some 22) #[T,T,T,T,T,T,T,T,T,F] rfl rfl (one_of HT_.out (by kernel_rfl)) (by decide) (fun K hK => ?_)
             refine goes_ Try.func43 (by kernel_rfl) rfl #[.agg #[.string ((rd_T41 x1_2 0).f0.f0), .string ((rd_T41 x1_2 0).f0.f1), .string ((rd_T41 x1_2 0).f1), .string ((rd_T41 x1_2 0).f2.f0), .string ((rd_T41 x1_2 0).f2.f1), .string ((rd_T41 x1_2 0).f2.f2)], .agg #[.string ((rd_T41 l0 x10_1).f0.f0), .string ((rd_T41 l0 x10_1).f0.f1), .string ((rd_T41 l0 x10_1).f1), .string ((rd_T41 l0 x10_1).f2.f0), .string ((rd_T41 l0 x10_1).f2.f1), .string ((rd_T41 l0 x10_1).f2.f2)]] (by rfl) rfl rfl (by (try simp only [List.map_toArray, List.map_cons, List.map_nil]); first | done | rfl | (simp only [List.length_drop, List.length_take]; rfl)) ?_
             with_reducible refine (tupl_Less.calls ((rd_T41 x1_2 0).f0.f0) ((rd_T41 x1_2 0).f0.f1) ((rd_T41 x1_2 0).f1) ((rd_T41 x1_2 0).f2.f0) ((rd_T41 x1_2 0).f2.f1) ((rd_T41 x1_2 0).f2.f2) ((rd_T41 l0 x10_1).f0.f0) ((rd_T41 l0 x10_1).f0.f1) ((rd_T41 l0 x10_1).f1) ((rd_T41 l0 x10_1).f2.f0) ((rd_T41 l0 x10_1).f2.f1) ((rd_T41 l0 x10_1).f2.f2) false _ A10.out).mono ?_
             rintro e w21 ⟨rfl, hb⟩
             have HS6_ := (hb.cell (World.block_lt_of_cell? _ _ (hHeld.2.2.2.2.2.2.1))).trans (hHeld.2.2.2.2.2.2.1)
             have HS7_ := (hb.cell (World.block_lt_of_cell? _ _ (hHeld.2.2.2.2.2.2.2.1))).trans (hHeld.2.2.2.2.2.2.2.1)
             have HS8_ := (hb.cell (World.block_lt_of_cell? _ _ (hHeld.2.2.2.2.2.2.2.2.1))).trans (hHeld.2.2.2.2.2.2.2.2.1)
             have HS9_ := (hb.cell (World.block_lt_of_cell? _ _ (hHeld.2.2.2.2.2.2.2.2.2.1))).trans (hHeld.2.2.2.2.2.2.2.2.2.1)
             have HS10_ := (hb.cell (World.block_lt_of_cell? _ _ (hHeld.2.2.2.2.2.2.2.2.2.2.1))).trans (hHeld.2.2.2.2.2.2.2.2.2.2.1)
             have HS11_ := (hb.cell (World.block_lt_of_cell? _ _ (hHeld.2.2.2.2.2.2.2.2.2.2.2))).trans (hHeld.2.2.2.2.2.2.2.2.2.2.2)
             refine ⟨_, rfl, ?_⟩
             have n0_ := Aside0.mk (Kd.V_below (by (with_reducible repeat (first | apply Kd.V_alloc | apply Kd.V_drewN | apply Kd.V_drew)); exact HO_1.out) hb)
             have n1_ := Aside0.mk (Kd.R_below (by (with_reducible repeat (first | apply Kd.R_alloc | apply Kd.R_drewN | apply Kd.R_drew)); exact HO_5.out) hb)
             have n2_ := Aside0.mk (blk_below (g := gb165) (o := .cells #[.string ((rd_T41 l0 x10_1).f0.f0), .string ((rd_T41 l0 x10_1).f0.f1), .string ((rd_T41 l0 x10_1).f1), .string ((rd_T41 l0 x10_1).f2.f0), .string ((rd_T41 l0 x10_1).f2.f1), .string ((rd_T41 l0 x10_1).f2.f2)] 41 (0, 0)) (by (with_reducible repeat (first | refine blk_drewN ?_ _ | refine blk_drew ?_ | refine blk_alloc ?_ _)); exact BK165.out) hb)
             have n3_ := Aside0.mk (below_step (by repeat (first | (with_reducible first | exact HB.out | apply below_alloc | apply pw_below_drewN | apply below_drew1 | refine below_set ?_ GE165.out) | exact HB.out)) hb)
             clear HO_1
             clear HO_5
             clear BK165
             clear HB
             have HO_1 := n0_
             have HO_5 := n1_
             have BK165 := n2_
             have HB := n3_
             clear n0_ n1_ n2_ n3_
             (try clear hb)
             (try clear hb2)
             (try clear hk)
             (try clear hi)
             refine hK.out _ _ ⟨(blk_cell BK165.out 0).trans rfl, (blk_cell BK165.out 1).trans rfl, (blk_cell BK165.out 2).trans rfl, (blk_cell BK165.out 3).trans rfl, (blk_cell BK165.out 4).trans rfl, (blk_cell BK165.out 5).trans rfl, HS6_, HS7_, HS8_, HS9_, HS10_, HS11_⟩ (fun hHeld => ?_)
             clear hK K
             refine norm_ (a' := ?_) ?_ ?_
             rotate_left
             ·show Act.put _ (some 22) _ = _
              simp only [Act.put, sa_, sz_, ss_, i64_w, i32_w]
              rfl
             refine pure_ (i := 9) (N := some 23) (v := ?_) (a' := ?_) #[T,T,T,T,T,T,T,T,T,T] rfl rfl (any_of HT_.out (by kernel_rfl)) (fun _ _ _ h => h) (Or.inl ⟨by rfl, ?_⟩) ?_ ?_
             rotate_left
             ·intro w'
              go_simp
              with_reducible rfl
             rotate_left
             ·simp only [Act.put, sa_, sz_, ss_, i64_w, i32_w]
              rfl
             refine done_ (done_of HT_.out (by kernel_rfl)) ?_
             try go_wp2
             have n0_ := Aside0.mk (Kd.V_drew HO_1.out)
             have n1_ := Aside0.mk (Kd.R_drew HO_5.out)
             have n2_ := Aside0.mk (blk_drew BK165.out)
             have n3_ := Aside0.mk (below_drew1 HB.out)
             clear HO_1
             clear HO_5
             clear BK165
             clear HB
             have HO_1 := n0_
             have HO_5 := n1_
             have BK165 := n2_
             have HB := n3_
             clear n0_ n1_ n2_ n3_
             refine start_ (n := 10) (S := fun w' => True) (ds := []) #[F,F,F,F,F,F,F,F,F,F] (by kernel_rfl) rfl rfl trivial (fun hHeld => ?_); refine with_tabW rows_without.tab7 rows_without.bits7 (fun HT_ HW_ => ?_)
             generalize w21.drew = w22 at HO_1 HO_5 BK165 HB hHeld ⊢
             refine pure_ (i := 0) (N := some 26) (v := ?_) (a' := ?_) #[T,F,F,F,F,F,F,F,F,F] rfl rfl (any_of HT_.out (by kernel_rfl)) (fun _ _ _ h => h) (Or.inl ⟨by rfl, ?_⟩) ?_ ?_
             rotate_left
             ·intro w'
              go_simp
              with_reducible rfl
             rotate_left
             ·simp only [Act.put, sa_, sz_, ss_, i64_w, i32_w]
              rfl
             refine pure_ (i := 1) (N := some 27) (v := ?_) (a' := ?_) #[T,T,F,F,F,F,F,F,F,F] rfl rfl (any_of HT_.out (by kernel_rfl)) (fun _ _ _ h => h) (Or.inl ⟨by rfl, ?_⟩) ?_ ?_
             rotate_left
             ·intro w'
              go_simp
              with_reducible rfl
             rotate_left
             ·simp only [Act.put, sa_, sz_, ss_, i64_w, i32_w]
              rfl
             refine pure_ (i := 2) (N := some 28) (v := ?_) (a' := ?_) #[T,T,T,F,F,F,F,F,F,F] rfl rfl (any_of HT_.out (by kernel_rfl)) (fun _ _ _ h => h) (Or.inl ⟨by rfl, ?_⟩) ?_ ?_
             rotate_left
             ·intro w'
              go_simp
              with_reducible rfl
             rotate_left
             ·simp only [Act.put, sa_, sz_, ss_, i64_w, i32_w]
              rfl
             refine pure_ (i := 3) (N := some 29) (v := ?_) (a' := ?_) #[T,T,T,T,F,F,F,F,F,F] rfl rfl (any_of HT_.out (by kernel_rfl)) (fun _ _ _ h => h) (Or.inl ⟨by rfl, ?_⟩) ?_ ?_
             rotate_left
             ·intro w'
              go_simp
              with_reducible rfl
             rotate_left
             ·simp only [Act.put, sa_, sz_, ss_, i64_w, i32_w]
              rfl
             refine pure_ (i := 4) (N := some 30) (v := undef) (a' := ?_) #[T,T,T,T,T,F,F,F,F,F] rfl rfl (any_of HT_.out (by kernel_rfl)) (fun _ _ _ h => h) (Or.inr ⟨by rfl, rfl⟩) ?_ ?_
             rotate_left
             ·simp only [Act.put, sa_, sz_, ss_, i64_w, i32_w]
              rfl
             refine pure_ (i := 5) (N := some 31) (v := undef) (a' := ?_) #[T,T,T,T,T,T,F,F,F,F] rfl rfl (any_of HT_.out (by kernel_rfl)) (fun _ _ _ h => h) (Or.inr ⟨by rfl, rfl⟩) ?_ ?_
             rotate_left
             ·simp only [Act.put, sa_, sz_, ss_, i64_w, i32_w]
              rfl
             refine pure_ (i := 6) (N := some 32) (v := undef) (a' := ?_) #[T,T,T,T,T,T,T,F,F,F] rfl rfl (any_of HT_.out (by kernel_rfl)) (fun _ _ _ h => h) (Or.inr ⟨by rfl, rfl⟩) ?_ ?_
             rotate_left
             ·simp only [Act.put, sa_, sz_, ss_, i64_w, i32_w]
              rfl
             refine pure_ (i := 7) (N := some 33) (v := undef) (a' := ?_) #[T,T,T,T,T,T,T,T,F,F] rfl rfl (any_of HT_.out (by kernel_rfl)) (fun _ _ _ h => h) (Or.inr ⟨by rfl, rfl⟩) ?_ ?_
             rotate_left
             ·simp only [Act.put, sa_, sz_, ss_, i64_w, i32_w]
              rfl
             refine pure_ (i := 8) (N := some 34) (v := undef) (a' := ?_) #[T,T,T,T,T,T,T,T,T,F] rfl rfl (any_of HT_.out (by kernel_rfl)) (fun _ _ _ h => h) (Or.inr ⟨by rfl, rfl⟩) ?_ ?_
             rotate_left
             ·simp only [Act.put, sa_, sz_, ss_, i64_w, i32_w]
              rfl
             refine pure_ (i := 9) (N := some 35) (v := ?_) (a' := ?_) #[T,T,T,T,T,T,T,T,T,T] rfl rfl (any_of HT_.out (by kernel_rfl)) (fun _ _ _ h => h) (Or.inl ⟨by rfl, ?_⟩) ?_ ?_
             rotate_left
             ·intro w'
              go_simp
              with_reducible rfl
             rotate_left
             ·simp only [Act.put, sa_, sz_, ss_, i64_w, i32_w]
              rfl
             refine done_ (done_of HT_.out (by kernel_rfl)) ?_
             have hcz23_0 : w22.cell? ⟨gb165, 0, none⟩ = some (.string ((rd_T41 l0 x10_1).f0.f0)) := (blk_cell BK165.out 0).trans rfl
             have hcz23_1 : w22.cell? ⟨gb165, 1, none⟩ = some (.string ((rd_T41 l0 x10_1).f0.f1)) := (blk_cell BK165.out 1).trans rfl
             have hcz23_2 : w22.cell? ⟨gb165, 2, none⟩ = some (.string ((rd_T41 l0 x10_1).f1)) := (blk_cell BK165.out 2).trans rfl
             have hcz23_3 : w22.cell? ⟨gb165, 3, none⟩ = some (.string ((rd_T41 l0 x10_1).f2.f0)) := (blk_cell BK165.out 3).trans rfl
             have hcz23_4 : w22.cell? ⟨gb165, 4, none⟩ = some (.string ((rd_T41 l0 x10_1).f2.f1)) := (blk_cell BK165.out 4).trans rfl
             have hcz23_5 : w22.cell? ⟨gb165, 5, none⟩ = some (.string ((rd_T41 l0 x10_1).f2.f2)) := (blk_cell BK165.out 5).trans rfl
             have hfz23_0 := blk_frozen BK165.out 0
             have hfz23_1 := blk_frozen BK165.out 1
             have hfz23_2 := blk_frozen BK165.out 2
             have hfz23_3 := blk_frozen BK165.out 3
             have hfz23_4 := blk_frozen BK165.out 4
             have hfz23_5 := blk_frozen BK165.out 5
             try go_wp2_with (first | ((with_reducible refine gate_builtin (b := .append) (xs := #[.tmp 36, .tmp 38]) rfl ?_); at_builtin; refine Kd.R_append k41 (w0 := w) w.heap.size rfl (.tmp 36) (.tmp 38) 23 41 (.agg #[(.string ⟨#[]⟩), (.string ⟨#[]⟩), (.string ⟨#[]⟩), (.string ⟨#[]⟩), (.string ⟨#[]⟩), (.string ⟨#[]⟩)]) 96 rfl Try.underlying23 info41 rfl (by decide) (by omega) u5 x5_1 (⟨(⟨((rd_T41 l0 x10_1).f0.f0), ((rd_T41 l0 x10_1).f0.f1)⟩ : S37), ((rd_T41 l0 x10_1).f1), (⟨((rd_T41 l0 x10_1).f2.f0), ((rd_T41 l0 x10_1).f2.f1), ((rd_T41 l0 x10_1).f2.f2)⟩ : S39)⟩ : S41) [.string ((rd_T41 l0 x10_1).f0.f0), .string ((rd_T41 l0 x10_1).f0.f1), .string ((rd_T41 l0 x10_1).f1), .string ((rd_T41 l0 x10_1).f2.f0), .string ((rd_T41 l0 x10_1).f2.f1), .string ((rd_T41 l0 x10_1).f2.f2)] (fun k_ => (w.heap.size ≤ k_) ∧ k_ ≠ gb165) (fun _ => False) rfl rfl ?aP (fun _ hk => hk.elim) ?aF ?aO ?aB ?aS ?aL ?_; (case aP => exact k41_mkM _ _ _ (⟨(⟨((rd_T41 l0 x10_1).f0.f0), ((rd_T41 l0 x10_1).f0.f1)⟩ : S37), ((rd_T41 l0 x10_1).f1), (⟨((rd_T41 l0 x10_1).f2.f0), ((rd_T41 l0 x10_1).f2.f1), ((rd_T41 l0 x10_1).f2.f2)⟩ : S39)⟩ : S41)); (case aB => exact (by repeat (first | (with_reducible first | exact HB.out | apply below_alloc | apply pw_below_drewN | apply below_drew1 | refine below_set ?_ GE165.out) | exact HB.out))); (case aF => exact (fun k_ hk => ⟨(Nat.le_trans (below_size (by repeat (first | (with_reducible first | exact HB.out | apply below_alloc | apply pw_below_drewN | apply below_drew1 | refine below_set ?_ GE165.out) | exact HB.out))) hk), Kd.freshB (g := gb165) (o := .cells #[.string ((rd_T41 l0 x10_1).f0.f0), .string ((rd_T41 l0 x10_1).f0.f1), .string ((rd_T41 l0 x10_1).f1), .string ((rd_T41 l0 x10_1).f2.f0), .string ((rd_T41 l0 x10_1).f2.f1), .string ((rd_T41 l0 x10_1).f2.f2)] 41 (0, 0)) (by (with_reducible repeat (first | refine blk_drewN ?_ _ | refine blk_drew ?_ | refine blk_alloc ?_ _)); exact BK165.out) k_ hk⟩)); (case aO => exact (by (with_reducible repeat (first | apply Kd.R_alloc | apply Kd.R_drewN | apply Kd.R_drew)); exact HO_5.out)); (case aS => exact (below_size (by repeat (first | (with_reducible first | exact HB.out | apply below_alloc | apply pw_below_drewN | apply below_drew1 | refine below_set ?_ GE165.out) | exact HB.out)))); (case aL => have := LMc18.out; omega); intro v174 w24 ho hb hg hat; rw [← Ny173.out] at ho; have n0_ := Aside0.mk (Kd.V_afterv (ok := (fun k_ => (P1_ k_ ∨ w.heap.size ≤ k_) ∧ k_ ≠ gb165)) (by (with_reducible repeat (first | apply Kd.V_alloc | apply Kd.V_drewN | apply Kd.V_drew)); exact Kd.V_mono HO_1.out (fun _ hk => ⟨⟨hk.1, hk.2.2⟩, hk.2.1⟩)) hg hat); have n1_ := Aside0.mk (blk_grown (g := gb165) (o := .cells #[.string ((rd_T41 l0 x10_1).f0.f0), .string ((rd_T41 l0 x10_1).f0.f1), .string ((rd_T41 l0 x10_1).f1), .string ((rd_T41 l0 x10_1).f2.f0), .string ((rd_T41 l0 x10_1).f2.f1), .string ((rd_T41 l0 x10_1).f2.f2)] 41 (0, 0)) (by (with_reducible repeat (first | refine blk_drewN ?_ _ | refine blk_drew ?_ | refine blk_alloc ?_ _)); exact BK165.out) hg (Kd.R_away HO_5.out (fun _ hk => hk.2))); have n2_ := Aside0.mk (hb); have n3_ := Aside0.mk (ho); clear HO_1; clear BK165; clear HB; clear HO_5; have HO_1 := n0_; have BK165 := n1_; have HB := n2_; have HO175 := n3_; clear n0_ n1_ n2_ n3_; clear ho hb hg hat))
             go_roundg k2
             case measure => have := HK1.out; have := HK2.out; omega
             case rel => exact ⟨(x1_2), (y173), (wrap64 (x10_1 + 1)), (by first | rfl | (simp; done) | (simp [*]; done)), H', ⟨by have := HK1.out; have := HK2.out; omega⟩, ⟨by (with_reducible repeat (first | apply Kd.V_alloc | apply Kd.V_drewN | apply Kd.V_drew)); exact Kd.V_mono HO_1.out (fun _ hk => ⟨hk.1.1, hk.2⟩)⟩, ⟨by (with_reducible repeat (first | apply Kd.R_alloc | apply Kd.R_drewN | apply Kd.R_drew)); exact Kd.R_mono HO175.out (fun _ hk => hk.1)⟩, ⟨by repeat (first | (with_reducible first | exact HB.out | apply below_alloc | apply pw_below_drewN | apply below_drew1 | refine below_set ?_ GE165.out) | exact HB.out)⟩⟩
            ·rw [if_neg c18] at H
             exact absurd H (by simp)
           ·rw [if_neg c17] at H
            have c17b0 : ((x1_2.length : Int) == 0) = false := beq_eq_false_iff_ne.mpr c17
            have c17b1 : ((x1_2.length : Int) != 0) = true := bne_iff_ne.mpr c17
            have c17b2 : ¬ (x1_2 = []) := fun h_ => c17 (by rw [h_]; rfl)
            by_cases c25 : ((!((((rd_T41 x1_2 0).f0.f0).toList) == ((rd_T41 l0 x10_1).f0.f0).toList) || (!((((rd_T41 x1_2 0).f0.f1).toList) == ((rd_T41 l0 x10_1).f0.f1).toList))) || (!((((rd_T41 x1_2 0).f1).toList) == ((rd_T41 l0 x10_1).f1).toList) || ((!((((rd_T41 x1_2 0).f2.f0).toList) == ((rd_T41 l0 x10_1).f2.f0).toList) || (!((((rd_T41 x1_2 0).f2.f1).toList) == ((rd_T41 l0 x10_1).f2.f1).toList) || (!((((rd_T41 x1_2 0).f2.f2).toList) == ((rd_T41 l0 x10_1).f2.f2).toList))))))) = true
            ·rw [if_pos c25] at H
             have c25b0 : ((!((((rd_T41 x1_2 0).f0.f0).toList) == ((rd_T41 l0 x10_1).f0.f0).toList) || (!((((rd_T41 x1_2 0).f0.f1).toList) == ((rd_T41 l0 x10_1).f0.f1).toList))) || (!((((rd_T41 x1_2 0).f1).toList) == ((rd_T41 l0 x10_1).f1).toList) || ((!((((rd_T41 x1_2 0).f2.f0).toList) == ((rd_T41 l0 x10_1).f2.f0).toList) || (!((((rd_T41 x1_2 0).f2.f1).toList) == ((rd_T41 l0 x10_1).f2.f1).toList) || (!((((rd_T41 x1_2 0).f2.f2).toList) == ((rd_T41 l0 x10_1).f2.f2).toList))))))) = true := c25
             clear c25
             by_cases c26 : x5_1.length < 1466015503701
             ·rw [if_pos c26] at H
              have LMc26 := Aside0.mk c26
              clear c26
              obtain ⟨y177, hy177⟩ : ∃ y_ : List (S41), y_ = (x5_1 ++ [(⟨(⟨((rd_T41 l0 x10_1).f0.f0), ((rd_T41 l0 x10_1).f0.f1)⟩ : S37), ((rd_T41 l0 x10_1).f1), (⟨((rd_T41 l0 x10_1).f2.f0), ((rd_T41 l0 x10_1).f2.f1), ((rd_T41 l0 x10_1).f2.f2)⟩ : S39)⟩ : S41)]) := ⟨_, rfl⟩
              replace H : (rows_without.l0 k2 x1_2 y177 l0 (l0.length : Int) (wrap64 (x10_1 + 1))) = some r := by first | (rw [hy177]; with_reducible exact H) | (have H2_ := (Option.bind_some _ _).symm.trans H; rw [hy177]; with_reducible exact H2_) | (have H2_ := (Option.bind_some _ _).symm.trans H; with_reducible exact H2_) | with_reducible exact H | (rw [hy177]; exact H) | exact H
              have Ny177 := Aside0.mk hy177
              clear hy177
              have H' := Aside0.mk H
              clear H
              try go_wp2
              have n0_ := Aside0.mk (Kd.V_drew HO_1.out)
              have n1_ := Aside0.mk (Kd.R_drew HO_5.out)
              have n2_ := Aside0.mk (blk_drew BK165.out)
              have n3_ := Aside0.mk (below_drew1 HB.out)
              clear HO_1
              clear HO_5
              clear BK165
              clear HB
              have HO_1 := n0_
              have HO_5 := n1_
              have BK165 := n2_
              have HB := n3_
              clear n0_ n1_ n2_ n3_
              obtain ⟨Ao28, co28, eo28⟩ := Kd.V_slice HO_1.out
              (first | subst eo28 | (injection eo28 with f1_ f2_ f3_; have f4_ := f1_.symm; have f5_ := f3_.symm; clear f1_ f2_ f3_; subst f4_; subst f5_))
              have p166 : 0 ≤ (0 : Int) := (by omega)
              have q166 : 0 < (x1_2.length : Int) := of_decide_eq_true (by first | (with_reducible assumption) | assumption)
              obtain ⟨ad166, e166, hx166_0, hx166_1, hx166_2, hx166_3, hx166_4, hx166_5⟩ := at_T41 (Kd.V_reads' HO_1.out).2.2 0 p166 q166
              cases e166
              have qi166 : (0 < x1_2.length) = True := eq_true (by omega)
              (try rw [show ((0 : Int)).toNat = 0 from rfl] at hx166_0)
              (try rw [show 0 * 6 = 0 from rfl] at hx166_0)
              (try rw [Addr.add_zero'] at hx166_0)
              (try rw [show ((0 : Int)).toNat = 0 from rfl] at hx166_1)
              (try rw [show 0 * 6 = 0 from rfl] at hx166_1)
              (try rw [Addr.add_zero'] at hx166_1)
              (try rw [show ((0 : Int)).toNat = 0 from rfl] at hx166_2)
              (try rw [show 0 * 6 = 0 from rfl] at hx166_2)
              (try rw [Addr.add_zero'] at hx166_2)
              (try rw [show ((0 : Int)).toNat = 0 from rfl] at hx166_3)
              (try rw [show 0 * 6 = 0 from rfl] at hx166_3)
              (try rw [Addr.add_zero'] at hx166_3)
              (try rw [show ((0 : Int)).toNat = 0 from rfl] at hx166_4)
              (try rw [show 0 * 6 = 0 from rfl] at hx166_4)
              (try rw [Addr.add_zero'] at hx166_4)
              (try rw [show ((0 : Int)).toNat = 0 from rfl] at hx166_5)
              (try rw [show 0 * 6 = 0 from rfl] at hx166_5)
              (try rw [Addr.add_zero'] at hx166_5)
              replace p166 := eq_true p166
              replace q166 := eq_true q166
              refine start_ (n := 10) (S := fun w' => w'.cell? ⟨gb165, 0, none⟩ = some (.string ((rd_T41 l0 x10_1).f0.f0)) ∧ w'.cell? ⟨gb165, 1, none⟩ = some (.string ((rd_T41 l0 x10_1).f0.f1)) ∧ w'.cell? ⟨gb165, 2, none⟩ = some (.string ((rd_T41 l0 x10_1).f1)) ∧ w'.cell? ⟨gb165, 3, none⟩ = some (.string ((rd_T41 l0 x10_1).f2.f0)) ∧ w'.cell? ⟨gb165, 4, none⟩ = some (.string ((rd_T41 l0 x10_1).f2.f1)) ∧ w'.cell? ⟨gb165, 5, none⟩ = some (.string ((rd_T41 l0 x10_1).f2.f2)) ∧ w'.cell? ad166 = some (.string ((rd_T41 x1_2 0).f0.f0)) ∧ w'.cell? ⟨ad166.block, ad166.off + 1, none⟩ = some (.string ((rd_T41 x1_2 0).f0.f1)) ∧ w'.cell? ⟨ad166.block, ad166.off + 2, none⟩ = some (.string ((rd_T41 x1_2 0).f1)) ∧ w'.cell? ⟨ad166.block, ad166.off + 3, none⟩ = some (.string ((rd_T41 x1_2 0).f2.f0)) ∧ w'.cell? ⟨ad166.block, ad166.off + 4, none⟩ = some (.string ((rd_T41 x1_2 0).f2.f1)) ∧ w'.cell? ⟨ad166.block, ad166.off + 5, none⟩ = some (.string ((rd_T41 x1_2 0).f2.f2))) (ds := []) #[F,F,F,F,F,F,F,F,F,F] (by kernel_rfl) rfl rfl ⟨(blk_cell BK165.out 0).trans rfl, (blk_cell BK165.out 1).trans rfl, (blk_cell BK165.out 2).trans rfl, (blk_cell BK165.out 3).trans rfl, (blk_cell BK165.out 4).trans rfl, (blk_cell BK165.out 5).trans rfl, hx166_0, hx166_1, hx166_2, hx166_3, hx166_4, hx166_5⟩ (fun hHeld => ?_); refine with_tabW rows_without.tab5 rows_without.bits5 (fun HT_ HW_ => ?_)
              generalize wr.drew = w27 at HO_1 HO_5 BK165 HB hx166_0 hx166_1 hx166_2 hx166_3 hx166_4 hx166_5 hHeld ⊢
              refine pure_ (i := 0) (N := some 14) (v := ?_) (a' := ?_) #[T,F,F,F,F,F,F,F,F,F] rfl rfl (any_of HT_.out (by kernel_rfl)) (fun _ _ _ h => h) (Or.inl ⟨by rfl, ?_⟩) ?_ ?_
              rotate_left
              ·intro w'
               go_simp
               with_reducible rfl
              rotate_left
              ·simp only [Act.put, sa_, sz_, ss_, i64_w, i32_w]
               rfl
              refine pure_ (i := 1) (N := some 15) (v := ?_) (a' := ?_) #[T,T,F,F,F,F,F,F,F,F] rfl rfl (any_of HT_.out (by kernel_rfl)) (fun _ _ _ h => h) (Or.inl ⟨by rfl, ?_⟩) ?_ ?_
              rotate_left
              ·intro w'
               go_simp
               with_reducible rfl
              rotate_left
              ·simp only [Act.put, sa_, sz_, ss_, i64_w, i32_w]
               rfl
              refine pure_ (i := 2) (N := some 16) (v := ?_) (a' := ?_) #[T,T,T,F,F,F,F,F,F,F] rfl rfl (any_of HT_.out (by kernel_rfl)) (fun _ _ _ h => h) (Or.inl ⟨by rfl, ?_⟩) ?_ ?_
              rotate_left
              ·intro w'
               go_simp
               with_reducible rfl
              rotate_left
              ·simp only [Act.put, sa_, sz_, ss_, i64_w, i32_w]
               rfl
              refine pure_ (i := 3) (N := some 17) (v := ?_) (a' := ?_) #[T,T,T,T,F,F,F,F,F,F] rfl rfl (any_of HT_.out (by kernel_rfl)) (fun _ _ _ h => h) (Or.inl ⟨by rfl, ?_⟩) ?_ ?_
              rotate_left
              ·intro w'
               go_simp
               with_reducible rfl
              rotate_left
              ·simp only [Act.put, sa_, sz_, ss_, i64_w, i32_w]
               rfl
              refine pure_ (i := 4) (N := some 18) (v := ?_) (a' := ?_) #[T,T,T,T,T,F,F,F,F,F] rfl rfl (any_of HT_.out (by kernel_rfl)) (fun _ _ _ h => h) (Or.inl ⟨by rfl, ?_⟩) ?_ ?_
              rotate_left
              ·intro w'
               go_simp
               with_reducible rfl
              rotate_left
              ·simp only [Act.put, sa_, sz_, ss_, i64_w, i32_w]
               rfl
              refine pure_ (i := 5) (N := some 19) (v := ?_) (a' := ?_) #[T,T,T,T,T,T,F,F,F,F] rfl rfl (any_of HT_.out (by kernel_rfl)) (fun _ _ _ h => h) (Or.inl ⟨by rfl, ?_⟩) ?_ ?_
              rotate_left
              ·intro w'
               go_simp
               with_reducible rfl
              rotate_left
              ·simp only [Act.put, sa_, sz_, ss_, i64_w, i32_w]
               rfl
              refine take_ (i := 6) (N := some 20) (v := ?_) (a' := ?_) #[T,T,T,T,T,T,T,F,F,F] rfl rfl (take_ofW HT_.out HW_.out (by kernel_rfl)) (fun _ _ _ h => h) (Or.inl ⟨by rfl, ?_⟩) hHeld ?_ ?_
              rotate_left
              ·rintro w' ⟨s0, s1, s2, s3, s4, s5, s6, s7, s8, s9, s10, s11⟩
               go_simp
               with_reducible rfl
              rotate_left
              ·simp only [Act.put, sa_, sz_, ss_, i64_w, i32_w]
               rfl
              refine take_ (i := 7) (N := some 21) (v := ?_) (a' := ?_) #[T,T,T,T,T,T,T,T,F,F] rfl rfl (take_ofW HT_.out HW_.out (by kernel_rfl)) (fun _ _ _ h => h) (Or.inl ⟨by rfl, ?_⟩) hHeld ?_ ?_
              rotate_left
              ·rintro w' ⟨s0, s1, s2, s3, s4, s5, s6, s7, s8, s9, s10, s11⟩
               go_simp
               with_reducible rfl
              rotate_left
              ·simp only [Act.put, sa_, sz_, ss_, i64_w, i32_w]
               rfl
              refine one_ (i := 8) (N := some 22) #[T,T,T,T,T,T,T,T,T,F] rfl rfl (one_of HT_.out (by kernel_rfl)) (by decide) (fun K hK => ?_)
              refine goes_ Try.func43 (by kernel_rfl) rfl #[.agg #[.string ((rd_T41 x1_2 0).f0.f0), .string ((rd_T41 x1_2 0).f0.f1), .string ((rd_T41 x1_2 0).f1), .string ((rd_T41 x1_2 0).f2.f0), .string ((rd_T41 x1_2 0).f2.f1), .string ((rd_T41 x1_2 0).f2.f2)], .agg #[.string ((rd_T41 l0 x10_1).f0.f0), .string ((rd_T41 l0 x10_1).f0.f1), .string ((rd_T41 l0 x10_1).f1), .string ((rd_T41 l0 x10_1).f2.f0), .string ((rd_T41 l0 x10_1).f2.f1), .string ((rd_T41 l0 x10_1).f2.f2)]] (by rfl) rfl rfl (by (try simp only [List.map_toArray, List.map_cons, List.map_nil]); first | done | rfl | (simp only [List.length_drop, List.length_take]; rfl)) ?_
              with_reducible refine (tupl_Less.calls ((rd_T41 x1_2 0).f0.f0) ((rd_T41 x1_2 0).f0.f1) ((rd_T41 x1_2 0).f1) ((rd_T41 x1_2 0).f2.f0) ((rd_T41 x1_2 0).f2.f1) ((rd_T41 x1_2 0).f2.f2) ((rd_T41 l0 x10_1).f0.f0) ((rd_T41 l0 x10_1).f0.f1) ((rd_T41 l0 x10_1).f1) ((rd_T41 l0 x10_1).f2.f0) ((rd_T41 l0 x10_1).f2.f1) ((rd_T41 l0 x10_1).f2.f2) false _ A10.out).mono ?_
              rintro e w29 ⟨rfl, hb⟩
              have HS6_ := (hb.cell (World.block_lt_of_cell? _ _ (hHeld.2.2.2.2.2.2.1))).trans (hHeld.2.2.2.2.2.2.1)
              have HS7_ := (hb.cell (World.block_lt_of_cell? _ _ (hHeld.2.2.2.2.2.2.2.1))).trans (hHeld.2.2.2.2.2.2.2.1)
              have HS8_ := (hb.cell (World.block_lt_of_cell? _ _ (hHeld.2.2.2.2.2.2.2.2.1))).trans (hHeld.2.2.2.2.2.2.2.2.1)
              have HS9_ := (hb.cell (World.block_lt_of_cell? _ _ (hHeld.2.2.2.2.2.2.2.2.2.1))).trans (hHeld.2.2.2.2.2.2.2.2.2.1)
              have HS10_ := (hb.cell (World.block_lt_of_cell? _ _ (hHeld.2.2.2.2.2.2.2.2.2.2.1))).trans (hHeld.2.2.2.2.2.2.2.2.2.2.1)
              have HS11_ := (hb.cell (World.block_lt_of_cell? _ _ (hHeld.2.2.2.2.2.2.2.2.2.2.2))).trans (hHeld.2.2.2.2.2.2.2.2.2.2.2)
              refine ⟨_, rfl, ?_⟩
              have n0_ := Aside0.mk (Kd.V_below (by (with_reducible repeat (first | apply Kd.V_alloc | apply Kd.V_drewN | apply Kd.V_drew)); exact HO_1.out) hb)
              have n1_ := Aside0.mk (Kd.R_below (by (with_reducible repeat (first | apply Kd.R_alloc | apply Kd.R_drewN | apply Kd.R_drew)); exact HO_5.out) hb)
              have n2_ := Aside0.mk (blk_below (g := gb165) (o := .cells #[.string ((rd_T41 l0 x10_1).f0.f0), .string ((rd_T41 l0 x10_1).f0.f1), .string ((rd_T41 l0 x10_1).f1), .string ((rd_T41 l0 x10_1).f2.f0), .string ((rd_T41 l0 x10_1).f2.f1), .string ((rd_T41 l0 x10_1).f2.f2)] 41 (0, 0)) (by (with_reducible repeat (first | refine blk_drewN ?_ _ | refine blk_drew ?_ | refine blk_alloc ?_ _)); exact BK165.out) hb)
              have n3_ := Aside0.mk (below_step (by repeat (first | (with_reducible first | exact HB.out | apply below_alloc | apply pw_below_drewN | apply below_drew1 | refine below_set ?_ GE165.out) | exact HB.out)) hb)
              clear HO_1
              clear HO_5
              clear BK165
              clear HB
              have HO_1 := n0_
              have HO_5 := n1_
              have BK165 := n2_
              have HB := n3_
              clear n0_ n1_ n2_ n3_
              (try clear hb)
              (try clear hb2)
              (try clear hk)
              (try clear hi)
              refine hK.out _ _ ⟨(blk_cell BK165.out 0).trans rfl, (blk_cell BK165.out 1).trans rfl, (blk_cell BK165.out 2).trans rfl, (blk_cell BK165.out 3).trans rfl, (blk_cell BK165.out 4).trans rfl, (blk_cell BK165.out 5).trans rfl, HS6_, HS7_, HS8_, HS9_, HS10_, HS11_⟩ (fun hHeld => ?_)
              clear hK K
              refine norm_ (a' := ?_) ?_ ?_
              rotate_left
              ·show Act.put _ (some 22) _ = _
               simp only [Act.put, sa_, sz_, ss_, i64_w, i32_w]
               rfl
              refine pure_ (i := 9) (N := some 23) (v := ?_) (a' := ?_) #[T,T,T,T,T,T,T,T,T,T] rfl rfl (any_of HT_.out (by kernel_rfl)) (fun _ _ _ h => h) (Or.inl ⟨by rfl, ?_⟩) ?_ ?_
              rotate_left
              ·intro w'
               go_simp
               with_reducible rfl
              rotate_left
              ·simp only [Act.put, sa_, sz_, ss_, i64_w, i32_w]
               rfl
              refine done_ (done_of HT_.out (by kernel_rfl)) ?_
              try go_wp2
              have n0_ := Aside0.mk (Kd.V_drew HO_1.out)
              have n1_ := Aside0.mk (Kd.R_drew HO_5.out)
              have n2_ := Aside0.mk (blk_drew BK165.out)
              have n3_ := Aside0.mk (below_drew1 HB.out)
              clear HO_1
              clear HO_5
              clear BK165
              clear HB
              have HO_1 := n0_
              have HO_5 := n1_
              have BK165 := n2_
              have HB := n3_
              clear n0_ n1_ n2_ n3_
              have p176 : 0 ≤ (0 : Int) := (by omega)
              have q176 : 0 < (x1_2.length : Int) := of_decide_eq_true (by first | (with_reducible assumption) | assumption)
              obtain ⟨ad176, e176, hx176_0, hx176_1, hx176_2, hx176_3, hx176_4, hx176_5⟩ := at_T41 (Kd.V_reads' HO_1.out).2.2 0 p176 q176
              obtain rfl : ad166 = ad176 := (by injection e176)
              have qi176 : (0 < x1_2.length) = True := eq_true (by omega)
              (try rw [show ((0 : Int)).toNat = 0 from rfl] at hx176_0)
              (try rw [show 0 * 6 = 0 from rfl] at hx176_0)
              (try rw [Addr.add_zero'] at hx176_0)
              (try rw [show ((0 : Int)).toNat = 0 from rfl] at hx176_1)
              (try rw [show 0 * 6 = 0 from rfl] at hx176_1)
              (try rw [Addr.add_zero'] at hx176_1)
              (try rw [show ((0 : Int)).toNat = 0 from rfl] at hx176_2)
              (try rw [show 0 * 6 = 0 from rfl] at hx176_2)
              (try rw [Addr.add_zero'] at hx176_2)
              (try rw [show ((0 : Int)).toNat = 0 from rfl] at hx176_3)
              (try rw [show 0 * 6 = 0 from rfl] at hx176_3)
              (try rw [Addr.add_zero'] at hx176_3)
              (try rw [show ((0 : Int)).toNat = 0 from rfl] at hx176_4)
              (try rw [show 0 * 6 = 0 from rfl] at hx176_4)
              (try rw [Addr.add_zero'] at hx176_4)
              (try rw [show ((0 : Int)).toNat = 0 from rfl] at hx176_5)
              (try rw [show 0 * 6 = 0 from rfl] at hx176_5)
              (try rw [Addr.add_zero'] at hx176_5)
              replace p176 := eq_true p176
              replace q176 := eq_true q176
              refine start_ (n := 10) (S := fun w' => w'.cell? ⟨gb165, 0, none⟩ = some (.string ((rd_T41 l0 x10_1).f0.f0)) ∧ w'.cell? ⟨gb165, 1, none⟩ = some (.string ((rd_T41 l0 x10_1).f0.f1)) ∧ w'.cell? ⟨gb165, 2, none⟩ = some (.string ((rd_T41 l0 x10_1).f1)) ∧ w'.cell? ⟨gb165, 3, none⟩ = some (.string ((rd_T41 l0 x10_1).f2.f0)) ∧ w'.cell? ⟨gb165, 4, none⟩ = some (.string ((rd_T41 l0 x10_1).f2.f1)) ∧ w'.cell? ⟨gb165, 5, none⟩ = some (.string ((rd_T41 l0 x10_1).f2.f2)) ∧ w'.cell? ad166 = some (.string ((rd_T41 x1_2 0).f0.f0)) ∧ w'.cell? ⟨ad166.block, ad166.off + 1, none⟩ = some (.string ((rd_T41 x1_2 0).f0.f1)) ∧ w'.cell? ⟨ad166.block, ad166.off + 2, none⟩ = some (.string ((rd_T41 x1_2 0).f1)) ∧ w'.cell? ⟨ad166.block, ad166.off + 3, none⟩ = some (.string ((rd_T41 x1_2 0).f2.f0)) ∧ w'.cell? ⟨ad166.block, ad166.off + 4, none⟩ = some (.string ((rd_T41 x1_2 0).f2.f1)) ∧ w'.cell? ⟨ad166.block, ad166.off + 5, none⟩ = some (.string ((rd_T41 x1_2 0).f2.f2))) (ds := []) #[F,F,F,F,F,F,F,F,F,F] (by kernel_rfl) rfl rfl ⟨(blk_cell BK165.out 0).trans rfl, (blk_cell BK165.out 1).trans rfl, (blk_cell BK165.out 2).trans rfl, (blk_cell BK165.out 3).trans rfl, (blk_cell BK165.out 4).trans rfl, (blk_cell BK165.out 5).trans rfl, hx176_0, hx176_1, hx176_2, hx176_3, hx176_4, hx176_5⟩ (fun hHeld => ?_); refine with_tabW rows_without.tab7 rows_without.bits7 (fun HT_ HW_ => ?_)
              generalize w29.drew = w30 at HO_1 HO_5 BK165 HB hx176_0 hx176_1 hx176_2 hx176_3 hx176_4 hx176_5 hHeld ⊢
              refine pure_ (i := 0) (N := some 26) (v := ?_) (a' := ?_) #[T,F,F,F,F,F,F,F,F,F] rfl rfl (any_of HT_.out (by kernel_rfl)) (fun _ _ _ h => h) (Or.inl ⟨by rfl, ?_⟩) ?_ ?_
              rotate_left
              ·intro w'
               go_simp
               with_reducible rfl
              rotate_left
              ·simp only [Act.put, sa_, sz_, ss_, i64_w, i32_w]
               rfl
              refine pure_ (i := 1) (N := some 27) (v := ?_) (a' := ?_) #[T,T,F,F,F,F,F,F,F,F] rfl rfl (any_of HT_.out (by kernel_rfl)) (fun _ _ _ h => h) (Or.inl ⟨by rfl, ?_⟩) ?_ ?_
              rotate_left
              ·intro w'
               go_simp
               with_reducible rfl
              rotate_left
              ·simp only [Act.put, sa_, sz_, ss_, i64_w, i32_w]
               rfl
              refine pure_ (i := 2) (N := some 28) (v := ?_) (a' := ?_) #[T,T,T,F,F,F,F,F,F,F] rfl rfl (any_of HT_.out (by kernel_rfl)) (fun _ _ _ h => h) (Or.inl ⟨by rfl, ?_⟩) ?_ ?_
              rotate_left
              ·intro w'
               go_simp
               with_reducible rfl
              rotate_left
              ·simp only [Act.put, sa_, sz_, ss_, i64_w, i32_w]
               rfl
              refine pure_ (i := 3) (N := some 29) (v := ?_) (a' := ?_) #[T,T,T,T,F,F,F,F,F,F] rfl rfl (any_of HT_.out (by kernel_rfl)) (fun _ _ _ h => h) (Or.inl ⟨by rfl, ?_⟩) ?_ ?_
              rotate_left
              ·intro w'
               go_simp
               with_reducible rfl
              rotate_left
              ·simp only [Act.put, sa_, sz_, ss_, i64_w, i32_w]
               rfl
              refine pure_ (i := 4) (N := some 30) (v := ?_) (a' := ?_) #[T,T,T,T,T,F,F,F,F,F] rfl rfl (any_of HT_.out (by kernel_rfl)) (fun _ _ _ h => h) (Or.inl ⟨by rfl, ?_⟩) ?_ ?_
              rotate_left
              ·intro w'
               go_simp
               with_reducible rfl
              rotate_left
              ·simp only [Act.put, sa_, sz_, ss_, i64_w, i32_w]
               rfl
              refine pure_ (i := 5) (N := some 31) (v := ?_) (a' := ?_) #[T,T,T,T,T,T,F,F,F,F] rfl rfl (any_of HT_.out (by kernel_rfl)) (fun _ _ _ h => h) (Or.inl ⟨by rfl, ?_⟩) ?_ ?_
              rotate_left
              ·intro w'
               go_simp
               with_reducible rfl
              rotate_left
              ·simp only [Act.put, sa_, sz_, ss_, i64_w, i32_w]
               rfl
              refine take_ (i := 6) (N := some 32) (v := ?_) (a' := ?_) #[T,T,T,T,T,T,T,F,F,F] rfl rfl (take_ofW HT_.out HW_.out (by kernel_rfl)) (fun _ _ _ h => h) (Or.inl ⟨by rfl, ?_⟩) hHeld ?_ ?_
              rotate_left
              ·rintro w' ⟨s0, s1, s2, s3, s4, s5, s6, s7, s8, s9, s10, s11⟩
               go_simp
               with_reducible rfl
              rotate_left
              ·simp only [Act.put, sa_, sz_, ss_, i64_w, i32_w]
               rfl
              refine take_ (i := 7) (N := some 33) (v := ?_) (a' := ?_) #[T,T,T,T,T,T,T,T,F,F] rfl rfl (take_ofW HT_.out HW_.out (by kernel_rfl)) (fun _ _ _ h => h) (Or.inl ⟨by rfl, ?_⟩) hHeld ?_ ?_
              rotate_left
              ·rintro w' ⟨s0, s1, s2, s3, s4, s5, s6, s7, s8, s9, s10, s11⟩
               go_simp
               with_reducible rfl
              rotate_left
              ·simp only [Act.put, sa_, sz_, ss_, i64_w, i32_w]
               rfl
              refine pure_ (i := 8) (N := some 34) (v := ?_) (a' := ?_) #[T,T,T,T,T,T,T,T,T,F] rfl rfl (any_of HT_.out (by kernel_rfl)) (fun _ _ _ h => h) (Or.inl ⟨by rfl, ?_⟩) ?_ ?_
              rotate_left
              ·intro w'
               go_simp
               with_reducible rfl
              rotate_left
              ·simp only [Act.put, sa_, sz_, ss_, i64_w, i32_w]
               rfl
              refine pure_ (i := 9) (N := some 35) (v := ?_) (a' := ?_) #[T,T,T,T,T,T,T,T,T,T] rfl rfl (any_of HT_.out (by kernel_rfl)) (fun _ _ _ h => h) (Or.inl ⟨by rfl, ?_⟩) ?_ ?_
              rotate_left
              ·intro w'
               go_simp
               with_reducible rfl
              rotate_left
              ·simp only [Act.put, sa_, sz_, ss_, i64_w, i32_w]
               rfl
              refine done_ (done_of HT_.out (by kernel_rfl)) ?_
              have hcz31_0 : w30.cell? ⟨gb165, 0, none⟩ = some (.string ((rd_T41 l0 x10_1).f0.f0)) := (blk_cell BK165.out 0).trans rfl
              have hcz31_1 : w30.cell? ⟨gb165, 1, none⟩ = some (.string ((rd_T41 l0 x10_1).f0.f1)) := (blk_cell BK165.out 1).trans rfl
              have hcz31_2 : w30.cell? ⟨gb165, 2, none⟩ = some (.string ((rd_T41 l0 x10_1).f1)) := (blk_cell BK165.out 2).trans rfl
              have hcz31_3 : w30.cell? ⟨gb165, 3, none⟩ = some (.string ((rd_T41 l0 x10_1).f2.f0)) := (blk_cell BK165.out 3).trans rfl
              have hcz31_4 : w30.cell? ⟨gb165, 4, none⟩ = some (.string ((rd_T41 l0 x10_1).f2.f1)) := (blk_cell BK165.out 4).trans rfl
              have hcz31_5 : w30.cell? ⟨gb165, 5, none⟩ = some (.string ((rd_T41 l0 x10_1).f2.f2)) := (blk_cell BK165.out 5).trans rfl
              have hfz31_0 := blk_frozen BK165.out 0
              have hfz31_1 := blk_frozen BK165.out 1
              have hfz31_2 := blk_frozen BK165.out 2
              have hfz31_3 := blk_frozen BK165.out 3
              have hfz31_4 := blk_frozen BK165.out 4
              have hfz31_5 := blk_frozen BK165.out 5
              try go_wp2_with (first | ((with_reducible refine gate_builtin (b := .append) (xs := #[.tmp 36, .tmp 38]) rfl ?_); at_builtin; refine Kd.R_append k41 (w0 := w) w.heap.size rfl (.tmp 36) (.tmp 38) 23 41 (.agg #[(.string ⟨#[]⟩), (.string ⟨#[]⟩), (.string ⟨#[]⟩), (.string ⟨#[]⟩), (.string ⟨#[]⟩), (.string ⟨#[]⟩)]) 96 rfl Try.underlying23 info41 rfl (by decide) (by omega) u5 x5_1 (⟨(⟨((rd_T41 l0 x10_1).f0.f0), ((rd_T41 l0 x10_1).f0.f1)⟩ : S37), ((rd_T41 l0 x10_1).f1), (⟨((rd_T41 l0 x10_1).f2.f0), ((rd_T41 l0 x10_1).f2.f1), ((rd_T41 l0 x10_1).f2.f2)⟩ : S39)⟩ : S41) [.string ((rd_T41 l0 x10_1).f0.f0), .string ((rd_T41 l0 x10_1).f0.f1), .string ((rd_T41 l0 x10_1).f1), .string ((rd_T41 l0 x10_1).f2.f0), .string ((rd_T41 l0 x10_1).f2.f1), .string ((rd_T41 l0 x10_1).f2.f2)] (fun k_ => (w.heap.size ≤ k_) ∧ k_ ≠ gb165) (fun _ => False) rfl rfl ?aP (fun _ hk => hk.elim) ?aF ?aO ?aB ?aS ?aL ?_; (case aP => exact k41_mkM _ _ _ (⟨(⟨((rd_T41 l0 x10_1).f0.f0), ((rd_T41 l0 x10_1).f0.f1)⟩ : S37), ((rd_T41 l0 x10_1).f1), (⟨((rd_T41 l0 x10_1).f2.f0), ((rd_T41 l0 x10_1).f2.f1), ((rd_T41 l0 x10_1).f2.f2)⟩ : S39)⟩ : S41)); (case aB => exact (by repeat (first | (with_reducible first | exact HB.out | apply below_alloc | apply pw_below_drewN | apply below_drew1 | refine below_set ?_ GE165.out) | exact HB.out))); (case aF => exact (fun k_ hk => ⟨(Nat.le_trans (below_size (by repeat (first | (with_reducible first | exact HB.out | apply below_alloc | apply pw_below_drewN | apply below_drew1 | refine below_set ?_ GE165.out) | exact HB.out))) hk), Kd.freshB (g := gb165) (o := .cells #[.string ((rd_T41 l0 x10_1).f0.f0), .string ((rd_T41 l0 x10_1).f0.f1), .string ((rd_T41 l0 x10_1).f1), .string ((rd_T41 l0 x10_1).f2.f0), .string ((rd_T41 l0 x10_1).f2.f1), .string ((rd_T41 l0 x10_1).f2.f2)] 41 (0, 0)) (by (with_reducible repeat (first | refine blk_drewN ?_ _ | refine blk_drew ?_ | refine blk_alloc ?_ _)); exact BK165.out) k_ hk⟩)); (case aO => exact (by (with_reducible repeat (first | apply Kd.R_alloc | apply Kd.R_drewN | apply Kd.R_drew)); exact HO_5.out)); (case aS => exact (below_size (by repeat (first | (with_reducible first | exact HB.out | apply below_alloc | apply pw_below_drewN | apply below_drew1 | refine below_set ?_ GE165.out) | exact HB.out)))); (case aL => have := LMc26.out; omega); intro v178 w32 ho hb hg hat; rw [← Ny177.out] at ho; have n0_ := Aside0.mk (Kd.V_afterv (ok := (fun k_ => (P1_ k_ ∨ w.heap.size ≤ k_) ∧ k_ ≠ gb165)) (by (with_reducible repeat (first | apply Kd.V_alloc | apply Kd.V_drewN | apply Kd.V_drew)); exact Kd.V_mono HO_1.out (fun _ hk => ⟨⟨hk.1, hk.2.2⟩, hk.2.1⟩)) hg hat); have n1_ := Aside0.mk (blk_grown (g := gb165) (o := .cells #[.string ((rd_T41 l0 x10_1).f0.f0), .string ((rd_T41 l0 x10_1).f0.f1), .string ((rd_T41 l0 x10_1).f1), .string ((rd_T41 l0 x10_1).f2.f0), .string ((rd_T41 l0 x10_1).f2.f1), .string ((rd_T41 l0 x10_1).f2.f2)] 41 (0, 0)) (by (with_reducible repeat (first | refine blk_drewN ?_ _ | refine blk_drew ?_ | refine blk_alloc ?_ _)); exact BK165.out) hg (Kd.R_away HO_5.out (fun _ hk => hk.2))); have n2_ := Aside0.mk (hb); have n3_ := Aside0.mk (ho); clear HO_1; clear BK165; clear HB; clear HO_5; have HO_1 := n0_; have BK165 := n1_; have HB := n2_; have HO179 := n3_; clear n0_ n1_ n2_ n3_; clear ho hb hg hat))
              go_roundg k2
              case measure => have := HK1.out; have := HK2.out; omega
              case rel => exact ⟨(x1_2), (y177), (wrap64 (x10_1 + 1)), (by first | rfl | (simp; done) | (simp [*]; done)), H', ⟨by have := HK1.out; have := HK2.out; omega⟩, ⟨by (with_reducible repeat (first | apply Kd.V_alloc | apply Kd.V_drewN | apply Kd.V_drew)); exact Kd.V_mono HO_1.out (fun _ hk => ⟨hk.1.1, hk.2⟩)⟩, ⟨by (with_reducible repeat (first | apply Kd.R_alloc | apply Kd.R_drewN | apply Kd.R_drew)); exact Kd.R_mono HO179.out (fun _ hk => hk.1)⟩, ⟨by repeat (first | (with_reducible first | exact HB.out | apply below_alloc | apply pw_below_drewN | apply below_drew1 | refine below_set ?_ GE165.out) | exact HB.out)⟩⟩
             ·rw [if_neg c26] at H
              exact absurd H (by simp)
            ·rw [if_neg c25] at H
             have c25b0 : ((!((((rd_T41 x1_2 0).f0.f0).toList) == ((rd_T41 l0 x10_1).f0.f0).toList) || (!((((rd_T41 x1_2 0).f0.f1).toList) == ((rd_T41 l0 x10_1).f0.f1).toList))) || (!((((rd_T41 x1_2 0).f1).toList) == ((rd_T41 l0 x10_1).f1).toList) || ((!((((rd_T41 x1_2 0).f2.f0).toList) == ((rd_T41 l0 x10_1).f2.f0).toList) || (!((((rd_T41 x1_2 0).f2.f1).toList) == ((rd_T41 l0 x10_1).f2.f1).toList) || (!((((rd_T41 x1_2 0).f2.f2).toList) == ((rd_T41 l0 x10_1).f2.f2).toList))))))) = false := by simpa using c25
             clear c25
             have H' := Aside0.mk H
             clear H
             try go_wp2
             have n0_ := Aside0.mk (Kd.V_drew HO_1.out)
             have n1_ := Aside0.mk (Kd.R_drew HO_5.out)
             have n2_ := Aside0.mk (blk_drew BK165.out)
             have n3_ := Aside0.mk (below_drew1 HB.out)
             clear HO_1
             clear HO_5
             clear BK165
             clear HB
             have HO_1 := n0_
             have HO_5 := n1_
             have BK165 := n2_
             have HB := n3_
             clear n0_ n1_ n2_ n3_
             obtain ⟨Ao34, co34, eo34⟩ := Kd.V_slice HO_1.out
             (first | subst eo34 | (injection eo34 with f1_ f2_ f3_; have f4_ := f1_.symm; have f5_ := f3_.symm; clear f1_ f2_ f3_; subst f4_; subst f5_))
             have p166 : 0 ≤ (0 : Int) := (by omega)
             have q166 : 0 < (x1_2.length : Int) := of_decide_eq_true (by first | (with_reducible assumption) | assumption)
             obtain ⟨ad166, e166, hx166_0, hx166_1, hx166_2, hx166_3, hx166_4, hx166_5⟩ := at_T41 (Kd.V_reads' HO_1.out).2.2 0 p166 q166
             cases e166
             have qi166 : (0 < x1_2.length) = True := eq_true (by omega)
             (try rw [show ((0 : Int)).toNat = 0 from rfl] at hx166_0)
             (try rw [show 0 * 6 = 0 from rfl] at hx166_0)
             (try rw [Addr.add_zero'] at hx166_0)
             (try rw [show ((0 : Int)).toNat = 0 from rfl] at hx166_1)
             (try rw [show 0 * 6 = 0 from rfl] at hx166_1)
             (try rw [Addr.add_zero'] at hx166_1)
             (try rw [show ((0 : Int)).toNat = 0 from rfl] at hx166_2)
             (try rw [show 0 * 6 = 0 from rfl] at hx166_2)
             (try rw [Addr.add_zero'] at hx166_2)
             (try rw [show ((0 : Int)).toNat = 0 from rfl] at hx166_3)
             (try rw [show 0 * 6 = 0 from rfl] at hx166_3)
             (try rw [Addr.add_zero'] at hx166_3)
             (try rw [show ((0 : Int)).toNat = 0 from rfl] at hx166_4)
             (try rw [show 0 * 6 = 0 from rfl] at hx166_4)
             (try rw [Addr.add_zero'] at hx166_4)
             (try rw [show ((0 : Int)).toNat = 0 from rfl] at hx166_5)
             (try rw [show 0 * 6 = 0 from rfl] at hx166_5)
             (try rw [Addr.add_zero'] at hx166_5)
             replace p166 := eq_true p166
             replace q166 := eq_true q166
             refine start_ (n := 10) (S := fun w' => w'.cell? ⟨gb165, 0, none⟩ = some (.string ((rd_T41 l0 x10_1).f0.f0)) ∧ w'.cell? ⟨gb165, 1, none⟩ = some (.string ((rd_T41 l0 x10_1).f0.f1)) ∧ w'.cell? ⟨gb165, 2, none⟩ = some (.string ((rd_T41 l0 x10_1).f1)) ∧ w'.cell? ⟨gb165, 3, none⟩ = some (.string ((rd_T41 l0 x10_1).f2.f0)) ∧ w'.cell? ⟨gb165, 4, none⟩ = some (.string ((rd_T41 l0 x10_1).f2.f1)) ∧ w'.cell? ⟨gb165, 5, none⟩ = some (.string ((rd_T41 l0 x10_1).f2.f2)) ∧ w'.cell? ad166 = some (.string ((rd_T41 x1_2 0).f0.f0)) ∧ w'.cell? ⟨ad166.block, ad166.off + 1, none⟩ = some (.string ((rd_T41 x1_2 0).f0.f1)) ∧ w'.cell? ⟨ad166.block, ad166.off + 2, none⟩ = some (.string ((rd_T41 x1_2 0).f1)) ∧ w'.cell? ⟨ad166.block, ad166.off + 3, none⟩ = some (.string ((rd_T41 x1_2 0).f2.f0)) ∧ w'.cell? ⟨ad166.block, ad166.off + 4, none⟩ = some (.string ((rd_T41 x1_2 0).f2.f1)) ∧ w'.cell? ⟨ad166.block, ad166.off + 5, none⟩ = some (.string ((rd_T41 x1_2 0).f2.f2))) (ds := []) #[F,F,F,F,F,F,F,F,F,F] (by kernel_rfl) rfl rfl ⟨(blk_cell BK165.out 0).trans rfl, (blk_cell BK165.out 1).trans rfl, (blk_cell BK165.out 2).trans rfl, (blk_cell BK165.out 3).trans rfl, (blk_cell BK165.out 4).trans rfl, (blk_cell BK165.out 5).trans rfl, hx166_0, hx166_1, hx166_2, hx166_3, hx166_4, hx166_5⟩ (fun hHeld => ?_); refine with_tabW rows_without.tab5 rows_without.bits5 (fun HT_ HW_ => ?_)
             generalize wr.drew = w33 at HO_1 HO_5 BK165 HB hx166_0 hx166_1 hx166_2 hx166_3 hx166_4 hx166_5 hHeld ⊢
             refine pure_ (i := 0) (N := some 14) (v := ?_) (a' := ?_) #[T,F,F,F,F,F,F,F,F,F] rfl rfl (any_of HT_.out (by kernel_rfl)) (fun _ _ _ h => h) (Or.inl ⟨by rfl, ?_⟩) ?_ ?_
             rotate_left
             ·intro w'
              go_simp
              with_reducible rfl
             rotate_left
             ·simp only [Act.put, sa_, sz_, ss_, i64_w, i32_w]
              rfl
             refine pure_ (i := 1) (N := some 15) (v := ?_) (a' := ?_) #[T,T,F,F,F,F,F,F,F,F] rfl rfl (any_of HT_.out (by kernel_rfl)) (fun _ _ _ h => h) (Or.inl ⟨by rfl, ?_⟩) ?_ ?_
             rotate_left
             ·intro w'
              go_simp
              with_reducible rfl
             rotate_left
             ·simp only [Act.put, sa_, sz_, ss_, i64_w, i32_w]
              rfl
             refine pure_ (i := 2) (N := some 16) (v := ?_) (a' := ?_) #[T,T,T,F,F,F,F,F,F,F] rfl rfl (any_of HT_.out (by kernel_rfl)) (fun _ _ _ h => h) (Or.inl ⟨by rfl, ?_⟩) ?_ ?_
             rotate_left
             ·intro w'
              go_simp
              with_reducible rfl
             rotate_left
             ·simp only [Act.put, sa_, sz_, ss_, i64_w, i32_w]
              rfl
             refine pure_ (i := 3) (N := some 17) (v := ?_) (a' := ?_) #[T,T,T,T,F,F,F,F,F,F] rfl rfl (any_of HT_.out (by kernel_rfl)) (fun _ _ _ h => h) (Or.inl ⟨by rfl, ?_⟩) ?_ ?_
             rotate_left
             ·intro w'
              go_simp
              with_reducible rfl
             rotate_left
             ·simp only [Act.put, sa_, sz_, ss_, i64_w, i32_w]
              rfl
             refine pure_ (i := 4) (N := some 18) (v := ?_) (a' := ?_) #[T,T,T,T,T,F,F,F,F,F] rfl rfl (any_of HT_.out (by kernel_rfl)) (fun _ _ _ h => h) (Or.inl ⟨by rfl, ?_⟩) ?_ ?_
             rotate_left
             ·intro w'
              go_simp
              with_reducible rfl
             rotate_left
             ·simp only [Act.put, sa_, sz_, ss_, i64_w, i32_w]
              rfl
             refine pure_ (i := 5) (N := some 19) (v := ?_) (a' := ?_) #[T,T,T,T,T,T,F,F,F,F] rfl rfl (any_of HT_.out (by kernel_rfl)) (fun _ _ _ h => h) (Or.inl ⟨by rfl, ?_⟩) ?_ ?_
             rotate_left
             ·intro w'
              go_simp
              with_reducible rfl
             rotate_left
             ·simp only [Act.put, sa_, sz_, ss_, i64_w, i32_w]
              rfl
             refine take_ (i := 6) (N := some 20) (v := ?_) (a' := ?_) #[T,T,T,T,T,T,T,F,F,F] rfl rfl (take_ofW HT_.out HW_.out (by kernel_rfl)) (fun _ _ _ h => h) (Or.inl ⟨by rfl, ?_⟩) hHeld ?_ ?_
             rotate_left
             ·rintro w' ⟨s0, s1, s2, s3, s4, s5, s6, s7, s8, s9, s10, s11⟩
              go_simp
              with_reducible rfl
             rotate_left
             ·simp only [Act.put, sa_, sz_, ss_, i64_w, i32_w]
              rfl
             refine take_ (i := 7) (N := some 21) (v := ?_) (a' := ?_) #[T,T,T,T,T,T,T,T,F,F] rfl rfl (take_ofW HT_.out HW_.out (by kernel_rfl)) (fun _ _ _ h => h) (Or.inl ⟨by rfl, ?_⟩) hHeld ?_ ?_
             rotate_left
             ·rintro w' ⟨s0, s1, s2, s3, s4, s5, s6, s7, s8, s9, s10, s11⟩
              go_simp
              with_reducible rfl
             rotate_left
             ·simp only [Act.put, sa_, sz_, ss_, i64_w, i32_w]
              rfl
             refine one_ (i := 8) (N := some 22) #[T,T,T,T,T,T,T,T,T,F] rfl rfl (one_of HT_.out (by kernel_rfl)) (by decide) (fun K hK => ?_)
             refine goes_ Try.func43 (by kernel_rfl) rfl #[.agg #[.string ((rd_T41 x1_2 0).f0.f0), .string ((rd_T41 x1_2 0).f0.f1), .string ((rd_T41 x1_2 0).f1), .string ((rd_T41 x1_2 0).f2.f0), .string ((rd_T41 x1_2 0).f2.f1), .string ((rd_T41 x1_2 0).f2.f2)], .agg #[.string ((rd_T41 l0 x10_1).f0.f0), .string ((rd_T41 l0 x10_1).f0.f1), .string ((rd_T41 l0 x10_1).f1), .string ((rd_T41 l0 x10_1).f2.f0), .string ((rd_T41 l0 x10_1).f2.f1), .string ((rd_T41 l0 x10_1).f2.f2)]] (by rfl) rfl rfl (by (try simp only [List.map_toArray, List.map_cons, List.map_nil]); first | done | rfl | (simp only [List.length_drop, List.length_take]; rfl)) ?_
             with_reducible refine (tupl_Less.calls ((rd_T41 x1_2 0).f0.f0) ((rd_T41 x1_2 0).f0.f1) ((rd_T41 x1_2 0).f1) ((rd_T41 x1_2 0).f2.f0) ((rd_T41 x1_2 0).f2.f1) ((rd_T41 x1_2 0).f2.f2) ((rd_T41 l0 x10_1).f0.f0) ((rd_T41 l0 x10_1).f0.f1) ((rd_T41 l0 x10_1).f1) ((rd_T41 l0 x10_1).f2.f0) ((rd_T41 l0 x10_1).f2.f1) ((rd_T41 l0 x10_1).f2.f2) false _ A10.out).mono ?_
             rintro e w35 ⟨rfl, hb⟩
             have HS6_ := (hb.cell (World.block_lt_of_cell? _ _ (hHeld.2.2.2.2.2.2.1))).trans (hHeld.2.2.2.2.2.2.1)
             have HS7_ := (hb.cell (World.block_lt_of_cell? _ _ (hHeld.2.2.2.2.2.2.2.1))).trans (hHeld.2.2.2.2.2.2.2.1)
             have HS8_ := (hb.cell (World.block_lt_of_cell? _ _ (hHeld.2.2.2.2.2.2.2.2.1))).trans (hHeld.2.2.2.2.2.2.2.2.1)
             have HS9_ := (hb.cell (World.block_lt_of_cell? _ _ (hHeld.2.2.2.2.2.2.2.2.2.1))).trans (hHeld.2.2.2.2.2.2.2.2.2.1)
             have HS10_ := (hb.cell (World.block_lt_of_cell? _ _ (hHeld.2.2.2.2.2.2.2.2.2.2.1))).trans (hHeld.2.2.2.2.2.2.2.2.2.2.1)
             have HS11_ := (hb.cell (World.block_lt_of_cell? _ _ (hHeld.2.2.2.2.2.2.2.2.2.2.2))).trans (hHeld.2.2.2.2.2.2.2.2.2.2.2)
             refine ⟨_, rfl, ?_⟩
             have n0_ := Aside0.mk (Kd.V_below (by (with_reducible repeat (first | apply Kd.V_alloc | apply Kd.V_drewN | apply Kd.V_drew)); exact HO_1.out) hb)
             have n1_ := Aside0.mk (Kd.R_below (by (with_reducible repeat (first | apply Kd.R_alloc | apply Kd.R_drewN | apply Kd.R_drew)); exact HO_5.out) hb)
             have n2_ := Aside0.mk (blk_below (g := gb165) (o := .cells #[.string ((rd_T41 l0 x10_1).f0.f0), .string ((rd_T41 l0 x10_1).f0.f1), .string ((rd_T41 l0 x10_1).f1), .string ((rd_T41 l0 x10_1).f2.f0), .string ((rd_T41 l0 x10_1).f2.f1), .string ((rd_T41 l0 x10_1).f2.f2)] 41 (0, 0)) (by (with_reducible repeat (first | refine blk_drewN ?_ _ | refine blk_drew ?_ | refine blk_alloc ?_ _)); exact BK165.out) hb)
             have n3_ := Aside0.mk (below_step (by repeat (first | (with_reducible first | exact HB.out | apply below_alloc | apply pw_below_drewN | apply below_drew1 | refine below_set ?_ GE165.out) | exact HB.out)) hb)
             clear HO_1
             clear HO_5
             clear BK165
             clear HB
             have HO_1 := n0_
             have HO_5 := n1_
             have BK165 := n2_
             have HB := n3_
             clear n0_ n1_ n2_ n3_
             (try clear hb)
             (try clear hb2)
             (try clear hk)
             (try clear hi)
             refine hK.out _ _ ⟨(blk_cell BK165.out 0).trans rfl, (blk_cell BK165.out 1).trans rfl, (blk_cell BK165.out 2).trans rfl, (blk_cell BK165.out 3).trans rfl, (blk_cell BK165.out 4).trans rfl, (blk_cell BK165.out 5).trans rfl, HS6_, HS7_, HS8_, HS9_, HS10_, HS11_⟩ (fun hHeld => ?_)
             clear hK K
             refine norm_ (a' := ?_) ?_ ?_
             rotate_left
             ·show Act.put _ (some 22) _ = _
              simp only [Act.put, sa_, sz_, ss_, i64_w, i32_w]
              rfl
             refine pure_ (i := 9) (N := some 23) (v := ?_) (a' := ?_) #[T,T,T,T,T,T,T,T,T,T] rfl rfl (any_of HT_.out (by kernel_rfl)) (fun _ _ _ h => h) (Or.inl ⟨by rfl, ?_⟩) ?_ ?_
             rotate_left
             ·intro w'
              go_simp
              with_reducible rfl
             rotate_left
             ·simp only [Act.put, sa_, sz_, ss_, i64_w, i32_w]
              rfl
             refine done_ (done_of HT_.out (by kernel_rfl)) ?_
             try go_wp2
             have n0_ := Aside0.mk (Kd.V_drew HO_1.out)
             have n1_ := Aside0.mk (Kd.R_drew HO_5.out)
             have n2_ := Aside0.mk (blk_drew BK165.out)
             have n3_ := Aside0.mk (below_drew1 HB.out)
             clear HO_1
             clear HO_5
             clear BK165
             clear HB
             have HO_1 := n0_
             have HO_5 := n1_
             have BK165 := n2_
             have HB := n3_
             clear n0_ n1_ n2_ n3_
             have p176 : 0 ≤ (0 : Int) := (by omega)
             have q176 : 0 < (x1_2.length : Int) := of_decide_eq_true (by first | (with_reducible assumption) | assumption)
             obtain ⟨ad176, e176, hx176_0, hx176_1, hx176_2, hx176_3, hx176_4, hx176_5⟩ := at_T41 (Kd.V_reads' HO_1.out).2.2 0 p176 q176
             obtain rfl : ad166 = ad176 := (by injection e176)
             have qi176 : (0 < x1_2.length) = True := eq_true (by omega)
             (try rw [show ((0 : Int)).toNat = 0 from rfl] at hx176_0)
             (try rw [show 0 * 6 = 0 from rfl] at hx176_0)
             (try rw [Addr.add_zero'] at hx176_0)
             (try rw [show ((0 : Int)).toNat = 0 from rfl] at hx176_1)
             (try rw [show 0 * 6 = 0 from rfl] at hx176_1)
             (try rw [Addr.add_zero'] at hx176_1)
             (try rw [show ((0 : Int)).toNat = 0 from rfl] at hx176_2)
             (try rw [show 0 * 6 = 0 from rfl] at hx176_2)
             (try rw [Addr.add_zero'] at hx176_2)
             (try rw [show ((0 : Int)).toNat = 0 from rfl] at hx176_3)
             (try rw [show 0 * 6 = 0 from rfl] at hx176_3)
             (try rw [Addr.add_zero'] at hx176_3)
             (try rw [show ((0 : Int)).toNat = 0 from rfl] at hx176_4)
             (try rw [show 0 * 6 = 0 from rfl] at hx176_4)
             (try rw [Addr.add_zero'] at hx176_4)
             (try rw [show ((0 : Int)).toNat = 0 from rfl] at hx176_5)
             (try rw [show 0 * 6 = 0 from rfl] at hx176_5)
             (try rw [Addr.add_zero'] at hx176_5)
             replace p176 := eq_true p176
             replace q176 := eq_true q176
             refine start_ (n := 10) (S := fun w' => w'.cell? ⟨gb165, 0, none⟩ = some (.string ((rd_T41 l0 x10_1).f0.f0)) ∧ w'.cell? ⟨gb165, 1, none⟩ = some (.string ((rd_T41 l0 x10_1).f0.f1)) ∧ w'.cell? ⟨gb165, 2, none⟩ = some (.string ((rd_T41 l0 x10_1).f1)) ∧ w'.cell? ⟨gb165, 3, none⟩ = some (.string ((rd_T41 l0 x10_1).f2.f0)) ∧ w'.cell? ⟨gb165, 4, none⟩ = some (.string ((rd_T41 l0 x10_1).f2.f1)) ∧ w'.cell? ⟨gb165, 5, none⟩ = some (.string ((rd_T41 l0 x10_1).f2.f2)) ∧ w'.cell? ad166 = some (.string ((rd_T41 x1_2 0).f0.f0)) ∧ w'.cell? ⟨ad166.block, ad166.off + 1, none⟩ = some (.string ((rd_T41 x1_2 0).f0.f1)) ∧ w'.cell? ⟨ad166.block, ad166.off + 2, none⟩ = some (.string ((rd_T41 x1_2 0).f1)) ∧ w'.cell? ⟨ad166.block, ad166.off + 3, none⟩ = some (.string ((rd_T41 x1_2 0).f2.f0)) ∧ w'.cell? ⟨ad166.block, ad166.off + 4, none⟩ = some (.string ((rd_T41 x1_2 0).f2.f1)) ∧ w'.cell? ⟨ad166.block, ad166.off + 5, none⟩ = some (.string ((rd_T41 x1_2 0).f2.f2))) (ds := []) #[F,F,F,F,F,F,F,F,F,F] (by kernel_rfl) rfl rfl ⟨(blk_cell BK165.out 0).trans rfl, (blk_cell BK165.out 1).trans rfl, (blk_cell BK165.out 2).trans rfl, (blk_cell BK165.out 3).trans rfl, (blk_cell BK165.out 4).trans rfl, (blk_cell BK165.out 5).trans rfl, hx176_0, hx176_1, hx176_2, hx176_3, hx176_4, hx176_5⟩ (fun hHeld => ?_); refine with_tabW rows_without.tab7 rows_without.bits7 (fun HT_ HW_ => ?_)
             generalize w35.drew = w36 at HO_1 HO_5 BK165 HB hx176_0 hx176_1 hx176_2 hx176_3 hx176_4 hx176_5 hHeld ⊢
             refine pure_ (i := 0) (N := some 26) (v := ?_) (a' := ?_) #[T,F,F,F,F,F,F,F,F,F] rfl rfl (any_of HT_.out (by kernel_rfl)) (fun _ _ _ h => h) (Or.inl ⟨by rfl, ?_⟩) ?_ ?_
             rotate_left
             ·intro w'
              go_simp
              with_reducible rfl
             rotate_left
             ·simp only [Act.put, sa_, sz_, ss_, i64_w, i32_w]
              rfl
             refine pure_ (i := 1) (N := some 27) (v := ?_) (a' := ?_) #[T,T,F,F,F,F,F,F,F,F] rfl rfl (any_of HT_.out (by kernel_rfl)) (fun _ _ _ h => h) (Or.inl ⟨by rfl, ?_⟩) ?_ ?_
             rotate_left
             ·intro w'
              go_simp
              with_reducible rfl
             rotate_left
             ·simp only [Act.put, sa_, sz_, ss_, i64_w, i32_w]
              rfl
             refine pure_ (i := 2) (N := some 28) (v := ?_) (a' := ?_) #[T,T,T,F,F,F,F,F,F,F] rfl rfl (any_of HT_.out (by kernel_rfl)) (fun _ _ _ h => h) (Or.inl ⟨by rfl, ?_⟩) ?_ ?_
             rotate_left
             ·intro w'
              go_simp
              with_reducible rfl
             rotate_left
             ·simp only [Act.put, sa_, sz_, ss_, i64_w, i32_w]
              rfl
             refine pure_ (i := 3) (N := some 29) (v := ?_) (a' := ?_) #[T,T,T,T,F,F,F,F,F,F] rfl rfl (any_of HT_.out (by kernel_rfl)) (fun _ _ _ h => h) (Or.inl ⟨by rfl, ?_⟩) ?_ ?_
             rotate_left
             ·intro w'
              go_simp
              with_reducible rfl
             rotate_left
             ·simp only [Act.put, sa_, sz_, ss_, i64_w, i32_w]
              rfl
             refine pure_ (i := 4) (N := some 30) (v := ?_) (a' := ?_) #[T,T,T,T,T,F,F,F,F,F] rfl rfl (any_of HT_.out (by kernel_rfl)) (fun _ _ _ h => h) (Or.inl ⟨by rfl, ?_⟩) ?_ ?_
             rotate_left
             ·intro w'
              go_simp
              with_reducible rfl
             rotate_left
             ·simp only [Act.put, sa_, sz_, ss_, i64_w, i32_w]
              rfl
             refine pure_ (i := 5) (N := some 31) (v := ?_) (a' := ?_) #[T,T,T,T,T,T,F,F,F,F] rfl rfl (any_of HT_.out (by kernel_rfl)) (fun _ _ _ h => h) (Or.inl ⟨by rfl, ?_⟩) ?_ ?_
             rotate_left
             ·intro w'
              go_simp
              with_reducible rfl
             rotate_left
             ·simp only [Act.put, sa_, sz_, ss_, i64_w, i32_w]
              rfl
             refine take_ (i := 6) (N := some 32) (v := ?_) (a' := ?_) #[T,T,T,T,T,T,T,F,F,F] rfl rfl (take_ofW HT_.out HW_.out (by kernel_rfl)) (fun _ _ _ h => h) (Or.inl ⟨by rfl, ?_⟩) hHeld ?_ ?_
             rotate_left
             ·rintro w' ⟨s0, s1, s2, s3, s4, s5, s6, s7, s8, s9, s10, s11⟩
              go_simp
              with_reducible rfl
             rotate_left
             ·simp only [Act.put, sa_, sz_, ss_, i64_w, i32_w]
              rfl
             refine take_ (i := 7) (N := some 33) (v := ?_) (a' := ?_) #[T,T,T,T,T,T,T,T,F,F] rfl rfl (take_ofW HT_.out HW_.out (by kernel_rfl)) (fun _ _ _ h => h) (Or.inl ⟨by rfl, ?_⟩) hHeld ?_ ?_
             rotate_left
             ·rintro w' ⟨s0, s1, s2, s3, s4, s5, s6, s7, s8, s9, s10, s11⟩
              go_simp
              with_reducible rfl
             rotate_left
             ·simp only [Act.put, sa_, sz_, ss_, i64_w, i32_w]
              rfl
             refine pure_ (i := 8) (N := some 34) (v := ?_) (a' := ?_) #[T,T,T,T,T,T,T,T,T,F] rfl rfl (any_of HT_.out (by kernel_rfl)) (fun _ _ _ h => h) (Or.inl ⟨by rfl, ?_⟩) ?_ ?_
             rotate_left
             ·intro w'
              go_simp
              with_reducible rfl
             rotate_left
             ·simp only [Act.put, sa_, sz_, ss_, i64_w, i32_w]
              rfl
             refine pure_ (i := 9) (N := some 35) (v := ?_) (a' := ?_) #[T,T,T,T,T,T,T,T,T,T] rfl rfl (any_of HT_.out (by kernel_rfl)) (fun _ _ _ h => h) (Or.inl ⟨by rfl, ?_⟩) ?_ ?_
             rotate_left
             ·intro w'
              go_simp
              with_reducible rfl
             rotate_left
             ·simp only [Act.put, sa_, sz_, ss_, i64_w, i32_w]
              rfl
             refine done_ (done_of HT_.out (by kernel_rfl)) ?_
             try go_wp2
             go_roundg k2
             case measure => have := HK1.out; have := HK2.out; omega
             case rel => exact ⟨(x1_2), (x5_1), (wrap64 (x10_1 + 1)), (by first | rfl | (simp; done) | (simp [*]; done)), H', ⟨by have := HK1.out; have := HK2.out; omega⟩, ⟨by (with_reducible repeat (first | apply Kd.V_alloc | apply Kd.V_drewN | apply Kd.V_drew)); exact Kd.V_mono HO_1.out (fun _ hk => ⟨hk.1, hk.2.1⟩)⟩, ⟨by (with_reducible repeat (first | apply Kd.R_alloc | apply Kd.R_drewN | apply Kd.R_drew)); exact Kd.R_mono HO_5.out (fun _ hk => hk.1)⟩, ⟨by repeat (first | (with_reducible first | exact HB.out | apply below_alloc | apply pw_below_drewN | apply below_drew1 | refine below_set ?_ GE165.out) | exact HB.out)⟩⟩
         ·rw [if_neg c9] at H
          exact absurd H (by simp)
        ·rw [if_neg c8] at H
         have c8b0 : decide (0 < (x1_2.length : Int)) = false := decide_eq_false c8
         have c8b1 : decide (0 < x1_2.length) = false := decide_eq_false (by omega)
         clear c8
         by_cases c37 : (x1_2.length : Int) = 0
         ·rw [if_pos c37] at H
          have c37b0 : ((x1_2.length : Int) == 0) = true := beq_iff_eq.mpr c37
          have c37b1 : ((x1_2.length : Int) != 0) = false := bne_eq_false_iff_eq.mpr c37
          clear c37
          by_cases c38 : x5_1.length < 1466015503701
          ·rw [if_pos c38] at H
           have LMc38 := Aside0.mk c38
           clear c38
           obtain ⟨y180, hy180⟩ : ∃ y_ : List (S41), y_ = (x5_1 ++ [(⟨(⟨((rd_T41 l0 x10_1).f0.f0), ((rd_T41 l0 x10_1).f0.f1)⟩ : S37), ((rd_T41 l0 x10_1).f1), (⟨((rd_T41 l0 x10_1).f2.f0), ((rd_T41 l0 x10_1).f2.f1), ((rd_T41 l0 x10_1).f2.f2)⟩ : S39)⟩ : S41)]) := ⟨_, rfl⟩
           replace H : (rows_without.l0 k2 x1_2 y180 l0 (l0.length : Int) (wrap64 (x10_1 + 1))) = some r := by first | (rw [hy180]; with_reducible exact H) | (have H2_ := (Option.bind_some _ _).symm.trans H; rw [hy180]; with_reducible exact H2_) | (have H2_ := (Option.bind_some _ _).symm.trans H; with_reducible exact H2_) | with_reducible exact H | (rw [hy180]; exact H) | exact H
           have Ny180 := Aside0.mk hy180
           clear hy180
           have H' := Aside0.mk H
           clear H
           try go_wp2
           have n0_ := Aside0.mk (Kd.V_drew HO_1.out)
           have n1_ := Aside0.mk (Kd.R_drew HO_5.out)
           have n2_ := Aside0.mk (blk_drew BK165.out)
           have n3_ := Aside0.mk (below_drew1 HB.out)
           clear HO_1
           clear HO_5
           clear BK165
           clear HB
           have HO_1 := n0_
           have HO_5 := n1_
           have BK165 := n2_
           have HB := n3_
           clear n0_ n1_ n2_ n3_
           obtain ⟨Ao40, co40, eo40⟩ := Kd.V_slice HO_1.out
           (first | subst eo40 | (injection eo40 with f1_ f2_ f3_; have f4_ := f1_.symm; have f5_ := f3_.symm; clear f1_ f2_ f3_; subst f4_; subst f5_))
           refine start_ (n := 10) (S := fun w' => True) (ds := []) #[F,F,F,F,F,F,F,F,F,F] (by kernel_rfl) rfl rfl trivial (fun hHeld => ?_); refine with_tabW rows_without.tab5 rows_without.bits5 (fun HT_ HW_ => ?_)
           generalize wr.drew = w39 at HO_1 HO_5 BK165 HB hHeld ⊢
           refine pure_ (i := 0) (N := some 14) (v := ?_) (a' := ?_) #[T,F,F,F,F,F,F,F,F,F] rfl rfl (any_of HT_.out (by kernel_rfl)) (fun _ _ _ h => h) (Or.inl ⟨by rfl, ?_⟩) ?_ ?_
           rotate_left
           ·intro w'
            go_simp
            with_reducible rfl
           rotate_left
           ·simp only [Act.put, sa_, sz_, ss_, i64_w, i32_w]
            rfl
           refine pure_ (i := 1) (N := some 15) (v := ?_) (a' := ?_) #[T,T,F,F,F,F,F,F,F,F] rfl rfl (any_of HT_.out (by kernel_rfl)) (fun _ _ _ h => h) (Or.inl ⟨by rfl, ?_⟩) ?_ ?_
           rotate_left
           ·intro w'
            go_simp
            with_reducible rfl
           rotate_left
           ·simp only [Act.put, sa_, sz_, ss_, i64_w, i32_w]
            rfl
           refine pure_ (i := 2) (N := some 16) (v := ?_) (a' := ?_) #[T,T,T,F,F,F,F,F,F,F] rfl rfl (any_of HT_.out (by kernel_rfl)) (fun _ _ _ h => h) (Or.inl ⟨by rfl, ?_⟩) ?_ ?_
           rotate_left
           ·intro w'
            go_simp
            with_reducible rfl
           rotate_left
           ·simp only [Act.put, sa_, sz_, ss_, i64_w, i32_w]
            rfl
           refine pure_ (i := 3) (N := some 17) (v := ?_) (a' := ?_) #[T,T,T,T,F,F,F,F,F,F] rfl rfl (any_of HT_.out (by kernel_rfl)) (fun _ _ _ h => h) (Or.inl ⟨by rfl, ?_⟩) ?_ ?_
           rotate_left
           ·intro w'
            go_simp
            with_reducible rfl
           rotate_left
           ·simp only [Act.put, sa_, sz_, ss_, i64_w, i32_w]
            rfl
           refine pure_ (i := 4) (N := some 18) (v := undef) (a' := ?_) #[T,T,T,T,T,F,F,F,F,F] rfl rfl (any_of HT_.out (by kernel_rfl)) (fun _ _ _ h => h) (Or.inr ⟨by rfl, rfl⟩) ?_ ?_
           rotate_left
           ·simp only [Act.put, sa_, sz_, ss_, i64_w, i32_w]
            rfl
           refine pure_ (i := 5) (N := some 19) (v := undef) (a' := ?_) #[T,T,T,T,T,T,F,F,F,F] rfl rfl (any_of HT_.out (by kernel_rfl)) (fun _ _ _ h => h) (Or.inr ⟨by rfl, rfl⟩) ?_ ?_
           rotate_left
           ·simp only [Act.put, sa_, sz_, ss_, i64_w, i32_w]
            rfl
           refine pure_ (i := 6) (N := some 20) (v := undef) (a' := ?_) #[T,T,T,T,T,T,T,F,F,F] rfl rfl (any_of HT_.out (by kernel_rfl)) (fun _ _ _ h => h) (Or.inr ⟨by rfl, rfl⟩) ?_ ?_
           rotate_left
           ·simp only [Act.put, sa_, sz_, ss_, i64_w, i32_w]
            rfl
           refine pure_ (i := 7) (N := some 21) (v := undef) (a' := ?_) #[T,T,T,T,T,T,T,T,F,F] rfl rfl (any_of HT_.out (by kernel_rfl)) (fun _ _ _ h => h) (Or.inr ⟨by rfl, rfl⟩) ?_ ?_
           rotate_left
           ·simp only [Act.put, sa_, sz_, ss_, i64_w, i32_w]
            rfl
           refine pure_ (i := 8) (N := some 22) (v := undef) (a' := ?_) #[T,T,T,T,T,T,T,T,T,F] rfl rfl (any_of HT_.out (by kernel_rfl)) (fun _ _ _ h => h) (Or.inr ⟨by rfl, rfl⟩) ?_ ?_
           rotate_left
           ·simp only [Act.put, sa_, sz_, ss_, i64_w, i32_w]
            rfl
           refine pure_ (i := 9) (N := some 23) (v := ?_) (a' := ?_) #[T,T,T,T,T,T,T,T,T,T] rfl rfl (any_of HT_.out (by kernel_rfl)) (fun _ _ _ h => h) (Or.inl ⟨by rfl, ?_⟩) ?_ ?_
           rotate_left
           ·intro w'
            go_simp
            with_reducible rfl
           rotate_left
           ·simp only [Act.put, sa_, sz_, ss_, i64_w, i32_w]
            rfl
           refine done_ (done_of HT_.out (by kernel_rfl)) ?_
           try go_wp2
           have n0_ := Aside0.mk (Kd.V_drew HO_1.out)
           have n1_ := Aside0.mk (Kd.R_drew HO_5.out)
           have n2_ := Aside0.mk (blk_drew BK165.out)
           have n3_ := Aside0.mk (below_drew1 HB.out)
           clear HO_1
           clear HO_5
           clear BK165
           clear HB
           have HO_1 := n0_
           have HO_5 := n1_
           have BK165 := n2_
           have HB := n3_
           clear n0_ n1_ n2_ n3_
           refine start_ (n := 10) (S := fun w' => True) (ds := []) #[F,F,F,F,F,F,F,F,F,F] (by kernel_rfl) rfl rfl trivial (fun hHeld => ?_); refine with_tabW rows_without.tab7 rows_without.bits7 (fun HT_ HW_ => ?_)
           generalize w39.drew = w41 at HO_1 HO_5 BK165 HB hHeld ⊢
           refine pure_ (i := 0) (N := some 26) (v := ?_) (a' := ?_) #[T,F,F,F,F,F,F,F,F,F] rfl rfl (any_of HT_.out (by kernel_rfl)) (fun _ _ _ h => h) (Or.inl ⟨by rfl, ?_⟩) ?_ ?_
           rotate_left
           ·intro w'
            go_simp
            with_reducible rfl
           rotate_left
           ·simp only [Act.put, sa_, sz_, ss_, i64_w, i32_w]
            rfl
           refine pure_ (i := 1) (N := some 27) (v := ?_) (a' := ?_) #[T,T,F,F,F,F,F,F,F,F] rfl rfl (any_of HT_.out (by kernel_rfl)) (fun _ _ _ h => h) (Or.inl ⟨by rfl, ?_⟩) ?_ ?_
           rotate_left
           ·intro w'
            go_simp
            with_reducible rfl
           rotate_left
           ·simp only [Act.put, sa_, sz_, ss_, i64_w, i32_w]
            rfl
           refine pure_ (i := 2) (N := some 28) (v := ?_) (a' := ?_) #[T,T,T,F,F,F,F,F,F,F] rfl rfl (any_of HT_.out (by kernel_rfl)) (fun _ _ _ h => h) (Or.inl ⟨by rfl, ?_⟩) ?_ ?_
           rotate_left
           ·intro w'
            go_simp
            with_reducible rfl
           rotate_left
           ·simp only [Act.put, sa_, sz_, ss_, i64_w, i32_w]
            rfl
           refine pure_ (i := 3) (N := some 29) (v := ?_) (a' := ?_) #[T,T,T,T,F,F,F,F,F,F] rfl rfl (any_of HT_.out (by kernel_rfl)) (fun _ _ _ h => h) (Or.inl ⟨by rfl, ?_⟩) ?_ ?_
           rotate_left
           ·intro w'
            go_simp
            with_reducible rfl
           rotate_left
           ·simp only [Act.put, sa_, sz_, ss_, i64_w, i32_w]
            rfl
           refine pure_ (i := 4) (N := some 30) (v := undef) (a' := ?_) #[T,T,T,T,T,F,F,F,F,F] rfl rfl (any_of HT_.out (by kernel_rfl)) (fun _ _ _ h => h) (Or.inr ⟨by rfl, rfl⟩) ?_ ?_
           rotate_left
           ·simp only [Act.put, sa_, sz_, ss_, i64_w, i32_w]
            rfl
           refine pure_ (i := 5) (N := some 31) (v := undef) (a' := ?_) #[T,T,T,T,T,T,F,F,F,F] rfl rfl (any_of HT_.out (by kernel_rfl)) (fun _ _ _ h => h) (Or.inr ⟨by rfl, rfl⟩) ?_ ?_
           rotate_left
           ·simp only [Act.put, sa_, sz_, ss_, i64_w, i32_w]
            rfl
           refine pure_ (i := 6) (N := some 32) (v := undef) (a' := ?_) #[T,T,T,T,T,T,T,F,F,F] rfl rfl (any_of HT_.out (by kernel_rfl)) (fun _ _ _ h => h) (Or.inr ⟨by rfl, rfl⟩) ?_ ?_
           rotate_left
           ·simp only [Act.put, sa_, sz_, ss_, i64_w, i32_w]
            rfl
           refine pure_ (i := 7) (N := some 33) (v := undef) (a' := ?_) #[T,T,T,T,T,T,T,T,F,F] rfl rfl (any_of HT_.out (by kernel_rfl)) (fun _ _ _ h => h) (Or.inr ⟨by rfl, rfl⟩) ?_ ?_
           rotate_left
           ·simp only [Act.put, sa_, sz_, ss_, i64_w, i32_w]
            rfl
           refine pure_ (i := 8) (N := some 34) (v := undef) (a' := ?_) #[T,T,T,T,T,T,T,T,T,F] rfl rfl (any_of HT_.out (by kernel_rfl)) (fun _ _ _ h => h) (Or.inr ⟨by rfl, rfl⟩) ?_ ?_
           rotate_left
           ·simp only [Act.put, sa_, sz_, ss_, i64_w, i32_w]
            rfl
           refine pure_ (i := 9) (N := some 35) (v := ?_) (a' := ?_) #[T,T,T,T,T,T,T,T,T,T] rfl rfl (any_of HT_.out (by kernel_rfl)) (fun _ _ _ h => h) (Or.inl ⟨by rfl, ?_⟩) ?_ ?_
           rotate_left
           ·intro w'
            go_simp
            with_reducible rfl
           rotate_left
           ·simp only [Act.put, sa_, sz_, ss_, i64_w, i32_w]
            rfl
           refine done_ (done_of HT_.out (by kernel_rfl)) ?_
           have hcz42_0 : w41.cell? ⟨gb165, 0, none⟩ = some (.string ((rd_T41 l0 x10_1).f0.f0)) := (blk_cell BK165.out 0).trans rfl
           have hcz42_1 : w41.cell? ⟨gb165, 1, none⟩ = some (.string ((rd_T41 l0 x10_1).f0.f1)) := (blk_cell BK165.out 1).trans rfl
           have hcz42_2 : w41.cell? ⟨gb165, 2, none⟩ = some (.string ((rd_T41 l0 x10_1).f1)) := (blk_cell BK165.out 2).trans rfl
           have hcz42_3 : w41.cell? ⟨gb165, 3, none⟩ = some (.string ((rd_T41 l0 x10_1).f2.f0)) := (blk_cell BK165.out 3).trans rfl
           have hcz42_4 : w41.cell? ⟨gb165, 4, none⟩ = some (.string ((rd_T41 l0 x10_1).f2.f1)) := (blk_cell BK165.out 4).trans rfl
           have hcz42_5 : w41.cell? ⟨gb165, 5, none⟩ = some (.string ((rd_T41 l0 x10_1).f2.f2)) := (blk_cell BK165.out 5).trans rfl
           have hfz42_0 := blk_frozen BK165.out 0
           have hfz42_1 := blk_frozen BK165.out 1
           have hfz42_2 := blk_frozen BK165.out 2
           have hfz42_3 := blk_frozen BK165.out 3
           have hfz42_4 := blk_frozen BK165.out 4
           have hfz42_5 := blk_frozen BK165.out 5
           try go_wp2_with (first | ((with_reducible refine gate_builtin (b := .append) (xs := #[.tmp 36, .tmp 38]) rfl ?_); at_builtin; refine Kd.R_append k41 (w0 := w) w.heap.size rfl (.tmp 36) (.tmp 38) 23 41 (.agg #[(.string ⟨#[]⟩), (.string ⟨#[]⟩), (.string ⟨#[]⟩), (.string ⟨#[]⟩), (.string ⟨#[]⟩), (.string ⟨#[]⟩)]) 96 rfl Try.underlying23 info41 rfl (by decide) (by omega) u5 x5_1 (⟨(⟨((rd_T41 l0 x10_1).f0.f0), ((rd_T41 l0 x10_1).f0.f1)⟩ : S37), ((rd_T41 l0 x10_1).f1), (⟨((rd_T41 l0 x10_1).f2.f0), ((rd_T41 l0 x10_1).f2.f1), ((rd_T41 l0 x10_1).f2.f2)⟩ : S39)⟩ : S41) [.string ((rd_T41 l0 x10_1).f0.f0), .string ((rd_T41 l0 x10_1).f0.f1), .string ((rd_T41 l0 x10_1).f1), .string ((rd_T41 l0 x10_1).f2.f0), .string ((rd_T41 l0 x10_1).f2.f1), .string ((rd_T41 l0 x10_1).f2.f2)] (fun k_ => (w.heap.size ≤ k_) ∧ k_ ≠ gb165) (fun _ => False) rfl rfl ?aP (fun _ hk => hk.elim) ?aF ?aO ?aB ?aS ?aL ?_; (case aP => exact k41_mkM _ _ _ (⟨(⟨((rd_T41 l0 x10_1).f0.f0), ((rd_T41 l0 x10_1).f0.f1)⟩ : S37), ((rd_T41 l0 x10_1).f1), (⟨((rd_T41 l0 x10_1).f2.f0), ((rd_T41 l0 x10_1).f2.f1), ((rd_T41 l0 x10_1).f2.f2)⟩ : S39)⟩ : S41)); (case aB => exact (by repeat (first | (with_reducible first | exact HB.out | apply below_alloc | apply pw_below_drewN | apply below_drew1 | refine below_set ?_ GE165.out) | exact HB.out))); (case aF => exact (fun k_ hk => ⟨(Nat.le_trans (below_size (by repeat (first | (with_reducible first | exact HB.out | apply below_alloc | apply pw_below_drewN | apply below_drew1 | refine below_set ?_ GE165.out) | exact HB.out))) hk), Kd.freshB (g := gb165) (o := .cells #[.string ((rd_T41 l0 x10_1).f0.f0), .string ((rd_T41 l0 x10_1).f0.f1), .string ((rd_T41 l0 x10_1).f1), .string ((rd_T41 l0 x10_1).f2.f0), .string ((rd_T41 l0 x10_1).f2.f1), .string ((rd_T41 l0 x10_1).f2.f2)] 41 (0, 0)) (by (with_reducible repeat (first | refine blk_drewN ?_ _ | refine blk_drew ?_ | refine blk_alloc ?_ _)); exact BK165.out) k_ hk⟩)); (case aO => exact (by (with_reducible repeat (first | apply Kd.R_alloc | apply Kd.R_drewN | apply Kd.R_drew)); exact HO_5.out)); (case aS => exact (below_size (by repeat (first | (with_reducible first | exact HB.out | apply below_alloc | apply pw_below_drewN | apply below_drew1 | refine below_set ?_ GE165.out) | exact HB.out)))); (case aL => have := LMc38.out; omega); intro v181 w43 ho hb hg hat; rw [← Ny180.out] at ho; have n0_ := Aside0.mk (Kd.V_afterv (ok := (fun k_ => (P1_ k_ ∨ w.heap.size ≤ k_) ∧ k_ ≠ gb165)) (by (with_reducible repeat (first | apply Kd.V_alloc | apply Kd.V_drewN | apply Kd.V_drew)); exact Kd.V_mono HO_1.out (fun _ hk => ⟨⟨hk.1, hk.2.2⟩, hk.2.1⟩)) hg hat); have n1_ := Aside0.mk (blk_grown (g := gb165) (o := .cells #[.string ((rd_T41 l0 x10_1).f0.f0), .string ((rd_T41 l0 x10_1).f0.f1), .string ((rd_T41 l0 x10_1).f1), .string ((rd_T41 l0 x10_1).f2.f0), .string ((rd_T41 l0 x10_1).f2.f1), .string ((rd_T41 l0 x10_1).f2.f2)] 41 (0, 0)) (by (with_reducible repeat (first | refine blk_drewN ?_ _ | refine blk_drew ?_ | refine blk_alloc ?_ _)); exact BK165.out) hg (Kd.R_away HO_5.out (fun _ hk => hk.2))); have n2_ := Aside0.mk (hb); have n3_ := Aside0.mk (ho); clear HO_1; clear BK165; clear HB; clear HO_5; have HO_1 := n0_; have BK165 := n1_; have HB := n2_; have HO182 := n3_; clear n0_ n1_ n2_ n3_; clear ho hb hg hat))
           go_roundg k2
           case measure => have := HK1.out; have := HK2.out; omega
           case rel => exact ⟨(x1_2), (y180), (wrap64 (x10_1 + 1)), (by first | rfl | (simp; done) | (simp [*]; done)), H', ⟨by have := HK1.out; have := HK2.out; omega⟩, ⟨by (with_reducible repeat (first | apply Kd.V_alloc | apply Kd.V_drewN | apply Kd.V_drew)); exact Kd.V_mono HO_1.out (fun _ hk => ⟨hk.1.1, hk.2⟩)⟩, ⟨by (with_reducible repeat (first | apply Kd.R_alloc | apply Kd.R_drewN | apply Kd.R_drew)); exact Kd.R_mono HO182.out (fun _ hk => hk.1)⟩, ⟨by repeat (first | (with_reducible first | exact HB.out | apply below_alloc | apply pw_below_drewN | apply below_drew1 | refine below_set ?_ GE165.out) | exact HB.out)⟩⟩
          ·rw [if_neg c38] at H
           exact absurd H (by simp)
         ·rw [if_neg c37] at H
          have c37b0 : ((x1_2.length : Int) == 0) = false := beq_eq_false_iff_ne.mpr c37
          have c37b1 : ((x1_2.length : Int) != 0) = true := bne_iff_ne.mpr c37
          have c37b2 : ¬ (x1_2 = []) := fun h_ => c37 (by rw [h_]; rfl)
          by_cases c44 : 0 < (x1_2.length : Int)
          ·rw [if_pos c44] at H
           have c44b0 : decide (0 < (x1_2.length : Int)) = true := decide_eq_true c44
           have c44b1 : decide (0 < x1_2.length) = true := decide_eq_true (by omega)
           clear c44
           by_cases c45 : ((!((((rd_T41 x1_2 0).f0.f0).toList) == ((rd_T41 l0 x10_1).f0.f0).toList) || (!((((rd_T41 x1_2 0).f0.f1).toList) == ((rd_T41 l0 x10_1).f0.f1).toList))) || (!((((rd_T41 x1_2 0).f1).toList) == ((rd_T41 l0 x10_1).f1).toList) || ((!((((rd_T41 x1_2 0).f2.f0).toList) == ((rd_T41 l0 x10_1).f2.f0).toList) || (!((((rd_T41 x1_2 0).f2.f1).toList) == ((rd_T41 l0 x10_1).f2.f1).toList) || (!((((rd_T41 x1_2 0).f2.f2).toList) == ((rd_T41 l0 x10_1).f2.f2).toList))))))) = true
           ·rw [if_pos c45] at H
            have c45b0 : ((!((((rd_T41 x1_2 0).f0.f0).toList) == ((rd_T41 l0 x10_1).f0.f0).toList) || (!((((rd_T41 x1_2 0).f0.f1).toList) == ((rd_T41 l0 x10_1).f0.f1).toList))) || (!((((rd_T41 x1_2 0).f1).toList) == ((rd_T41 l0 x10_1).f1).toList) || ((!((((rd_T41 x1_2 0).f2.f0).toList) == ((rd_T41 l0 x10_1).f2.f0).toList) || (!((((rd_T41 x1_2 0).f2.f1).toList) == ((rd_T41 l0 x10_1).f2.f1).toList) || (!((((rd_T41 x1_2 0).f2.f2).toList) == ((rd_T41 l0 x10_1).f2.f2).toList))))))) = true := c45
            clear c45
            by_cases c46 : x5_1.length < 1466015503701
            ·rw [if_pos c46] at H
             have LMc46 := Aside0.mk c46
             clear c46
             obtain ⟨y184, hy184⟩ : ∃ y_ : List (S41), y_ = (x5_1 ++ [(⟨(⟨((rd_T41 l0 x10_1).f0.f0), ((rd_T41 l0 x10_1).f0.f1)⟩ : S37), ((rd_T41 l0 x10_1).f1), (⟨((rd_T41 l0 x10_1).f2.f0), ((rd_T41 l0 x10_1).f2.f1), ((rd_T41 l0 x10_1).f2.f2)⟩ : S39)⟩ : S41)]) := ⟨_, rfl⟩
             replace H : (rows_without.l0 k2 x1_2 y184 l0 (l0.length : Int) (wrap64 (x10_1 + 1))) = some r := by first | (rw [hy184]; with_reducible exact H) | (have H2_ := (Option.bind_some _ _).symm.trans H; rw [hy184]; with_reducible exact H2_) | (have H2_ := (Option.bind_some _ _).symm.trans H; with_reducible exact H2_) | with_reducible exact H | (rw [hy184]; exact H) | exact H
             have Ny184 := Aside0.mk hy184
             clear hy184
             have H' := Aside0.mk H
             clear H
             try go_wp2
             have n0_ := Aside0.mk (Kd.V_drew HO_1.out)
             have n1_ := Aside0.mk (Kd.R_drew HO_5.out)
             have n2_ := Aside0.mk (blk_drew BK165.out)
             have n3_ := Aside0.mk (below_drew1 HB.out)
             clear HO_1
             clear HO_5
             clear BK165
             clear HB
             have HO_1 := n0_
             have HO_5 := n1_
             have BK165 := n2_
             have HB := n3_
             clear n0_ n1_ n2_ n3_
             obtain ⟨Ao48, co48, eo48⟩ := Kd.V_slice HO_1.out
             (first | subst eo48 | (injection eo48 with f1_ f2_ f3_; have f4_ := f1_.symm; have f5_ := f3_.symm; clear f1_ f2_ f3_; subst f4_; subst f5_))
             refine start_ (n := 10) (S := fun w' => True) (ds := []) #[F,F,F,F,F,F,F,F,F,F] (by kernel_rfl) rfl rfl trivial (fun hHeld => ?_); refine with_tabW rows_without.tab5 rows_without.bits5 (fun HT_ HW_ => ?_)
             generalize wr.drew = w47 at HO_1 HO_5 BK165 HB hHeld ⊢
             refine pure_ (i := 0) (N := some 14) (v := ?_) (a' := ?_) #[T,F,F,F,F,F,F,F,F,F] rfl rfl (any_of HT_.out (by kernel_rfl)) (fun _ _ _ h => h) (Or.inl ⟨by rfl, ?_⟩) ?_ ?_
             rotate_left
             ·intro w'
              go_simp
              with_reducible rfl
             rotate_left
             ·simp only [Act.put, sa_, sz_, ss_, i64_w, i32_w]
              rfl
             refine pure_ (i := 1) (N := some 15) (v := ?_) (a' := ?_) #[T,T,F,F,F,F,F,F,F,F] rfl rfl (any_of HT_.out (by kernel_rfl)) (fun _ _ _ h => h) (Or.inl ⟨by rfl, ?_⟩) ?_ ?_
             rotate_left
             ·intro w'
              go_simp
              with_reducible rfl
             rotate_left
             ·simp only [Act.put, sa_, sz_, ss_, i64_w, i32_w]
              rfl
             refine pure_ (i := 2) (N := some 16) (v := ?_) (a' := ?_) #[T,T,T,F,F,F,F,F,F,F] rfl rfl (any_of HT_.out (by kernel_rfl)) (fun _ _ _ h => h) (Or.inl ⟨by rfl, ?_⟩) ?_ ?_
             rotate_left
             ·intro w'
              go_simp
              with_reducible rfl
             rotate_left
             ·simp only [Act.put, sa_, sz_, ss_, i64_w, i32_w]
              rfl
             refine pure_ (i := 3) (N := some 17) (v := ?_) (a' := ?_) #[T,T,T,T,F,F,F,F,F,F] rfl rfl (any_of HT_.out (by kernel_rfl)) (fun _ _ _ h => h) (Or.inl ⟨by rfl, ?_⟩) ?_ ?_
             rotate_left
             ·intro w'
              go_simp
              with_reducible rfl
             rotate_left
             ·simp only [Act.put, sa_, sz_, ss_, i64_w, i32_w]
              rfl
             refine pure_ (i := 4) (N := some 18) (v := undef) (a' := ?_) #[T,T,T,T,T,F,F,F,F,F] rfl rfl (any_of HT_.out (by kernel_rfl)) (fun _ _ _ h => h) (Or.inr ⟨by rfl, rfl⟩) ?_ ?_
             rotate_left
             ·simp only [Act.put, sa_, sz_, ss_, i64_w, i32_w]
              rfl
             refine pure_ (i := 5) (N := some 19) (v := undef) (a' := ?_) #[T,T,T,T,T,T,F,F,F,F] rfl rfl (any_of HT_.out (by kernel_rfl)) (fun _ _ _ h => h) (Or.inr ⟨by rfl, rfl⟩) ?_ ?_
             rotate_left
             ·simp only [Act.put, sa_, sz_, ss_, i64_w, i32_w]
              rfl
             refine pure_ (i := 6) (N := some 20) (v := undef) (a' := ?_) #[T,T,T,T,T,T,T,F,F,F] rfl rfl (any_of HT_.out (by kernel_rfl)) (fun _ _ _ h => h) (Or.inr ⟨by rfl, rfl⟩) ?_ ?_
             rotate_left
             ·simp only [Act.put, sa_, sz_, ss_, i64_w, i32_w]
              rfl
             refine pure_ (i := 7) (N := some 21) (v := undef) (a' := ?_) #[T,T,T,T,T,T,T,T,F,F] rfl rfl (any_of HT_.out (by kernel_rfl)) (fun _ _ _ h => h) (Or.inr ⟨by rfl, rfl⟩) ?_ ?_
             rotate_left
             ·simp only [Act.put, sa_, sz_, ss_, i64_w, i32_w]
              rfl
             refine pure_ (i := 8) (N := some 22) (v := undef) (a' := ?_) #[T,T,T,T,T,T,T,T,T,F] rfl rfl (any_of HT_.out (by kernel_rfl)) (fun _ _ _ h => h) (Or.inr ⟨by rfl, rfl⟩) ?_ ?_
             rotate_left
             ·simp only [Act.put, sa_, sz_, ss_, i64_w, i32_w]
              rfl
             refine pure_ (i := 9) (N := some 23) (v := ?_) (a' := ?_) #[T,T,T,T,T,T,T,T,T,T] rfl rfl (any_of HT_.out (by kernel_rfl)) (fun _ _ _ h => h) (Or.inl ⟨by rfl, ?_⟩) ?_ ?_
             rotate_left
             ·intro w'
              go_simp
              with_reducible rfl
             rotate_left
             ·simp only [Act.put, sa_, sz_, ss_, i64_w, i32_w]
              rfl
             refine done_ (done_of HT_.out (by kernel_rfl)) ?_
             try go_wp2
             have n0_ := Aside0.mk (Kd.V_drew HO_1.out)
             have n1_ := Aside0.mk (Kd.R_drew HO_5.out)
             have n2_ := Aside0.mk (blk_drew BK165.out)
             have n3_ := Aside0.mk (below_drew1 HB.out)
             clear HO_1
             clear HO_5
             clear BK165
             clear HB
             have HO_1 := n0_
             have HO_5 := n1_
             have BK165 := n2_
             have HB := n3_
             clear n0_ n1_ n2_ n3_
             have p183 : 0 ≤ (0 : Int) := (by omega)
             have q183 : 0 < (x1_2.length : Int) := of_decide_eq_true (by first | (with_reducible assumption) | assumption)
             obtain ⟨ad183, e183, hx183_0, hx183_1, hx183_2, hx183_3, hx183_4, hx183_5⟩ := at_T41 (Kd.V_reads' HO_1.out).2.2 0 p183 q183
             cases e183
             have qi183 : (0 < x1_2.length) = True := eq_true (by omega)
             (try rw [show ((0 : Int)).toNat = 0 from rfl] at hx183_0)
             (try rw [show 0 * 6 = 0 from rfl] at hx183_0)
             (try rw [Addr.add_zero'] at hx183_0)
             (try rw [show ((0 : Int)).toNat = 0 from rfl] at hx183_1)
             (try rw [show 0 * 6 = 0 from rfl] at hx183_1)
             (try rw [Addr.add_zero'] at hx183_1)
             (try rw [show ((0 : Int)).toNat = 0 from rfl] at hx183_2)
             (try rw [show 0 * 6 = 0 from rfl] at hx183_2)
             (try rw [Addr.add_zero'] at hx183_2)
             (try rw [show ((0 : Int)).toNat = 0 from rfl] at hx183_3)
             (try rw [show 0 * 6 = 0 from rfl] at hx183_3)
             (try rw [Addr.add_zero'] at hx183_3)
             (try rw [show ((0 : Int)).toNat = 0 from rfl] at hx183_4)
             (try rw [show 0 * 6 = 0 from rfl] at hx183_4)
             (try rw [Addr.add_zero'] at hx183_4)
             (try rw [show ((0 : Int)).toNat = 0 from rfl] at hx183_5)
             (try rw [show 0 * 6 = 0 from rfl] at hx183_5)
             (try rw [Addr.add_zero'] at hx183_5)
             replace p183 := eq_true p183
             replace q183 := eq_true q183
             refine start_ (n := 10) (S := fun w' => w'.cell? ⟨gb165, 0, none⟩ = some (.string ((rd_T41 l0 x10_1).f0.f0)) ∧ w'.cell? ⟨gb165, 1, none⟩ = some (.string ((rd_T41 l0 x10_1).f0.f1)) ∧ w'.cell? ⟨gb165, 2, none⟩ = some (.string ((rd_T41 l0 x10_1).f1)) ∧ w'.cell? ⟨gb165, 3, none⟩ = some (.string ((rd_T41 l0 x10_1).f2.f0)) ∧ w'.cell? ⟨gb165, 4, none⟩ = some (.string ((rd_T41 l0 x10_1).f2.f1)) ∧ w'.cell? ⟨gb165, 5, none⟩ = some (.string ((rd_T41 l0 x10_1).f2.f2)) ∧ w'.cell? ad183 = some (.string ((rd_T41 x1_2 0).f0.f0)) ∧ w'.cell? ⟨ad183.block, ad183.off + 1, none⟩ = some (.string ((rd_T41 x1_2 0).f0.f1)) ∧ w'.cell? ⟨ad183.block, ad183.off + 2, none⟩ = some (.string ((rd_T41 x1_2 0).f1)) ∧ w'.cell? ⟨ad183.block, ad183.off + 3, none⟩ = some (.string ((rd_T41 x1_2 0).f2.f0)) ∧ w'.cell? ⟨ad183.block, ad183.off + 4, none⟩ = some (.string ((rd_T41 x1_2 0).f2.f1)) ∧ w'.cell? ⟨ad183.block, ad183.off + 5, none⟩ = some (.string ((rd_T41 x1_2 0).f2.f2))) (ds := []) #[F,F,F,F,F,F,F,F,F,F] (by kernel_rfl) rfl rfl ⟨(blk_cell BK165.out 0).trans rfl, (blk_cell BK165.out 1).trans rfl, (blk_cell BK165.out 2).trans rfl, (blk_cell BK165.out 3).trans rfl, (blk_cell BK165.out 4).trans rfl, (blk_cell BK165.out 5).trans rfl, hx183_0, hx183_1, hx183_2, hx183_3, hx183_4, hx183_5⟩ (fun hHeld => ?_); refine with_tabW rows_without.tab7 rows_without.bits7 (fun HT_ HW_ => ?_)
             generalize w47.drew = w49 at HO_1 HO_5 BK165 HB hx183_0 hx183_1 hx183_2 hx183_3 hx183_4 hx183_5 hHeld ⊢
             refine pure_ (i := 0) (N := some 26) (v := ?_) (a' := ?_) #[T,F,F,F,F,F,F,F,F,F] rfl rfl (any_of HT_.out (by kernel_rfl)) (fun _ _ _ h => h) (Or.inl ⟨by rfl, ?_⟩) ?_ ?_
             rotate_left
             ·intro w'
              go_simp
              with_reducible rfl
             rotate_left
             ·simp only [Act.put, sa_, sz_, ss_, i64_w, i32_w]
              rfl
             refine pure_ (i := 1) (N := some 27) (v := ?_) (a' := ?_) #[T,T,F,F,F,F,F,F,F,F] rfl rfl (any_of HT_.out (by kernel_rfl)) (fun _ _ _ h => h) (Or.inl ⟨by rfl, ?_⟩) ?_ ?_
             rotate_left
             ·intro w'
              go_simp
              with_reducible rfl
             rotate_left
             ·simp only [Act.put, sa_, sz_, ss_, i64_w, i32_w]
              rfl
             refine pure_ (i := 2) (N := some 28) (v := ?_) (a' := ?_) #[T,T,T,F,F,F,F,F,F,F] rfl rfl (any_of HT_.out (by kernel_rfl)) (fun _ _ _ h => h) (Or.inl ⟨by rfl, ?_⟩) ?_ ?_
             rotate_left
             ·intro w'
              go_simp
              with_reducible rfl
             rotate_left
             ·simp only [Act.put, sa_, sz_, ss_, i64_w, i32_w]
              rfl
             refine pure_ (i := 3) (N := some 29) (v := ?_) (a' := ?_) #[T,T,T,T,F,F,F,F,F,F] rfl rfl (any_of HT_.out (by kernel_rfl)) (fun _ _ _ h => h) (Or.inl ⟨by rfl, ?_⟩) ?_ ?_
             rotate_left
             ·intro w'
              go_simp
              with_reducible rfl
             rotate_left
             ·simp only [Act.put, sa_, sz_, ss_, i64_w, i32_w]
              rfl
             refine pure_ (i := 4) (N := some 30) (v := ?_) (a' := ?_) #[T,T,T,T,T,F,F,F,F,F] rfl rfl (any_of HT_.out (by kernel_rfl)) (fun _ _ _ h => h) (Or.inl ⟨by rfl, ?_⟩) ?_ ?_
             rotate_left
             ·intro w'
              go_simp
              with_reducible rfl
             rotate_left
             ·simp only [Act.put, sa_, sz_, ss_, i64_w, i32_w]
              rfl
             refine pure_ (i := 5) (N := some 31) (v := ?_) (a' := ?_) #[T,T,T,T,T,T,F,F,F,F] rfl rfl (any_of HT_.out (by kernel_rfl)) (fun _ _ _ h => h) (Or.inl ⟨by rfl, ?_⟩) ?_ ?_
             rotate_left
             ·intro w'
              go_simp
              with_reducible rfl
             rotate_left
             ·simp only [Act.put, sa_, sz_, ss_, i64_w, i32_w]
              rfl
             refine take_ (i := 6) (N := some 32) (v := ?_) (a' := ?_) #[T,T,T,T,T,T,T,F,F,F] rfl rfl (take_ofW HT_.out HW_.out (by kernel_rfl)) (fun _ _ _ h => h) (Or.inl ⟨by rfl, ?_⟩) hHeld ?_ ?_
             rotate_left
             ·rintro w' ⟨s0, s1, s2, s3, s4, s5, s6, s7, s8, s9, s10, s11⟩
              go_simp
              with_reducible rfl
             rotate_left
             ·simp only [Act.put, sa_, sz_, ss_, i64_w, i32_w]
              rfl
             refine take_ (i := 7) (N := some 33) (v := ?_) (a' := ?_) #[T,T,T,T,T,T,T,T,F,F] rfl rfl (take_ofW HT_.out HW_.out (by kernel_rfl)) (fun _ _ _ h => h) (Or.inl ⟨by rfl, ?_⟩) hHeld ?_ ?_
             rotate_left
             ·rintro w' ⟨s0, s1, s2, s3, s4, s5, s6, s7, s8, s9, s10, s11⟩
              go_simp
              with_reducible rfl
             rotate_left
             ·simp only [Act.put, sa_, sz_, ss_, i64_w, i32_w]
              rfl
             refine pure_ (i := 8) (N := some 34) (v := ?_) (a' := ?_) #[T,T,T,T,T,T,T,T,T,F] rfl rfl (any_of HT_.out (by kernel_rfl)) (fun _ _ _ h => h) (Or.inl ⟨by rfl, ?_⟩) ?_ ?_
             rotate_left
             ·intro w'
              go_simp
              with_reducible rfl
             rotate_left
             ·simp only [Act.put, sa_, sz_, ss_, i64_w, i32_w]
              rfl
             refine pure_ (i := 9) (N := some 35) (v := ?_) (a' := ?_) #[T,T,T,T,T,T,T,T,T,T] rfl rfl (any_of HT_.out (by kernel_rfl)) (fun _ _ _ h => h) (Or.inl ⟨by rfl, ?_⟩) ?_ ?_
             rotate_left
             ·intro w'
              go_simp
              with_reducible rfl
             rotate_left
             ·simp only [Act.put, sa_, sz_, ss_, i64_w, i32_w]
              rfl
             refine done_ (done_of HT_.out (by kernel_rfl)) ?_
             have hcz50_0 : w49.cell? ⟨gb165, 0, none⟩ = some (.string ((rd_T41 l0 x10_1).f0.f0)) := (blk_cell BK165.out 0).trans rfl
             have hcz50_1 : w49.cell? ⟨gb165, 1, none⟩ = some (.string ((rd_T41 l0 x10_1).f0.f1)) := (blk_cell BK165.out 1).trans rfl
             have hcz50_2 : w49.cell? ⟨gb165, 2, none⟩ = some (.string ((rd_T41 l0 x10_1).f1)) := (blk_cell BK165.out 2).trans rfl
             have hcz50_3 : w49.cell? ⟨gb165, 3, none⟩ = some (.string ((rd_T41 l0 x10_1).f2.f0)) := (blk_cell BK165.out 3).trans rfl
             have hcz50_4 : w49.cell? ⟨gb165, 4, none⟩ = some (.string ((rd_T41 l0 x10_1).f2.f1)) := (blk_cell BK165.out 4).trans rfl
             have hcz50_5 : w49.cell? ⟨gb165, 5, none⟩ = some (.string ((rd_T41 l0 x10_1).f2.f2)) := (blk_cell BK165.out 5).trans rfl
             have hfz50_0 := blk_frozen BK165.out 0
             have hfz50_1 := blk_frozen BK165.out 1
             have hfz50_2 := blk_frozen BK165.out 2
             have hfz50_3 := blk_frozen BK165.out 3
             have hfz50_4 := blk_frozen BK165.out 4
             have hfz50_5 := blk_frozen BK165.out 5
             try go_wp2_with (first | ((with_reducible refine gate_builtin (b := .append) (xs := #[.tmp 36, .tmp 38]) rfl ?_); at_builtin; refine Kd.R_append k41 (w0 := w) w.heap.size rfl (.tmp 36) (.tmp 38) 23 41 (.agg #[(.string ⟨#[]⟩), (.string ⟨#[]⟩), (.string ⟨#[]⟩), (.string ⟨#[]⟩), (.string ⟨#[]⟩), (.string ⟨#[]⟩)]) 96 rfl Try.underlying23 info41 rfl (by decide) (by omega) u5 x5_1 (⟨(⟨((rd_T41 l0 x10_1).f0.f0), ((rd_T41 l0 x10_1).f0.f1)⟩ : S37), ((rd_T41 l0 x10_1).f1), (⟨((rd_T41 l0 x10_1).f2.f0), ((rd_T41 l0 x10_1).f2.f1), ((rd_T41 l0 x10_1).f2.f2)⟩ : S39)⟩ : S41) [.string ((rd_T41 l0 x10_1).f0.f0), .string ((rd_T41 l0 x10_1).f0.f1), .string ((rd_T41 l0 x10_1).f1), .string ((rd_T41 l0 x10_1).f2.f0), .string ((rd_T41 l0 x10_1).f2.f1), .string ((rd_T41 l0 x10_1).f2.f2)] (fun k_ => (w.heap.size ≤ k_) ∧ k_ ≠ gb165) (fun _ => False) rfl rfl ?aP (fun _ hk => hk.elim) ?aF ?aO ?aB ?aS ?aL ?_; (case aP => exact k41_mkM _ _ _ (⟨(⟨((rd_T41 l0 x10_1).f0.f0), ((rd_T41 l0 x10_1).f0.f1)⟩ : S37), ((rd_T41 l0 x10_1).f1), (⟨((rd_T41 l0 x10_1).f2.f0), ((rd_T41 l0 x10_1).f2.f1), ((rd_T41 l0 x10_1).f2.f2)⟩ : S39)⟩ : S41)); (case aB => exact (by repeat (first | (with_reducible first | exact HB.out | apply below_alloc | apply pw_below_drewN | apply below_drew1 | refine below_set ?_ GE165.out) | exact HB.out))); (case aF => exact (fun k_ hk => ⟨(Nat.le_trans (below_size (by repeat (first | (with_reducible first | exact HB.out | apply below_alloc | apply pw_below_drewN | apply below_drew1 | refine below_set ?_ GE165.out) | exact HB.out))) hk), Kd.freshB (g := gb165) (o := .cells #[.string ((rd_T41 l0 x10_1).f0.f0), .string ((rd_T41 l0 x10_1).f0.f1), .string ((rd_T41 l0 x10_1).f1), .string ((rd_T41 l0 x10_1).f2.f0), .string ((rd_T41 l0 x10_1).f2.f1), .string ((rd_T41 l0 x10_1).f2.f2)] 41 (0, 0)) (by (with_reducible repeat (first | refine blk_drewN ?_ _ | refine blk_drew ?_ | refine blk_alloc ?_ _)); exact BK165.out) k_ hk⟩)); (case aO => exact (by (with_reducible repeat (first | apply Kd.R_alloc | apply Kd.R_drewN | apply Kd.R_drew)); exact HO_5.out)); (case aS => exact (below_size (by repeat (first | (with_reducible first | exact HB.out | apply below_alloc | apply pw_below_drewN | apply below_drew1 | refine below_set ?_ GE165.out) | exact HB.out)))); (case aL => have := LMc46.out; omega); intro v185 w51 ho hb hg hat; rw [← Ny184.out] at ho; have n0_ := Aside0.mk (Kd.V_afterv (ok := (fun k_ => (P1_ k_ ∨ w.heap.size ≤ k_) ∧ k_ ≠ gb165)) (by (with_reducible repeat (first | apply Kd.V_alloc | apply Kd.V_drewN | apply Kd.V_drew)); exact Kd.V_mono HO_1.out (fun _ hk => ⟨⟨hk.1, hk.2.2⟩, hk.2.1⟩)) hg hat); have n1_ := Aside0.mk (blk_grown (g := gb165) (o := .cells #[.string ((rd_T41 l0 x10_1).f0.f0), .string ((rd_T41 l0 x10_1).f0.f1), .string ((rd_T41 l0 x10_1).f1), .string ((rd_T41 l0 x10_1).f2.f0), .string ((rd_T41 l0 x10_1).f2.f1), .string ((rd_T41 l0 x10_1).f2.f2)] 41 (0, 0)) (by (with_reducible repeat (first | refine blk_drewN ?_ _ | refine blk_drew ?_ | refine blk_alloc ?_ _)); exact BK165.out) hg (Kd.R_away HO_5.out (fun _ hk => hk.2))); have n2_ := Aside0.mk (hb); have n3_ := Aside0.mk (ho); clear HO_1; clear BK165; clear HB; clear HO_5; have HO_1 := n0_; have BK165 := n1_; have HB := n2_; have HO186 := n3_; clear n0_ n1_ n2_ n3_; clear ho hb hg hat))
             go_roundg k2
             case measure => have := HK1.out; have := HK2.out; omega
             case rel => exact ⟨(x1_2), (y184), (wrap64 (x10_1 + 1)), (by first | rfl | (simp; done) | (simp [*]; done)), H', ⟨by have := HK1.out; have := HK2.out; omega⟩, ⟨by (with_reducible repeat (first | apply Kd.V_alloc | apply Kd.V_drewN | apply Kd.V_drew)); exact Kd.V_mono HO_1.out (fun _ hk => ⟨hk.1.1, hk.2⟩)⟩, ⟨by (with_reducible repeat (first | apply Kd.R_alloc | apply Kd.R_drewN | apply Kd.R_drew)); exact Kd.R_mono HO186.out (fun _ hk => hk.1)⟩, ⟨by repeat (first | (with_reducible first | exact HB.out | apply below_alloc | apply pw_below_drewN | apply below_drew1 | refine below_set ?_ GE165.out) | exact HB.out)⟩⟩
            ·rw [if_neg c46] at H
             exact absurd H (by simp)
           ·rw [if_neg c45] at H
            have c45b0 : ((!((((rd_T41 x1_2 0).f0.f0).toList) == ((rd_T41 l0 x10_1).f0.f0).toList) || (!((((rd_T41 x1_2 0).f0.f1).toList) == ((rd_T41 l0 x10_1).f0.f1).toList))) || (!((((rd_T41 x1_2 0).f1).toList) == ((rd_T41 l0 x10_1).f1).toList) || ((!((((rd_T41 x1_2 0).f2.f0).toList) == ((rd_T41 l0 x10_1).f2.f0).toList) || (!((((rd_T41 x1_2 0).f2.f1).toList) == ((rd_T41 l0 x10_1).f2.f1).toList) || (!((((rd_T41 x1_2 0).f2.f2).toList) == ((rd_T41 l0 x10_1).f2.f2).toList))))))) = false := by simpa using c45
            clear c45
            have H' := Aside0.mk H
            clear H
            try go_wp2
            have n0_ := Aside0.mk (Kd.V_drew HO_1.out)
            have n1_ := Aside0.mk (Kd.R_drew HO_5.out)
            have n2_ := Aside0.mk (blk_drew BK165.out)
            have n3_ := Aside0.mk (below_drew1 HB.out)
            clear HO_1
            clear HO_5
            clear BK165
            clear HB
            have HO_1 := n0_
            have HO_5 := n1_
            have BK165 := n2_
            have HB := n3_
            clear n0_ n1_ n2_ n3_
            obtain ⟨Ao53, co53, eo53⟩ := Kd.V_slice HO_1.out
            (first | subst eo53 | (injection eo53 with f1_ f2_ f3_; have f4_ := f1_.symm; have f5_ := f3_.symm; clear f1_ f2_ f3_; subst f4_; subst f5_))
            refine start_ (n := 10) (S := fun w' => True) (ds := []) #[F,F,F,F,F,F,F,F,F,F] (by kernel_rfl) rfl rfl trivial (fun hHeld => ?_); refine with_tabW rows_without.tab5 rows_without.bits5 (fun HT_ HW_ => ?_)
            generalize wr.drew = w52 at HO_1 HO_5 BK165 HB hHeld ⊢
            refine pure_ (i := 0) (N := some 14) (v := ?_) (a' := ?_) #[T,F,F,F,F,F,F,F,F,F] rfl rfl (any_of HT_.out (by kernel_rfl)) (fun _ _ _ h => h) (Or.inl ⟨by rfl, ?_⟩) ?_ ?_
            rotate_left
            ·intro w'
             go_simp
             with_reducible rfl
            rotate_left
            ·simp only [Act.put, sa_, sz_, ss_, i64_w, i32_w]
             rfl
            refine pure_ (i := 1) (N := some 15) (v := ?_) (a' := ?_) #[T,T,F,F,F,F,F,F,F,F] rfl rfl (any_of HT_.out (by kernel_rfl)) (fun _ _ _ h => h) (Or.inl ⟨by rfl, ?_⟩) ?_ ?_
            rotate_left
            ·intro w'
             go_simp
             with_reducible rfl
            rotate_left
            ·simp only [Act.put, sa_, sz_, ss_, i64_w, i32_w]
             rfl
            refine pure_ (i := 2) (N := some 16) (v := ?_) (a' := ?_) #[T,T,T,F,F,F,F,F,F,F] rfl rfl (any_of HT_.out (by kernel_rfl)) (fun _ _ _ h => h) (Or.inl ⟨by rfl, ?_⟩) ?_ ?_
            rotate_left
            ·intro w'
             go_simp
             with_reducible rfl
            rotate_left
            ·simp only [Act.put, sa_, sz_, ss_, i64_w, i32_w]
             rfl
            refine pure_ (i := 3) (N := some 17) (v := ?_) (a' := ?_) #[T,T,T,T,F,F,F,F,F,F] rfl rfl (any_of HT_.out (by kernel_rfl)) (fun _ _ _ h => h) (Or.inl ⟨by rfl, ?_⟩) ?_ ?_
            rotate_left
            ·intro w'
             go_simp
             with_reducible rfl
            rotate_left
            ·simp only [Act.put, sa_, sz_, ss_, i64_w, i32_w]
             rfl
            refine pure_ (i := 4) (N := some 18) (v := undef) (a' := ?_) #[T,T,T,T,T,F,F,F,F,F] rfl rfl (any_of HT_.out (by kernel_rfl)) (fun _ _ _ h => h) (Or.inr ⟨by rfl, rfl⟩) ?_ ?_
            rotate_left
            ·simp only [Act.put, sa_, sz_, ss_, i64_w, i32_w]
             rfl
            refine pure_ (i := 5) (N := some 19) (v := undef) (a' := ?_) #[T,T,T,T,T,T,F,F,F,F] rfl rfl (any_of HT_.out (by kernel_rfl)) (fun _ _ _ h => h) (Or.inr ⟨by rfl, rfl⟩) ?_ ?_
            rotate_left
            ·simp only [Act.put, sa_, sz_, ss_, i64_w, i32_w]
             rfl
            refine pure_ (i := 6) (N := some 20) (v := undef) (a' := ?_) #[T,T,T,T,T,T,T,F,F,F] rfl rfl (any_of HT_.out (by kernel_rfl)) (fun _ _ _ h => h) (Or.inr ⟨by rfl, rfl⟩) ?_ ?_
            rotate_left
            ·simp only [Act.put, sa_, sz_, ss_, i64_w, i32_w]
             rfl
            refine pure_ (i := 7) (N := some 21) (v := undef) (a' := ?_) #[T,T,T,T,T,T,T,T,F,F] rfl rfl (any_of HT_.out (by kernel_rfl)) (fun _ _ _ h => h) (Or.inr ⟨by rfl, rfl⟩) ?_ ?_
            rotate_left
            ·simp only [Act.put, sa_, sz_, ss_, i64_w, i32_w]
             rfl
            refine pure_ (i := 8) (N := some 22) (v := undef) (a' := ?_) #[T,T,T,T,T,T,T,T,T,F] rfl rfl (any_of HT_.out (by kernel_rfl)) (fun _ _ _ h => h) (Or.inr ⟨by rfl, rfl⟩) ?_ ?_
            rotate_left
            ·simp only [Act.put, sa_, sz_, ss_, i64_w, i32_w]
             rfl
            refine pure_ (i := 9) (N := some 23) (v := ?_) (a' := ?_) #[T,T,T,T,T,T,T,T,T,T] rfl rfl (any_of HT_.out (by kernel_rfl)) (fun _ _ _ h => h) (Or.inl ⟨by rfl, ?_⟩) ?_ ?_
            rotate_left
            ·intro w'
             go_simp
             with_reducible rfl
            rotate_left
            ·simp only [Act.put, sa_, sz_, ss_, i64_w, i32_w]
             rfl
            refine done_ (done_of HT_.out (by kernel_rfl)) ?_
            try go_wp2
            have n0_ := Aside0.mk (Kd.V_drew HO_1.out)
            have n1_ := Aside0.mk (Kd.R_drew HO_5.out)
            have n2_ := Aside0.mk (blk_drew BK165.out)
            have n3_ := Aside0.mk (below_drew1 HB.out)
            clear HO_1
            clear HO_5
            clear BK165
            clear HB
            have HO_1 := n0_
            have HO_5 := n1_
            have BK165 := n2_
            have HB := n3_
            clear n0_ n1_ n2_ n3_
            have p183 : 0 ≤ (0 : Int) := (by omega)
            have q183 : 0 < (x1_2.length : Int) := of_decide_eq_true (by first | (with_reducible assumption) | assumption)
            obtain ⟨ad183, e183, hx183_0, hx183_1, hx183_2, hx183_3, hx183_4, hx183_5⟩ := at_T41 (Kd.V_reads' HO_1.out).2.2 0 p183 q183
            cases e183
            have qi183 : (0 < x1_2.length) = True := eq_true (by omega)
            (try rw [show ((0 : Int)).toNat = 0 from rfl] at hx183_0)
            (try rw [show 0 * 6 = 0 from rfl] at hx183_0)
            (try rw [Addr.add_zero'] at hx183_0)
            (try rw [show ((0 : Int)).toNat = 0 from rfl] at hx183_1)
            (try rw [show 0 * 6 = 0 from rfl] at hx183_1)
            (try rw [Addr.add_zero'] at hx183_1)
            (try rw [show ((0 : Int)).toNat = 0 from rfl] at hx183_2)
            (try rw [show 0 * 6 = 0 from rfl] at hx183_2)
            (try rw [Addr.add_zero'] at hx183_2)
            (try rw [show ((0 : Int)).toNat = 0 from rfl] at hx183_3)
            (try rw [show 0 * 6 = 0 from rfl] at hx183_3)
            (try rw [Addr.add_zero'] at hx183_3)
            (try rw [show ((0 : Int)).toNat = 0 from rfl] at hx183_4)
            (try rw [show 0 * 6 = 0 from rfl] at hx183_4)
            (try rw [Addr.add_zero'] at hx183_4)
            (try rw [show ((0 : Int)).toNat = 0 from rfl] at hx183_5)
            (try rw [show 0 * 6 = 0 from rfl] at hx183_5)
            (try rw [Addr.add_zero'] at hx183_5)
            replace p183 := eq_true p183
            replace q183 := eq_true q183
            refine start_ (n := 10) (S := fun w' => w'.cell? ⟨gb165, 0, none⟩ = some (.string ((rd_T41 l0 x10_1).f0.f0)) ∧ w'.cell? ⟨gb165, 1, none⟩ = some (.string ((rd_T41 l0 x10_1).f0.f1)) ∧ w'.cell? ⟨gb165, 2, none⟩ = some (.string ((rd_T41 l0 x10_1).f1)) ∧ w'.cell? ⟨gb165, 3, none⟩ = some (.string ((rd_T41 l0 x10_1).f2.f0)) ∧ w'.cell? ⟨gb165, 4, none⟩ = some (.string ((rd_T41 l0 x10_1).f2.f1)) ∧ w'.cell? ⟨gb165, 5, none⟩ = some (.string ((rd_T41 l0 x10_1).f2.f2)) ∧ w'.cell? ad183 = some (.string ((rd_T41 x1_2 0).f0.f0)) ∧ w'.cell? ⟨ad183.block, ad183.off + 1, none⟩ = some (.string ((rd_T41 x1_2 0).f0.f1)) ∧ w'.cell? ⟨ad183.block, ad183.off + 2, none⟩ = some (.string ((rd_T41 x1_2 0).f1)) ∧ w'.cell? ⟨ad183.block, ad183.off + 3, none⟩ = some (.string ((rd_T41 x1_2 0).f2.f0)) ∧ w'.cell? ⟨ad183.block, ad183.off + 4, none⟩ = some (.string ((rd_T41 x1_2 0).f2.f1)) ∧ w'.cell? ⟨ad183.block, ad183.off + 5, none⟩ = some (.string ((rd_T41 x1_2 0).f2.f2))) (ds := []) #[F,F,F,F,F,F,F,F,F,F] (by kernel_rfl) rfl rfl ⟨(blk_cell BK165.out 0).trans rfl, (blk_cell BK165.out 1).trans rfl, (blk_cell BK165.out 2).trans rfl, (blk_cell BK165.out 3).trans rfl, (blk_cell BK165.out 4).trans rfl, (blk_cell BK165.out 5).trans rfl, hx183_0, hx183_1, hx183_2, hx183_3, hx183_4, hx183_5⟩ (fun hHeld => ?_); refine with_tabW rows_without.tab7 rows_without.bits7 (fun HT_ HW_ => ?_)
            generalize w52.drew = w54 at HO_1 HO_5 BK165 HB hx183_0 hx183_1 hx183_2 hx183_3 hx183_4 hx183_5 hHeld ⊢
            refine pure_ (i := 0) (N := some 26) (v := ?_) (a' := ?_) #[T,F,F,F,F,F,F,F,F,F] rfl rfl (any_of HT_.out (by kernel_rfl)) (fun _ _ _ h => h) (Or.inl ⟨by rfl, ?_⟩) ?_ ?_
            rotate_left
            ·intro w'
             go_simp
             with_reducible rfl
            rotate_left
            ·simp only [Act.put, sa_, sz_, ss_, i64_w, i32_w]
             rfl
            refine pure_ (i := 1) (N := some 27) (v := ?_) (a' := ?_) #[T,T,F,F,F,F,F,F,F,F] rfl rfl (any_of HT_.out (by kernel_rfl)) (fun _ _ _ h => h) (Or.inl ⟨by rfl, ?_⟩) ?_ ?_
            rotate_left
            ·intro w'
             go_simp
             with_reducible rfl
            rotate_left
            ·simp only [Act.put, sa_, sz_, ss_, i64_w, i32_w]
             rfl
            refine pure_ (i := 2) (N := some 28) (v := ?_) (a' := ?_) #[T,T,T,F,F,F,F,F,F,F] rfl rfl (any_of HT_.out (by kernel_rfl)) (fun _ _ _ h => h) (Or.inl ⟨by rfl, ?_⟩) ?_ ?_
            rotate_left
            ·intro w'
             go_simp
             with_reducible rfl
            rotate_left
            ·simp only [Act.put, sa_, sz_, ss_, i64_w, i32_w]
             rfl
            refine pure_ (i := 3) (N := some 29) (v := ?_) (a' := ?_) #[T,T,T,T,F,F,F,F,F,F] rfl rfl (any_of HT_.out (by kernel_rfl)) (fun _ _ _ h => h) (Or.inl ⟨by rfl, ?_⟩) ?_ ?_
            rotate_left
            ·intro w'
             go_simp
             with_reducible rfl
            rotate_left
            ·simp only [Act.put, sa_, sz_, ss_, i64_w, i32_w]
             rfl
            refine pure_ (i := 4) (N := some 30) (v := ?_) (a' := ?_) #[T,T,T,T,T,F,F,F,F,F] rfl rfl (any_of HT_.out (by kernel_rfl)) (fun _ _ _ h => h) (Or.inl ⟨by rfl, ?_⟩) ?_ ?_
            rotate_left
            ·intro w'
             go_simp
             with_reducible rfl
            rotate_left
            ·simp only [Act.put, sa_, sz_, ss_, i64_w, i32_w]
             rfl
            refine pure_ (i := 5) (N := some 31) (v := ?_) (a' := ?_) #[T,T,T,T,T,T,F,F,F,F] rfl rfl (any_of HT_.out (by kernel_rfl)) (fun _ _ _ h => h) (Or.inl ⟨by rfl, ?_⟩) ?_ ?_
            rotate_left
            ·intro w'
             go_simp
             with_reducible rfl
            rotate_left
            ·simp only [Act.put, sa_, sz_, ss_, i64_w, i32_w]
             rfl
            refine take_ (i := 6) (N := some 32) (v := ?_) (a' := ?_) #[T,T,T,T,T,T,T,F,F,F] rfl rfl (take_ofW HT_.out HW_.out (by kernel_rfl)) (fun _ _ _ h => h) (Or.inl ⟨by rfl, ?_⟩) hHeld ?_ ?_
            rotate_left
            ·rintro w' ⟨s0, s1, s2, s3, s4, s5, s6, s7, s8, s9, s10, s11⟩
             go_simp
             with_reducible rfl
            rotate_left
            ·simp only [Act.put, sa_, sz_, ss_, i64_w, i32_w]
             rfl
            refine take_ (i := 7) (N := some 33) (v := ?_) (a' := ?_) #[T,T,T,T,T,T,T,T,F,F] rfl rfl (take_ofW HT_.out HW_.out (by kernel_rfl)) (fun _ _ _ h => h) (Or.inl ⟨by rfl, ?_⟩) hHeld ?_ ?_
            rotate_left
            ·rintro w' ⟨s0, s1, s2, s3, s4, s5, s6, s7, s8, s9, s10, s11⟩
             go_simp
             with_reducible rfl
            rotate_left
            ·simp only [Act.put, sa_, sz_, ss_, i64_w, i32_w]
             rfl
            refine pure_ (i := 8) (N := some 34) (v := ?_) (a' := ?_) #[T,T,T,T,T,T,T,T,T,F] rfl rfl (any_of HT_.out (by kernel_rfl)) (fun _ _ _ h => h) (Or.inl ⟨by rfl, ?_⟩) ?_ ?_
            rotate_left
            ·intro w'
             go_simp
             with_reducible rfl
            rotate_left
            ·simp only [Act.put, sa_, sz_, ss_, i64_w, i32_w]
             rfl
            refine pure_ (i := 9) (N := some 35) (v := ?_) (a' := ?_) #[T,T,T,T,T,T,T,T,T,T] rfl rfl (any_of HT_.out (by kernel_rfl)) (fun _ _ _ h => h) (Or.inl ⟨by rfl, ?_⟩) ?_ ?_
            rotate_left
            ·intro w'
             go_simp
             with_reducible rfl
            rotate_left
            ·simp only [Act.put, sa_, sz_, ss_, i64_w, i32_w]
             rfl
            refine done_ (done_of HT_.out (by kernel_rfl)) ?_
            try go_wp2
            go_roundg k2
            case measure => have := HK1.out; have := HK2.out; omega
            case rel => exact ⟨(x1_2), (x5_1), (wrap64 (x10_1 + 1)), (by first | rfl | (simp; done) | (simp [*]; done)), H', ⟨by have := HK1.out; have := HK2.out; omega⟩, ⟨by (with_reducible repeat (first | apply Kd.V_alloc | apply Kd.V_drewN | apply Kd.V_drew)); exact Kd.V_mono HO_1.out (fun _ hk => ⟨hk.1, hk.2.1⟩)⟩, ⟨by (with_reducible repeat (first | apply Kd.R_alloc | apply Kd.R_drewN | apply Kd.R_drew)); exact Kd.R_mono HO_5.out (fun _ hk => hk.1)⟩, ⟨by repeat (first | (with_reducible first | exact HB.out | apply below_alloc | apply pw_below_drewN | apply below_drew1 | refine below_set ?_ GE165.out) | exact HB.out)⟩⟩
          ·rw [if_neg c44] at H
           exact absurd H (by simp)
     ·rw [if_neg c5] at H
      exact absurd H (by simp)
    ·rw [if_neg c4] at H
     exact absurd H (by simp)
   ·rw [if_neg c3] at H
    have c3b0 : decide (x10_1 < (l0.length : Int)) = false := decide_eq_false c3
    clear c3
    obtain rfl := Option.some.inj H
    go_wp2
    go_ret
    exact ⟨_, by first | rfl | (simp [errW_none, errW_some] <;> rfl) | (simp [*, errW_none, errW_some] <;> rfl), by (with_reducible repeat (first | apply Kd.R_alloc | apply Kd.R_drewN | apply Kd.R_drew)); exact HO_5.out, by repeat (first | (with_reducible first | exact HB.out | apply below_alloc | apply pw_below_drewN | apply below_drew1) | exact HB.out)⟩

end Go.Proofs.Ytpgmeaofmlipkaa.PT
