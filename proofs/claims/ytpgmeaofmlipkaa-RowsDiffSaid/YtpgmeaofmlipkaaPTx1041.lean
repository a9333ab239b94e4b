-- Written by a program of this session (wip/tools/pp.py over the kit's printer). Lean checks it.
import Derived.Test.YtpgmeaofmlipkaaPTx0
import Derived.Test.YtpgmeaofmlipkaaPTx1043
import Derived.Test.YtpgmeaofmlipkaaPTx3037
namespace Go.Proofs.Ytpgmeaofmlipkaa.PT
open Go.RowKit Go.Proofs.YtpgmeaofmlipkaaW.PrintWords Go.Proofs.YtpgmeaofmlipkaaW.PrintLast Go.Proofs.YtpgmeaofmlipkaaW.PrintMore
attribute [local go_sem] max2_int min2_int max_two min_two max_three min_three max_four min_four   -- for this text's walks alone
set_option linter.unusedVariables false
set_option linter.unusedSimpArgs false

attribute [local go_sem high] eqA41
/-! ### rows_without: function 41 -/
mutual
def rows_without.l0 : Nat → List (S41) → List (S41) → List (S41) → Int → Int → Option ((List (S41)))
  | 0, _, _, _, _, _ => none
  | k + 1, x1, x5, x8, x9, x10 => if x10 < x9 then (if 0 ≤ x10 then (if x10 < (x8.length : Int) then (rows_without.l1 k x1 x5 x8 x9 x10 ((rd_T41 x8 x10).f0.f0) ((rd_T41 x8 x10).f0.f1) ((rd_T41 x8 x10).f1) ((rd_T41 x8 x10).f2.f0) ((rd_T41 x8 x10).f2.f1) ((rd_T41 x8 x10).f2.f2)) else (none)) else (none)) else (some x5)
def rows_without.l1 : Nat → List (S41) → List (S41) → List (S41) → Int → Int → ByteArray → ByteArray → ByteArray → ByteArray → ByteArray → ByteArray → Option ((List (S41)))
  | 0, _, _, _, _, _, _, _, _, _, _, _ => none
  | k + 1, x1, x5, x8, x9, x10, x155000, x155001, x155002, x155003, x155004, x155005 => if (x1.length : Int) > 0 then (if 0 < (x1.length : Int) then ((tupl_Less.f ((rd_T41 x1 0).f0.f0) ((rd_T41 x1 0).f0.f1) ((rd_T41 x1 0).f1) ((rd_T41 x1 0).f2.f0) ((rd_T41 x1 0).f2.f1) ((rd_T41 x1 0).f2.f2) x155000 x155001 x155002 x155003 x155004 x155005).bind fun t156 => (if t156 = true then (if 1 ≤ (x1.length : Int) then (rows_without.l1 k (x1.drop 1) x5 x8 x9 x10 x155000 x155001 x155002 x155003 x155004 x155005) else (none)) else (if (x1.length : Int) = 0 then (if x5.length < 1466015503701 then (rows_without.l0 k x1 (x5 ++ [(⟨(⟨x155000, x155001⟩ : S37), x155002, (⟨x155003, x155004, x155005⟩ : S39)⟩ : S41)]) x8 x9 (wrap64 (x10 + 1))) else (none)) else (if ((!((((rd_T41 x1 0).f0.f0).toList) == x155000.toList) || (!((((rd_T41 x1 0).f0.f1).toList) == x155001.toList))) || (!((((rd_T41 x1 0).f1).toList) == x155002.toList) || ((!((((rd_T41 x1 0).f2.f0).toList) == x155003.toList) || (!((((rd_T41 x1 0).f2.f1).toList) == x155004.toList) || (!((((rd_T41 x1 0).f2.f2).toList) == x155005.toList))))))) = true then (if x5.length < 1466015503701 then (rows_without.l0 k x1 (x5 ++ [(⟨(⟨x155000, x155001⟩ : S37), x155002, (⟨x155003, x155004, x155005⟩ : S39)⟩ : S41)]) x8 x9 (wrap64 (x10 + 1))) else (none)) else (rows_without.l0 k x1 x5 x8 x9 (wrap64 (x10 + 1))))))) else (none)) else (if (x1.length : Int) = 0 then (if x5.length < 1466015503701 then (rows_without.l0 k x1 (x5 ++ [(⟨(⟨x155000, x155001⟩ : S37), x155002, (⟨x155003, x155004, x155005⟩ : S39)⟩ : S41)]) x8 x9 (wrap64 (x10 + 1))) else (none)) else (if 0 < (x1.length : Int) then (if ((!((((rd_T41 x1 0).f0.f0).toList) == x155000.toList) || (!((((rd_T41 x1 0).f0.f1).toList) == x155001.toList))) || (!((((rd_T41 x1 0).f1).toList) == x155002.toList) || ((!((((rd_T41 x1 0).f2.f0).toList) == x155003.toList) || (!((((rd_T41 x1 0).f2.f1).toList) == x155004.toList) || (!((((rd_T41 x1 0).f2.f2).toList) == x155005.toList))))))) = true then (if x5.length < 1466015503701 then (rows_without.l0 k x1 (x5 ++ [(⟨(⟨x155000, x155001⟩ : S37), x155002, (⟨x155003, x155004, x155005⟩ : S39)⟩ : S41)]) x8 x9 (wrap64 (x10 + 1))) else (none)) else (rows_without.l0 k x1 x5 x8 x9 (wrap64 (x10 + 1)))) else (none)))
end
def rows_without.f (k : Nat) (l0 : List (S41)) (l1 : List (S41)) : Option ((List (S41))) := rows_without.l0 k l1 ([] : List (S41)) l0 (l0.length : Int) 0
theorem rows_without.mono_l : ∀ k, (∀ y0 y1 y2 y3 y4, LeO (rows_without.l0 k y0 y1 y2 y3 y4) (rows_without.l0 (k + 1) y0 y1 y2 y3 y4)) ∧ (∀ y0 y1 y2 y3 y4 y5 y6 y7 y8 y9 y10, LeO (rows_without.l1 k y0 y1 y2 y3 y4 y5 y6 y7 y8 y9 y10) (rows_without.l1 (k + 1) y0 y1 y2 y3 y4 y5 y6 y7 y8 y9 y10))
  | 0 => ⟨fun _ _ _ _ _ r h => by simp [rows_without.l0] at h, fun _ _ _ _ _ _ _ _ _ _ _ r h => by simp [rows_without.l1] at h⟩
  | k + 1 => by
    obtain ⟨ih0, ih1⟩ := rows_without.mono_l k
    refine ⟨?_, ?_⟩
    · intro y0 y1 y2 y3 y4
      unfold rows_without.l0
      repeat' first
      | (with_reducible exact ih0 _ _ _ _ _)
      | (with_reducible exact ih1 _ _ _ _ _ _ _ _ _ _ _)
      | (with_reducible exact LeO.refl _)
      | (with_reducible exact LeO.none _)
      | (with_reducible refine LeO.ite ?_ ?_)
      | (with_reducible refine LeO.bind ?_ (fun _ => ?_))
      | exact ih0 _ _ _ _ _
      | exact ih1 _ _ _ _ _ _ _ _ _ _ _
      | exact LeO.none _
      | refine LeO.ite ?_ ?_
      | refine LeO.bind ?_ (fun _ => ?_)
    · intro y0 y1 y2 y3 y4 y5 y6 y7 y8 y9 y10
      unfold rows_without.l1
      repeat' first
      | (with_reducible exact ih0 _ _ _ _ _)
      | (with_reducible exact ih1 _ _ _ _ _ _ _ _ _ _ _)
      | (with_reducible exact LeO.refl _)
      | (with_reducible exact LeO.none _)
      | (with_reducible refine LeO.ite ?_ ?_)
      | (with_reducible refine LeO.bind ?_ (fun _ => ?_))
      | exact ih0 _ _ _ _ _
      | exact ih1 _ _ _ _ _ _ _ _ _ _ _
      | exact LeO.none _
      | refine LeO.ite ?_ ?_
      | refine LeO.bind ?_ (fun _ => ?_)
theorem rows_without.mono : ∀ a0 a1 k, LeO (rows_without.f k a0 a1) (rows_without.f (k + 1) a0 a1) := by
  intro a0 a1 k
  obtain ⟨ih0, ih1⟩ := rows_without.mono_l k
  unfold rows_without.f
  repeat' first
      | (with_reducible exact ih0 _ _ _ _ _)
      | (with_reducible exact ih1 _ _ _ _ _ _ _ _ _ _ _)
      | (with_reducible exact LeO.refl _)
      | (with_reducible exact LeO.none _)
      | (with_reducible refine LeO.ite ?_ ?_)
      | (with_reducible refine LeO.bind ?_ (fun _ => ?_))
      | exact ih0 _ _ _ _ _
      | exact ih1 _ _ _ _ _ _ _ _ _ _ _
      | exact LeO.none _
      | refine LeO.ite ?_ ?_
      | refine LeO.bind ?_ (fun _ => ?_)
def rows_without.T5 : Bool × List (List Nat × List Nat) := (true, [([], []), ([0], [0]), ([1], [1]), ([2], [2]), ([3], [3]), ([4, 3], [3, 4]), ([5, 3], [3, 5]), ([3], [3]), ([6, 7, 3, 3], [3, 6, 7]), ([3, 8], [3, 8])])
def rows_without.B5 : List Nat := [0, 1, 3, 7, 15, 31, 63, 15, 255, 511]
theorem rows_without.tab5 : rtab .any (opsOf Try.f41 5) = rows_without.T5 := by kernel_rfl
theorem rows_without.bits5 : waitsOk rows_without.T5.2 rows_without.B5 = true := by kernel_rfl
def rows_without.T7 : Bool × List (List Nat × List Nat) := (true, [([], []), ([0], [0]), ([1], [1]), ([2], [2]), ([3], [3]), ([4, 3], [3, 4]), ([5, 3], [3, 5]), ([3], [3]), ([6, 7, 3], [3, 6, 7]), ([3, 8], [3, 8])])
def rows_without.B7 : List Nat := [0, 1, 3, 7, 15, 31, 63, 15, 255, 511]
theorem rows_without.tab7 : rtab .any (opsOf Try.f41 7) = rows_without.T7 := by kernel_rfl
theorem rows_without.bits7 : waitsOk rows_without.T7.2 rows_without.B7 = true := by kernel_rfl
set_option maxHeartbeats 8000000 in
set_option maxRecDepth 100000 in
theorem rows_without.calls (k : Nat) (A0 : Option Addr) (c0 : Nat) (l0 : List (S41)) (P1_ : Nat → Prop) (A1 : Option Addr) (c1 : Nat) (l1 : List (S41)) (r : List (S41)) (w : World) (hr0 : Kd.C k41 w A0 l0.length l0) (hc0 : l0.length ≤ c0) (hs1 : Kd.V k41 41 w w.heap.size (fun k_ => P1_ k_) (.slice A1 l1.length c1) l1) (h : rows_without.f k l0 l1 = some r) :
    Calls Try.prog 41 #[.slice A0 l0.length c0, .slice A1 l1.length c1] w fun e w' => ∃ v0_ : Value, e = .returned (v0_) ∧ Kd.R k41 41 w' w.heap.size (fun k_ => (w.heap.size ≤ k_)) v0_ r ∧ Below w.heap.size w w' := by
  have hu41 := Try.underlying41
  have HR0 := Aside0.mk hr0
  have HC0 := Aside0.mk hc0
  clear hr0 hc0
  have HO1 := Aside0.mk (show Kd.V k41 41 w w.heap.size (fun k_ => (P1_ k_ ∨ w.heap.size ≤ k_)) (.slice A1 l1.length c1) l1 from Kd.V_mono hs1 (fun k_ hk => .inl hk))
  have HB := Aside0.mk (Below.refl w.heap.size w)
  have H : (rows_without.l0 k l1 ([] : List (S41)) l0 (l0.length : Int) 0) = some r := h
  clear h
  have H' := Aside0.mk H
  clear H
  go_enter Try.func41, Try.ntmps41
  go_wp2
  go_loopg [1, 5, 10] k (fun kq v1 v5 v10 w' => ∃ (x1_1 : List (S41)) (x5_1 : List (S41)) (x10_1 : Int), v10 = .int .i64 x10_1 ∧ Aside0 (rows_without.l0 kq x1_1 x5_1 l0 (l0.length : Int) x10_1 = some r) ∧ Aside0 (kq ≤ k) ∧ Aside0 (Kd.V k41 41 w' w.heap.size (fun k_ => (P1_ k_ ∨ w.heap.size ≤ k_) ∧ some k_ ≠ (v5 : Value).ownBlock) v1 x1_1) ∧ Aside0 (Kd.R k41 41 w' w.heap.size (fun k_ => (w.heap.size ≤ k_)) v5 x5_1) ∧ Aside0 (Below w.heap.size w w'))
  case atStart => exact ⟨(l1), (([] : List (S41))), (0), (by first | rfl | (simp; done) | (simp [*]; done)), H', ⟨Nat.le_refl _⟩, ⟨by (with_reducible repeat (first | apply Kd.V_alloc | apply Kd.V_drewN | apply Kd.V_drew)); exact Kd.V_mono HO1.out (fun _ hk => ⟨hk, (by simp [Value.ownBlock])⟩)⟩, ⟨by first | exact Kd.R_nil _ _ _ _ _ | exact Kd.N_nil _ _ _ _ _ | exact Kd.V_nil _ _ _ _ _ | exact Kd.Q_nil _ _ _ _ _ | exact Kd.S_nil _ _ _ _ _⟩, ⟨by repeat (first | (with_reducible first | exact HB.out | apply below_alloc | apply pw_below_drewN | apply below_drew1) | exact HB.out)⟩⟩
  case round =>
    clear H'
    try clear c1
    try clear p2
    obtain ⟨x1_1, x5_1, x10_1, rfl, HA, HK1, HO_1, HO_5, HB⟩ := hrel
    cases gk with
    | zero => exact absurd HA.out (by simp [rows_without.l0])
    | succ k1 =>
      have H := HA.out
      clear HA
      simp only [rows_without.l0] at H
      by_cases c3 : x10_1 < (l0.length : Int)
      · rw [if_pos c3] at H
        have c3b0 : decide (x10_1 < (l0.length : Int)) = true := decide_eq_true c3
        clear c3
        by_cases c4 : 0 ≤ x10_1
        · rw [if_pos c4] at H
          have c4b0 : decide (0 ≤ x10_1) = true := decide_eq_true c4
          clear c4
          by_cases c5 : x10_1 < (l0.length : Int)
          · rw [if_pos c5] at H
            have c5b0 : decide (x10_1 < (l0.length : Int)) = true := decide_eq_true c5
            clear c5
            have H' := Aside0.mk H
            clear H
            have p153 : 0 ≤ (x10_1 : Int) := of_decide_eq_true (by first | (with_reducible assumption) | assumption)
            have q153 : x10_1 < (l0.length : Int) := of_decide_eq_true (by first | (with_reducible assumption) | assumption)
            obtain ⟨ad153, e153, hx153_0, hx153_1, hx153_2, hx153_3, hx153_4, hx153_5⟩ := at_T41 HR0.out x10_1 p153 q153
            cases e153
            replace hx153_0 := (HB.out.cell (World.block_lt_of_cell? w _ hx153_0)).trans hx153_0
            replace hx153_1 := (HB.out.cell (World.block_lt_of_cell? w _ hx153_1)).trans hx153_1
            replace hx153_2 := (HB.out.cell (World.block_lt_of_cell? w _ hx153_2)).trans hx153_2
            replace hx153_3 := (HB.out.cell (World.block_lt_of_cell? w _ hx153_3)).trans hx153_3
            replace hx153_4 := (HB.out.cell (World.block_lt_of_cell? w _ hx153_4)).trans hx153_4
            replace hx153_5 := (HB.out.cell (World.block_lt_of_cell? w _ hx153_5)).trans hx153_5
            replace p153 := eq_true p153
            replace q153 := eq_true q153
            go_wp2_with (first | ((with_reducible refine gate_dst (N := 7) rfl ?_); refine box_event ?hg (N := 7) ?hd (cs := #[.string (⟨#[]⟩ : ByteArray), .string (⟨#[]⟩ : ByteArray), .string (⟨#[]⟩ : ByteArray), .string (⟨#[]⟩ : ByteArray), .string (⟨#[]⟩ : ByteArray), .string (⟨#[]⟩ : ByteArray)]) (t := 41) ?hr ?_; (case hd => rfl); (case hg => rfl); (case hr => first | (go_simp; done) | (go_simp; rfl)); intro gb154 hg w6 hbox hb; have n0_ := Aside0.mk (Kd.V_below (Kd.V_elderB (by (with_reducible repeat (first | apply Kd.V_alloc | apply Kd.V_drewN | apply Kd.V_drew)); exact HO_1.out) gb154 (Nat.le_of_eq hg.symm)) hb); have n1_ := Aside0.mk (Kd.R_below (Kd.R_elderB (by (with_reducible repeat (first | apply Kd.R_alloc | apply Kd.R_drewN | apply Kd.R_drew)); exact HO_5.out) gb154 (Nat.le_of_eq hg.symm)) hb); have n2_ := Aside0.mk (below_step (by repeat (first | (with_reducible first | exact HB.out | apply below_alloc | apply pw_below_drewN | apply below_drew1) | exact HB.out)) hb); have n3_ := Aside0.mk (hbox); have n4_ := Aside0.mk ((by rw [hg]; exact (below_size (by repeat (first | (with_reducible first | exact HB.out | apply below_alloc | apply pw_below_drewN | apply below_drew1) | exact HB.out))) : w.heap.size ≤ gb154)); have n5_ := Aside0.mk ((by rw [hg]; exact (below_size (by repeat (first | (with_reducible first | exact HB.out | apply below_alloc | apply pw_below_drewN | apply below_drew1) | exact HB.out))) : w.heap.size ≤ gb154)); clear HO_1; clear HO_5; clear HB; have HO_1 := n0_; have HO_5 := n1_; have HB := n2_; have BK154 := n3_; have GW154 := n4_; have GE154 := n5_; clear n0_ n1_ n2_ n3_ n4_ n5_; clear hb hbox hg; have hcz7_0 : w6.cell? ⟨gb154, 0, none⟩ = some (.string (⟨#[]⟩ : ByteArray)) := (blk_cell BK154.out 0).trans rfl; have hcz7_1 : w6.cell? ⟨gb154, 1, none⟩ = some (.string (⟨#[]⟩ : ByteArray)) := (blk_cell BK154.out 1).trans rfl; have hcz7_2 : w6.cell? ⟨gb154, 2, none⟩ = some (.string (⟨#[]⟩ : ByteArray)) := (blk_cell BK154.out 2).trans rfl; have hcz7_3 : w6.cell? ⟨gb154, 3, none⟩ = some (.string (⟨#[]⟩ : ByteArray)) := (blk_cell BK154.out 3).trans rfl; have hcz7_4 : w6.cell? ⟨gb154, 4, none⟩ = some (.string (⟨#[]⟩ : ByteArray)) := (blk_cell BK154.out 4).trans rfl; have hcz7_5 : w6.cell? ⟨gb154, 5, none⟩ = some (.string (⟨#[]⟩ : ByteArray)) := (blk_cell BK154.out 5).trans rfl; have hfz7_0 := blk_frozen BK154.out 0; have hfz7_1 := blk_frozen BK154.out 1; have hfz7_2 := blk_frozen BK154.out 2; have hfz7_3 := blk_frozen BK154.out 3; have hfz7_4 := blk_frozen BK154.out 4; have hfz7_5 := blk_frozen BK154.out 5))
            go_loopg [1] k1 (fun kq v1 w' => ∃ (x1_2 : List (S41)), Aside0 (rows_without.l1 kq x1_2 x5_1 l0 (l0.length : Int) x10_1 ((rd_T41 l0 x10_1).f0.f0) ((rd_T41 l0 x10_1).f0.f1) ((rd_T41 l0 x10_1).f1) ((rd_T41 l0 x10_1).f2.f0) ((rd_T41 l0 x10_1).f2.f1) ((rd_T41 l0 x10_1).f2.f2) = some r) ∧ Aside0 (kq ≤ k1) ∧ Aside0 (Kd.V k41 41 w' w.heap.size (fun k_ => (P1_ k_ ∨ w.heap.size ≤ k_) ∧ some k_ ≠ (u5 : Value).ownBlock ∧ k_ ≠ gb154) v1 x1_2) ∧ Aside0 (Kd.R k41 41 w' w.heap.size (fun k_ => (w.heap.size ≤ k_) ∧ k_ ≠ gb154) u5 x5_1) ∧ Aside0 (w'.heap[gb154]? = some (.cells #[.string ((rd_T41 l0 x10_1).f0.f0), .string ((rd_T41 l0 x10_1).f0.f1), .string ((rd_T41 l0 x10_1).f1), .string ((rd_T41 l0 x10_1).f2.f0), .string ((rd_T41 l0 x10_1).f2.f1), .string ((rd_T41 l0 x10_1).f2.f2)] 41 (0, 0))) ∧ Aside0 (Below w.heap.size w w'))
            case atStart => exact ⟨(x1_1), H', ⟨Nat.le_refl _⟩, ⟨by (with_reducible repeat (first | apply Kd.V_alloc | apply Kd.V_drewN | apply Kd.V_drew)); exact Kd.V_mono (Kd.V_far (p := ⟨gb154, 5, none⟩) (Kd.V_far (p := ⟨gb154, 4, none⟩) (Kd.V_far (p := ⟨gb154, 3, none⟩) (Kd.V_far (p := ⟨gb154, 2, none⟩) (Kd.V_far (p := ⟨gb154, 1, none⟩) (Kd.V_far (p := ⟨gb154, 0, none⟩) (Kd.V_mono HO_1.out (fun k_ hk => (⟨hk, hk.2⟩ : _ ∧ k_ ≠ gb154))) (fun _ hk => hk.2) (.string ((rd_T41 l0 x10_1).f0.f0))) (fun _ hk => hk.2) (.string ((rd_T41 l0 x10_1).f0.f1))) (fun _ hk => hk.2) (.string ((rd_T41 l0 x10_1).f1))) (fun _ hk => hk.2) (.string ((rd_T41 l0 x10_1).f2.f0))) (fun _ hk => hk.2) (.string ((rd_T41 l0 x10_1).f2.f1))) (fun _ hk => hk.2) (.string ((rd_T41 l0 x10_1).f2.f2))) (fun _ hk => ⟨hk.1.1.1, ⟨hk.1.1.2, hk.1.2⟩⟩)⟩, ⟨by (with_reducible repeat (first | apply Kd.R_alloc | apply Kd.R_drewN | apply Kd.R_drew)); exact Kd.R_mono (Kd.R_far (p := ⟨gb154, 5, none⟩) (Kd.R_far (p := ⟨gb154, 4, none⟩) (Kd.R_far (p := ⟨gb154, 3, none⟩) (Kd.R_far (p := ⟨gb154, 2, none⟩) (Kd.R_far (p := ⟨gb154, 1, none⟩) (Kd.R_far (p := ⟨gb154, 0, none⟩) (Kd.R_mono HO_5.out (fun k_ hk => (⟨hk, hk.2⟩ : _ ∧ k_ ≠ gb154))) (fun _ hk => hk.2) (.string ((rd_T41 l0 x10_1).f0.f0))) (fun _ hk => hk.2) (.string ((rd_T41 l0 x10_1).f0.f1))) (fun _ hk => hk.2) (.string ((rd_T41 l0 x10_1).f1))) (fun _ hk => hk.2) (.string ((rd_T41 l0 x10_1).f2.f0))) (fun _ hk => hk.2) (.string ((rd_T41 l0 x10_1).f2.f1))) (fun _ hk => hk.2) (.string ((rd_T41 l0 x10_1).f2.f2))) (fun _ hk => by first | exact ⟨hk.1.1, hk.1.2⟩ | trivial)⟩, ⟨by (with_reducible repeat (first | refine blk_drewN ?_ _ | refine blk_drew ?_ | refine blk_alloc ?_ _)); refine blk_put (cs := #[.string ((rd_T41 l0 x10_1).f0.f0), .string ((rd_T41 l0 x10_1).f0.f1), .string ((rd_T41 l0 x10_1).f1), .string ((rd_T41 l0 x10_1).f2.f0), .string ((rd_T41 l0 x10_1).f2.f1), .string (⟨#[]⟩ : ByteArray)]) ?_ 5 _ rfl; (with_reducible repeat (first | refine blk_drewN ?_ _ | refine blk_drew ?_ | refine blk_alloc ?_ _)); refine blk_put (cs := #[.string ((rd_T41 l0 x10_1).f0.f0), .string ((rd_T41 l0 x10_1).f0.f1), .string ((rd_T41 l0 x10_1).f1), .string ((rd_T41 l0 x10_1).f2.f0), .string (⟨#[]⟩ : ByteArray), .string (⟨#[]⟩ : ByteArray)]) ?_ 4 _ rfl; (with_reducible repeat (first | refine blk_drewN ?_ _ | refine blk_drew ?_ | refine blk_alloc ?_ _)); refine blk_put (cs := #[.string ((rd_T41 l0 x10_1).f0.f0), .string ((rd_T41 l0 x10_1).f0.f1), .string ((rd_T41 l0 x10_1).f1), .string (⟨#[]⟩ : ByteArray), .string (⟨#[]⟩ : ByteArray), .string (⟨#[]⟩ : ByteArray)]) ?_ 3 _ rfl; (with_reducible repeat (first | refine blk_drewN ?_ _ | refine blk_drew ?_ | refine blk_alloc ?_ _)); refine blk_put (cs := #[.string ((rd_T41 l0 x10_1).f0.f0), .string ((rd_T41 l0 x10_1).f0.f1), .string (⟨#[]⟩ : ByteArray), .string (⟨#[]⟩ : ByteArray), .string (⟨#[]⟩ : ByteArray), .string (⟨#[]⟩ : ByteArray)]) ?_ 2 _ rfl; (with_reducible repeat (first | refine blk_drewN ?_ _ | refine blk_drew ?_ | refine blk_alloc ?_ _)); refine blk_put (cs := #[.string ((rd_T41 l0 x10_1).f0.f0), .string (⟨#[]⟩ : ByteArray), .string (⟨#[]⟩ : ByteArray), .string (⟨#[]⟩ : ByteArray), .string (⟨#[]⟩ : ByteArray), .string (⟨#[]⟩ : ByteArray)]) ?_ 1 _ rfl; (with_reducible repeat (first | refine blk_drewN ?_ _ | refine blk_drew ?_ | refine blk_alloc ?_ _)); refine blk_put (cs := #[.string (⟨#[]⟩ : ByteArray), .string (⟨#[]⟩ : ByteArray), .string (⟨#[]⟩ : ByteArray), .string (⟨#[]⟩ : ByteArray), .string (⟨#[]⟩ : ByteArray), .string (⟨#[]⟩ : ByteArray)]) ?_ 0 _ rfl; (with_reducible repeat (first | refine blk_drewN ?_ _ | refine blk_drew ?_ | refine blk_alloc ?_ _)); exact BK154.out⟩, ⟨by repeat (first | (with_reducible first | exact HB.out | apply below_alloc | apply pw_below_drewN | apply below_drew1 | refine below_set ?_ GE154.out) | exact HB.out)⟩⟩
            case round =>
              clear H'
              try clear c1
              try clear p1
              try clear q1
              try clear hx1
              try clear p2
              try clear c3
              try clear c3b0
              try clear c4
              try clear c4b0
              try clear c5
              try clear c5b0
              try clear hcz7_0
              try clear hcz7_1
              try clear hcz7_2
              try clear hcz7_3
              try clear hcz7_4
              try clear hcz7_5
              try clear hfz7_0
              try clear hfz7_1
              try clear hfz7_2
              try clear hfz7_3
              try clear hfz7_4
              try clear hfz7_5
              try clear hx153_0
              try clear hx153_1
              try clear hx153_2
              try clear hx153_3
              try clear hx153_4
              try clear hx153_5
              try clear p153
              try clear p2
              try clear q153
              obtain ⟨x1_2, HA, HK2, HO_1, HO_5, BK154, HB⟩ := hrel
              cases gk with
              | zero => exact absurd HA.out (by simp [rows_without.l1])
              | succ k2 =>
                have H := HA.out
                clear HA
                simp only [rows_without.l1] at H
                by_cases c8 : (x1_2.length : Int) > 0
                · rw [if_pos c8] at H
                  have c8b0 : decide (0 < (x1_2.length : Int)) = true := decide_eq_true c8
                  have c8b1 : decide (0 < x1_2.length) = true := decide_eq_true (by omega)
                  clear c8
                  by_cases c9 : 0 < (x1_2.length : Int)
                  · rw [if_pos c9] at H
                    have c9b0 : decide (0 < (x1_2.length : Int)) = true := decide_eq_true c9
                    have c9b1 : decide (0 < x1_2.length) = true := decide_eq_true (by omega)
                    clear c9
                    replace H := Option.bind_eq_some_iff.mp H
                    obtain ⟨t156, A100, H⟩ := H
                    replace H : (if t156 = true then (if 1 ≤ (x1_2.length : Int) then (rows_without.l1 k2 (x1_2.drop 1) x5_1 l0 (l0.length : Int) x10_1 ((rd_T41 l0 x10_1).f0.f0) ((rd_T41 l0 x10_1).f0.f1) ((rd_T41 l0 x10_1).f1) ((rd_T41 l0 x10_1).f2.f0) ((rd_T41 l0 x10_1).f2.f1) ((rd_T41 l0 x10_1).f2.f2)) else (none)) else (if (x1_2.length : Int) = 0 then (if x5_1.length < 1466015503701 then (rows_without.l0 k2 x1_2 (x5_1 ++ [(⟨(⟨((rd_T41 l0 x10_1).f0.f0), ((rd_T41 l0 x10_1).f0.f1)⟩ : S37), ((rd_T41 l0 x10_1).f1), (⟨((rd_T41 l0 x10_1).f2.f0), ((rd_T41 l0 x10_1).f2.f1), ((rd_T41 l0 x10_1).f2.f2)⟩ : S39)⟩ : S41)]) l0 (l0.length : Int) (wrap64 (x10_1 + 1))) else (none)) else (if ((!((((rd_T41 x1_2 0).f0.f0).toList) == ((rd_T41 l0 x10_1).f0.f0).toList) || (!((((rd_T41 x1_2 0).f0.f1).toList) == ((rd_T41 l0 x10_1).f0.f1).toList))) || (!((((rd_T41 x1_2 0).f1).toList) == ((rd_T41 l0 x10_1).f1).toList) || ((!((((rd_T41 x1_2 0).f2.f0).toList) == ((rd_T41 l0 x10_1).f2.f0).toList) || (!((((rd_T41 x1_2 0).f2.f1).toList) == ((rd_T41 l0 x10_1).f2.f1).toList) || (!((((rd_T41 x1_2 0).f2.f2).toList) == ((rd_T41 l0 x10_1).f2.f2).toList))))))) = true then (if x5_1.length < 1466015503701 then (rows_without.l0 k2 x1_2 (x5_1 ++ [(⟨(⟨((rd_T41 l0 x10_1).f0.f0), ((rd_T41 l0 x10_1).f0.f1)⟩ : S37), ((rd_T41 l0 x10_1).f1), (⟨((rd_T41 l0 x10_1).f2.f0), ((rd_T41 l0 x10_1).f2.f1), ((rd_T41 l0 x10_1).f2.f2)⟩ : S39)⟩ : S41)]) l0 (l0.length : Int) (wrap64 (x10_1 + 1))) else (none)) else (rows_without.l0 k2 x1_2 x5_1 l0 (l0.length : Int) (wrap64 (x10_1 + 1)))))) = some r := H
                    have A10 := Aside0.mk A100
                    clear A100
                    by_cases c11 : t156 = true
                    · subst c11
                      have H1 : (if 1 ≤ (x1_2.length : Int) then (rows_without.l1 k2 (x1_2.drop 1) x5_1 l0 (l0.length : Int) x10_1 ((rd_T41 l0 x10_1).f0.f0) ((rd_T41 l0 x10_1).f0.f1) ((rd_T41 l0 x10_1).f1) ((rd_T41 l0 x10_1).f2.f0) ((rd_T41 l0 x10_1).f2.f1) ((rd_T41 l0 x10_1).f2.f2)) else (none)) = some r := by rw [if_pos rfl] at H; exact H
                      clear H
                      have H := H1
                      clear H1
                      by_cases c12 : 1 ≤ (x1_2.length : Int)
                      · rw [if_pos c12] at H
                        have c12b0 := eq_true c12
                        have c12b1 : decide (1 ≤ (x1_2.length : Int)) = true := decide_eq_true c12
                        clear c12
                        obtain ⟨y157, hy157⟩ : ∃ y_ : List (S41), y_ = (x1_2.drop 1) := ⟨_, rfl⟩
                        replace H : (rows_without.l1 k2 y157 x5_1 l0 (l0.length : Int) x10_1 ((rd_T41 l0 x10_1).f0.f0) ((rd_T41 l0 x10_1).f0.f1) ((rd_T41 l0 x10_1).f1) ((rd_T41 l0 x10_1).f2.f0) ((rd_T41 l0 x10_1).f2.f1) ((rd_T41 l0 x10_1).f2.f2)) = some r := by first | (rw [hy157]; with_reducible exact H) | (have H2_ := (Option.bind_some _ _).symm.trans H; rw [hy157]; with_reducible exact H2_) | (have H2_ := (Option.bind_some _ _).symm.trans H; with_reducible exact H2_) | with_reducible exact H | (rw [hy157]; exact H) | exact H
                        have Ny157 := Aside0.mk hy157
                        clear hy157
                        have H' := Aside0.mk H
                        clear H
                        try go_wp2
                        have n0_ := Aside0.mk (Kd.V_drew HO_1.out)
                        have n1_ := Aside0.mk (Kd.R_drew HO_5.out)
                        have n2_ := Aside0.mk (blk_drew BK154.out)
                        have n3_ := Aside0.mk (below_drew1 HB.out)
                        clear HO_1
                        clear HO_5
                        clear BK154
                        clear HB
                        have HO_1 := n0_
                        have HO_5 := n1_
                        have BK154 := n2_
                        have HB := n3_
                        clear n0_ n1_ n2_ n3_
                        obtain ⟨Ao14, co14, eo14⟩ := Kd.V_slice HO_1.out
                        (first | subst eo14 | (injection eo14 with f1_ f2_ f3_; have f4_ := f1_.symm; have f5_ := f3_.symm; clear f1_ f2_ f3_; subst f4_; subst f5_))
                        have p155 : 0 ≤ (0 : Int) := (by omega)
                        have q155 : 0 < (x1_2.length : Int) := of_decide_eq_true (by first | (with_reducible assumption) | assumption)
                        obtain ⟨ad155, e155, hx155_0, hx155_1, hx155_2, hx155_3, hx155_4, hx155_5⟩ := at_T41 (Kd.V_reads' HO_1.out).2.2 0 p155 q155
                        cases e155
                        have qi155 : (0 < x1_2.length) = True := eq_true (by omega)
                        (try rw [show ((0 : Int)).toNat = 0 from rfl] at hx155_0)
                        (try rw [show 0 * 6 = 0 from rfl] at hx155_0)
                        (try rw [Addr.add_zero'] at hx155_0)
                        (try rw [show ((0 : Int)).toNat = 0 from rfl] at hx155_1)
                        (try rw [show 0 * 6 = 0 from rfl] at hx155_1)
                        (try rw [Addr.add_zero'] at hx155_1)
                        (try rw [show ((0 : Int)).toNat = 0 from rfl] at hx155_2)
                        (try rw [show 0 * 6 = 0 from rfl] at hx155_2)
                        (try rw [Addr.add_zero'] at hx155_2)
                        (try rw [show ((0 : Int)).toNat = 0 from rfl] at hx155_3)
                        (try rw [show 0 * 6 = 0 from rfl] at hx155_3)
                        (try rw [Addr.add_zero'] at hx155_3)
                        (try rw [show ((0 : Int)).toNat = 0 from rfl] at hx155_4)
                        (try rw [show 0 * 6 = 0 from rfl] at hx155_4)
                        (try rw [Addr.add_zero'] at hx155_4)
                        (try rw [show ((0 : Int)).toNat = 0 from rfl] at hx155_5)
                        (try rw [show 0 * 6 = 0 from rfl] at hx155_5)
                        (try rw [Addr.add_zero'] at hx155_5)
                        replace p155 := eq_true p155
                        replace q155 := eq_true q155
                        refine start_ (n := 10) (S := fun w' => w'.cell? ⟨gb154, 0, none⟩ = some (.string ((rd_T41 l0 x10_1).f0.f0)) ∧ w'.cell? ⟨gb154, 1, none⟩ = some (.string ((rd_T41 l0 x10_1).f0.f1)) ∧ w'.cell? ⟨gb154, 2, none⟩ = some (.string ((rd_T41 l0 x10_1).f1)) ∧ w'.cell? ⟨gb154, 3, none⟩ = some (.string ((rd_T41 l0 x10_1).f2.f0)) ∧ w'.cell? ⟨gb154, 4, none⟩ = some (.string ((rd_T41 l0 x10_1).f2.f1)) ∧ w'.cell? ⟨gb154, 5, none⟩ = some (.string ((rd_T41 l0 x10_1).f2.f2)) ∧ w'.cell? ad155 = some (.string ((rd_T41 x1_2 0).f0.f0)) ∧ w'.cell? ⟨ad155.block, ad155.off + 1, none⟩ = some (.string ((rd_T41 x1_2 0).f0.f1)) ∧ w'.cell? ⟨ad155.block, ad155.off + 2, none⟩ = some (.string ((rd_T41 x1_2 0).f1)) ∧ w'.cell? ⟨ad155.block, ad155.off + 3, none⟩ = some (.string ((rd_T41 x1_2 0).f2.f0)) ∧ w'.cell? ⟨ad155.block, ad155.off + 4, none⟩ = some (.string ((rd_T41 x1_2 0).f2.f1)) ∧ w'.cell? ⟨ad155.block, ad155.off + 5, none⟩ = some (.string ((rd_T41 x1_2 0).f2.f2))) (ds := []) #[false, false, false, false, false, false, false, false, false, false] (by kernel_rfl) rfl rfl ⟨(blk_cell BK154.out 0).trans rfl, (blk_cell BK154.out 1).trans rfl, (blk_cell BK154.out 2).trans rfl, (blk_cell BK154.out 3).trans rfl, (blk_cell BK154.out 4).trans rfl, (blk_cell BK154.out 5).trans rfl, hx155_0, hx155_1, hx155_2, hx155_3, hx155_4, hx155_5⟩ (fun hHeld => ?_); refine with_tabW rows_without.tab5 rows_without.bits5 (fun HT_ HW_ => ?_)
                        generalize wr.drew = w13 at HO_1 HO_5 BK154 HB hx155_0 hx155_1 hx155_2 hx155_3 hx155_4 hx155_5 hHeld ⊢
                        refine pure_ (i := 0) (N := some 14) (v := ?_) (a' := ?_) #[true, false, false, false, false, false, false, false, false, false] rfl rfl (any_of HT_.out (by kernel_rfl)) (fun _ _ _ h => h) (Or.inl ⟨by rfl, ?_⟩) ?_ ?_
                        rotate_left
                        · intro w'
                          go_simp
                          with_reducible rfl
                        rotate_left
                        · simp only [Act.put, List.setIfInBounds_toArray, List.set_cons_zero, List.set_cons_succ, i64_w, i32_w]
                          rfl
                        refine pure_ (i := 1) (N := some 15) (v := ?_) (a' := ?_) #[true, true, false, false, false, false, false, false, false, false] rfl rfl (any_of HT_.out (by kernel_rfl)) (fun _ _ _ h => h) (Or.inl ⟨by rfl, ?_⟩) ?_ ?_
                        rotate_left
                        · intro w'
                          go_simp
                          with_reducible rfl
                        rotate_left
                        · simp only [Act.put, List.setIfInBounds_toArray, List.set_cons_zero, List.set_cons_succ, i64_w, i32_w]
                          rfl
                        refine pure_ (i := 2) (N := some 16) (v := ?_) (a' := ?_) #[true, true, true, false, false, false, false, false, false, false] rfl rfl (any_of HT_.out (by kernel_rfl)) (fun _ _ _ h => h) (Or.inl ⟨by rfl, ?_⟩) ?_ ?_
                        rotate_left
                        · intro w'
                          go_simp
                          with_reducible rfl
                        rotate_left
                        · simp only [Act.put, List.setIfInBounds_toArray, List.set_cons_zero, List.set_cons_succ, i64_w, i32_w]
                          rfl
                        refine pure_ (i := 3) (N := some 17) (v := ?_) (a' := ?_) #[true, true, true, true, false, false, false, false, false, false] rfl rfl (any_of HT_.out (by kernel_rfl)) (fun _ _ _ h => h) (Or.inl ⟨by rfl, ?_⟩) ?_ ?_
                        rotate_left
                        · intro w'
                          go_simp
                          with_reducible rfl
                        rotate_left
                        · simp only [Act.put, List.setIfInBounds_toArray, List.set_cons_zero, List.set_cons_succ, i64_w, i32_w]
                          rfl
                        refine pure_ (i := 4) (N := some 18) (v := ?_) (a' := ?_) #[true, true, true, true, true, false, false, false, false, false] rfl rfl (any_of HT_.out (by kernel_rfl)) (fun _ _ _ h => h) (Or.inl ⟨by rfl, ?_⟩) ?_ ?_
                        rotate_left
                        · intro w'
                          go_simp
                          with_reducible rfl
                        rotate_left
                        · simp only [Act.put, List.setIfInBounds_toArray, List.set_cons_zero, List.set_cons_succ, i64_w, i32_w]
                          rfl
                        refine pure_ (i := 5) (N := some 19) (v := ?_) (a' := ?_) #[true, true, true, true, true, true, false, false, false, false] rfl rfl (any_of HT_.out (by kernel_rfl)) (fun _ _ _ h => h) (Or.inl ⟨by rfl, ?_⟩) ?_ ?_
                        rotate_left
                        · intro w'
                          go_simp
                          with_reducible rfl
                        rotate_left
                        · simp only [Act.put, List.setIfInBounds_toArray, List.set_cons_zero, List.set_cons_succ, i64_w, i32_w]
                          rfl
                        refine take_ (i := 6) (N := some 20) (v := ?_) (a' := ?_) #[true, true, true, true, true, true, true, false, false, false] rfl rfl (take_ofW HT_.out HW_.out (by kernel_rfl)) (fun _ _ _ h => h) (Or.inl ⟨by rfl, ?_⟩) hHeld ?_ ?_
                        rotate_left
                        · rintro w' ⟨s0, s1, s2, s3, s4, s5, s6, s7, s8, s9, s10, s11⟩
                          go_simp
                          with_reducible rfl
                        rotate_left
                        · simp only [Act.put, List.setIfInBounds_toArray, List.set_cons_zero, List.set_cons_succ, i64_w, i32_w]
                          rfl
                        refine take_ (i := 7) (N := some 21) (v := ?_) (a' := ?_) #[true, true, true, true, true, true, true, true, false, false] rfl rfl (take_ofW HT_.out HW_.out (by kernel_rfl)) (fun _ _ _ h => h) (Or.inl ⟨by rfl, ?_⟩) hHeld ?_ ?_
                        rotate_left
                        · rintro w' ⟨s0, s1, s2, s3, s4, s5, s6, s7, s8, s9, s10, s11⟩
                          go_simp
                          with_reducible rfl
                        rotate_left
                        · simp only [Act.put, List.setIfInBounds_toArray, List.set_cons_zero, List.set_cons_succ, i64_w, i32_w]
                          rfl
                        refine one_ (i := 8) (N := some 22) #[true, true, true, true, true, true, true, true, true, false] rfl rfl (one_of HT_.out (by kernel_rfl)) (by decide) (fun K hK => ?_)
                        refine goes_ Try.func43 (by kernel_rfl) rfl #[.agg #[.string ((rd_T41 x1_2 0).f0.f0), .string ((rd_T41 x1_2 0).f0.f1), .string ((rd_T41 x1_2 0).f1), .string ((rd_T41 x1_2 0).f2.f0), .string ((rd_T41 x1_2 0).f2.f1), .string ((rd_T41 x1_2 0).f2.f2)], .agg #[.string ((rd_T41 l0 x10_1).f0.f0), .string ((rd_T41 l0 x10_1).f0.f1), .string ((rd_T41 l0 x10_1).f1), .string ((rd_T41 l0 x10_1).f2.f0), .string ((rd_T41 l0 x10_1).f2.f1), .string ((rd_T41 l0 x10_1).f2.f2)]] (by rfl) rfl rfl (by (try simp only [List.map_toArray, List.map_cons, List.map_nil]); first | done | rfl | (simp only [List.length_drop, List.length_take]; rfl)) ?_
                        with_reducible refine (tupl_Less.calls ((rd_T41 x1_2 0).f0.f0) ((rd_T41 x1_2 0).f0.f1) ((rd_T41 x1_2 0).f1) ((rd_T41 x1_2 0).f2.f0) ((rd_T41 x1_2 0).f2.f1) ((rd_T41 x1_2 0).f2.f2) ((rd_T41 l0 x10_1).f0.f0) ((rd_T41 l0 x10_1).f0.f1) ((rd_T41 l0 x10_1).f1) ((rd_T41 l0 x10_1).f2.f0) ((rd_T41 l0 x10_1).f2.f1) ((rd_T41 l0 x10_1).f2.f2) true _ A10.out).mono ?_
                        rintro e w15 ⟨rfl, hb⟩
                        have HS6_ := (hb.cell (World.block_lt_of_cell? _ _ (hHeld.2.2.2.2.2.2.1))).trans (hHeld.2.2.2.2.2.2.1)
                        have HS7_ := (hb.cell (World.block_lt_of_cell? _ _ (hHeld.2.2.2.2.2.2.2.1))).trans (hHeld.2.2.2.2.2.2.2.1)
                        have HS8_ := (hb.cell (World.block_lt_of_cell? _ _ (hHeld.2.2.2.2.2.2.2.2.1))).trans (hHeld.2.2.2.2.2.2.2.2.1)
                        have HS9_ := (hb.cell (World.block_lt_of_cell? _ _ (hHeld.2.2.2.2.2.2.2.2.2.1))).trans (hHeld.2.2.2.2.2.2.2.2.2.1)
                        have HS10_ := (hb.cell (World.block_lt_of_cell? _ _ (hHeld.2.2.2.2.2.2.2.2.2.2.1))).trans (hHeld.2.2.2.2.2.2.2.2.2.2.1)
                        have HS11_ := (hb.cell (World.block_lt_of_cell? _ _ (hHeld.2.2.2.2.2.2.2.2.2.2.2))).trans (hHeld.2.2.2.2.2.2.2.2.2.2.2)
                        refine ⟨_, rfl, ?_⟩
                        have n0_ := Aside0.mk (Kd.V_below (by (with_reducible repeat (first | apply Kd.V_alloc | apply Kd.V_drewN | apply Kd.V_drew)); exact HO_1.out) hb)
                        have n1_ := Aside0.mk (Kd.R_below (by (with_reducible repeat (first | apply Kd.R_alloc | apply Kd.R_drewN | apply Kd.R_drew)); exact HO_5.out) hb)
                        have n2_ := Aside0.mk (blk_below (g := gb154) (o := .cells #[.string ((rd_T41 l0 x10_1).f0.f0), .string ((rd_T41 l0 x10_1).f0.f1), .string ((rd_T41 l0 x10_1).f1), .string ((rd_T41 l0 x10_1).f2.f0), .string ((rd_T41 l0 x10_1).f2.f1), .string ((rd_T41 l0 x10_1).f2.f2)] 41 (0, 0)) (by (with_reducible repeat (first | refine blk_drewN ?_ _ | refine blk_drew ?_ | refine blk_alloc ?_ _)); exact BK154.out) hb)
                        have n3_ := Aside0.mk (below_step (by repeat (first | (with_reducible first | exact HB.out | apply below_alloc | apply pw_below_drewN | apply below_drew1 | refine below_set ?_ GE154.out) | exact HB.out)) hb)
                        clear HO_1
                        clear HO_5
                        clear BK154
                        clear HB
                        have HO_1 := n0_
                        have HO_5 := n1_
                        have BK154 := n2_
                        have HB := n3_
                        clear n0_ n1_ n2_ n3_
                        (try clear hb)
                        (try clear hb2)
                        (try clear hk)
                        (try clear hi)
                        refine hK.out _ _ ⟨(blk_cell BK154.out 0).trans rfl, (blk_cell BK154.out 1).trans rfl, (blk_cell BK154.out 2).trans rfl, (blk_cell BK154.out 3).trans rfl, (blk_cell BK154.out 4).trans rfl, (blk_cell BK154.out 5).trans rfl, HS6_, HS7_, HS8_, HS9_, HS10_, HS11_⟩ (fun hHeld => ?_)
                        clear hK K
                        refine norm_ (a' := ?_) ?_ ?_
                        rotate_left
                        · show Act.put _ (some 22) _ = _
                          simp only [Act.put, List.setIfInBounds_toArray, List.set_cons_zero, List.set_cons_succ, i64_w, i32_w]
                          rfl
                        refine pure_ (i := 9) (N := some 23) (v := ?_) (a' := ?_) #[true, true, true, true, true, true, true, true, true, true] rfl rfl (any_of HT_.out (by kernel_rfl)) (fun _ _ _ h => h) (Or.inl ⟨by rfl, ?_⟩) ?_ ?_
                        rotate_left
                        · intro w'
                          go_simp
                          with_reducible rfl
                        rotate_left
                        · simp only [Act.put, List.setIfInBounds_toArray, List.set_cons_zero, List.set_cons_succ, i64_w, i32_w]
                          rfl
                        refine done_ (done_of HT_.out (by kernel_rfl)) ?_
                        have q16 : (1 : Int) ≤ ((x1_2.length : Int) : Int) := of_decide_eq_true (by first | (with_reducible assumption) | assumption)
                        obtain ⟨i016, hi016, _, hsz16, _⟩ := info_parts info41
                        have hroom16 : x1_2.length ≤ co14 := (Kd.V_reads' HO_1.out).2.1
                        have hC16 : Kd.F k41 _ _ (some ad155) x1_2.length x1_2 := (Kd.V_at (base := w.heap.size) HO_1.out).2.2
                        have hcut16 := cut_from (P := Try.prog) 23 41 .i64 Try.underlying23 hi016 6 hsz16 (some ad155) x1_2.length co14 1 (by omega) q16
                        have hr16 := Kd.F_cut (m := (1 : Int).toNat) (c := co14) hC16 (by omega) hroom16
                        obtain ⟨A16, hA16⟩ : ∃ A1, A1 = (if co14 = (1 : Int).toNat then (some ad155) else ((some ad155) : Option Addr).map (·.add ((1 : Int).toNat * 6))) := ⟨_, rfl⟩
                        obtain ⟨c16, hc16⟩ : ∃ c1, c1 = co14 - (1 : Int).toNat := ⟨_, rfl⟩
                        have hy16 : y157.length = x1_2.length - (1 : Int).toNat := (by rw [Ny157.out, List.length_drop] <;> omega)
                        rw [show (x1_2).drop (1 : Int).toNat = y157 from Ny157.out.symm] at hr16
                        replace hr16 : Kd.F k41 _ _ A16 y157.length y157 := (by rw [hA16]; exact hr16)
                        rw [← hy16, ← hA16, ← hc16] at hcut16
                        have HO161 := Aside0.mk (show Kd.V k41 41 _ w.heap.size _ (.slice A16 y157.length c16) y157 from Kd.V_mk (by rw [hy16, hc16]; exact Nat.sub_le_sub_right hroom16 _) hr16)
                        have HC161 := Aside0.mk (show y157.length ≤ c16 from by rw [hy16, hc16]; exact Nat.sub_le_sub_right hroom16 _)
                        clear hr16 hC16 hroom16 hi016 hsz16 hc16
                        have KY16 := Aside0.mk hy16
                        have KA16 := Aside0.mk hA16
                        clear hy16 hA16
                        replace q16 := eq_true q16
                        try go_wp2
                        go_roundg k2
                        case measure => have := HK1.out; have := HK2.out; omega
                        case rel => exact ⟨(y157), H', ⟨by have := HK1.out; have := HK2.out; omega⟩, ⟨by (with_reducible repeat (first | apply Kd.V_alloc | apply Kd.V_drewN | apply Kd.V_drew)); exact HO161.out⟩, ⟨by (with_reducible repeat (first | apply Kd.R_alloc | apply Kd.R_drewN | apply Kd.R_drew)); exact HO_5.out⟩, ⟨by (with_reducible repeat (first | refine blk_drewN ?_ _ | refine blk_drew ?_ | refine blk_alloc ?_ _)); exact BK154.out⟩, ⟨by repeat (first | (with_reducible first | exact HB.out | apply below_alloc | apply pw_below_drewN | apply below_drew1 | refine below_set ?_ GE154.out) | exact HB.out)⟩⟩
                      · rw [if_neg c12] at H
                        exact absurd H (by simp)
                    · replace c11 := Bool.eq_false_iff.mpr c11
                      subst c11
                      have H1 : (if (x1_2.length : Int) = 0 then (if x5_1.length < 1466015503701 then (rows_without.l0 k2 x1_2 (x5_1 ++ [(⟨(⟨((rd_T41 l0 x10_1).f0.f0), ((rd_T41 l0 x10_1).f0.f1)⟩ : S37), ((rd_T41 l0 x10_1).f1), (⟨((rd_T41 l0 x10_1).f2.f0), ((rd_T41 l0 x10_1).f2.f1), ((rd_T41 l0 x10_1).f2.f2)⟩ : S39)⟩ : S41)]) l0 (l0.length : Int) (wrap64 (x10_1 + 1))) else (none)) else (if ((!((((rd_T41 x1_2 0).f0.f0).toList) == ((rd_T41 l0 x10_1).f0.f0).toList) || (!((((rd_T41 x1_2 0).f0.f1).toList) == ((rd_T41 l0 x10_1).f0.f1).toList))) || (!((((rd_T41 x1_2 0).f1).toList) == ((rd_T41 l0 x10_1).f1).toList) || ((!((((rd_T41 x1_2 0).f2.f0).toList) == ((rd_T41 l0 x10_1).f2.f0).toList) || (!((((rd_T41 x1_2 0).f2.f1).toList) == ((rd_T41 l0 x10_1).f2.f1).toList) || (!((((rd_T41 x1_2 0).f2.f2).toList) == ((rd_T41 l0 x10_1).f2.f2).toList))))))) = true then (if x5_1.length < 1466015503701 then (rows_without.l0 k2 x1_2 (x5_1 ++ [(⟨(⟨((rd_T41 l0 x10_1).f0.f0), ((rd_T41 l0 x10_1).f0.f1)⟩ : S37), ((rd_T41 l0 x10_1).f1), (⟨((rd_T41 l0 x10_1).f2.f0), ((rd_T41 l0 x10_1).f2.f1), ((rd_T41 l0 x10_1).f2.f2)⟩ : S39)⟩ : S41)]) l0 (l0.length : Int) (wrap64 (x10_1 + 1))) else (none)) else (rows_without.l0 k2 x1_2 x5_1 l0 (l0.length : Int) (wrap64 (x10_1 + 1))))) = some r := by rw [if_neg (show ¬ (false = true) by decide)] at H; exact H
                      clear H
                      have H := H1
                      clear H1
                      by_cases c17 : (x1_2.length : Int) = 0
                      · rw [if_pos c17] at H
                        have c17b0 : ((x1_2.length : Int) == 0) = true := beq_iff_eq.mpr c17
                        have c17b1 : ((x1_2.length : Int) != 0) = false := bne_eq_false_iff_eq.mpr c17
                        clear c17
                        by_cases c18 : x5_1.length < 1466015503701
                        · rw [if_pos c18] at H
                          have LMc18 := Aside0.mk c18
                          clear c18
                          obtain ⟨y162, hy162⟩ : ∃ y_ : List (S41), y_ = (x5_1 ++ [(⟨(⟨((rd_T41 l0 x10_1).f0.f0), ((rd_T41 l0 x10_1).f0.f1)⟩ : S37), ((rd_T41 l0 x10_1).f1), (⟨((rd_T41 l0 x10_1).f2.f0), ((rd_T41 l0 x10_1).f2.f1), ((rd_T41 l0 x10_1).f2.f2)⟩ : S39)⟩ : S41)]) := ⟨_, rfl⟩
                          replace H : (rows_without.l0 k2 x1_2 y162 l0 (l0.length : Int) (wrap64 (x10_1 + 1))) = some r := by first | (rw [hy162]; with_reducible exact H) | (have H2_ := (Option.bind_some _ _).symm.trans H; rw [hy162]; with_reducible exact H2_) | (have H2_ := (Option.bind_some _ _).symm.trans H; with_reducible exact H2_) | with_reducible exact H | (rw [hy162]; exact H) | exact H
                          have Ny162 := Aside0.mk hy162
                          clear hy162
                          have H' := Aside0.mk H
                          clear H
                          try go_wp2
                          have n0_ := Aside0.mk (Kd.V_drew HO_1.out)
                          have n1_ := Aside0.mk (Kd.R_drew HO_5.out)
                          have n2_ := Aside0.mk (blk_drew BK154.out)
                          have n3_ := Aside0.mk (below_drew1 HB.out)
                          clear HO_1
                          clear HO_5
                          clear BK154
                          clear HB
                          have HO_1 := n0_
                          have HO_5 := n1_
                          have BK154 := n2_
                          have HB := n3_
                          clear n0_ n1_ n2_ n3_
                          obtain ⟨Ao20, co20, eo20⟩ := Kd.V_slice HO_1.out
                          (first | subst eo20 | (injection eo20 with f1_ f2_ f3_; have f4_ := f1_.symm; have f5_ := f3_.symm; clear f1_ f2_ f3_; subst f4_; subst f5_))
                          have p155 : 0 ≤ (0 : Int) := (by omega)
                          have q155 : 0 < (x1_2.length : Int) := of_decide_eq_true (by first | (with_reducible assumption) | assumption)
                          obtain ⟨ad155, e155, hx155_0, hx155_1, hx155_2, hx155_3, hx155_4, hx155_5⟩ := at_T41 (Kd.V_reads' HO_1.out).2.2 0 p155 q155
                          cases e155
                          have qi155 : (0 < x1_2.length) = True := eq_true (by omega)
                          (try rw [show ((0 : Int)).toNat = 0 from rfl] at hx155_0)
                          (try rw [show 0 * 6 = 0 from rfl] at hx155_0)
                          (try rw [Addr.add_zero'] at hx155_0)
                          (try rw [show ((0 : Int)).toNat = 0 from rfl] at hx155_1)
                          (try rw [show 0 * 6 = 0 from rfl] at hx155_1)
                          (try rw [Addr.add_zero'] at hx155_1)
                          (try rw [show ((0 : Int)).toNat = 0 from rfl] at hx155_2)
                          (try rw [show 0 * 6 = 0 from rfl] at hx155_2)
                          (try rw [Addr.add_zero'] at hx155_2)
                          (try rw [show ((0 : Int)).toNat = 0 from rfl] at hx155_3)
                          (try rw [show 0 * 6 = 0 from rfl] at hx155_3)
                          (try rw [Addr.add_zero'] at hx155_3)
                          (try rw [show ((0 : Int)).toNat = 0 from rfl] at hx155_4)
                          (try rw [show 0 * 6 = 0 from rfl] at hx155_4)
                          (try rw [Addr.add_zero'] at hx155_4)
                          (try rw [show ((0 : Int)).toNat = 0 from rfl] at hx155_5)
                          (try rw [show 0 * 6 = 0 from rfl] at hx155_5)
                          (try rw [Addr.add_zero'] at hx155_5)
                          replace p155 := eq_true p155
                          replace q155 := eq_true q155
                          refine start_ (n := 10) (S := fun w' => w'.cell? ⟨gb154, 0, none⟩ = some (.string ((rd_T41 l0 x10_1).f0.f0)) ∧ w'.cell? ⟨gb154, 1, none⟩ = some (.string ((rd_T41 l0 x10_1).f0.f1)) ∧ w'.cell? ⟨gb154, 2, none⟩ = some (.string ((rd_T41 l0 x10_1).f1)) ∧ w'.cell? ⟨gb154, 3, none⟩ = some (.string ((rd_T41 l0 x10_1).f2.f0)) ∧ w'.cell? ⟨gb154, 4, none⟩ = some (.string ((rd_T41 l0 x10_1).f2.f1)) ∧ w'.cell? ⟨gb154, 5, none⟩ = some (.string ((rd_T41 l0 x10_1).f2.f2)) ∧ w'.cell? ad155 = some (.string ((rd_T41 x1_2 0).f0.f0)) ∧ w'.cell? ⟨ad155.block, ad155.off + 1, none⟩ = some (.string ((rd_T41 x1_2 0).f0.f1)) ∧ w'.cell? ⟨ad155.block, ad155.off + 2, none⟩ = some (.string ((rd_T41 x1_2 0).f1)) ∧ w'.cell? ⟨ad155.block, ad155.off + 3, none⟩ = some (.string ((rd_T41 x1_2 0).f2.f0)) ∧ w'.cell? ⟨ad155.block, ad155.off + 4, none⟩ = some (.string ((rd_T41 x1_2 0).f2.f1)) ∧ w'.cell? ⟨ad155.block, ad155.off + 5, none⟩ = some (.string ((rd_T41 x1_2 0).f2.f2))) (ds := []) #[false, false, false, false, false, false, false, false, false, false] (by kernel_rfl) rfl rfl ⟨(blk_cell BK154.out 0).trans rfl, (blk_cell BK154.out 1).trans rfl, (blk_cell BK154.out 2).trans rfl, (blk_cell BK154.out 3).trans rfl, (blk_cell BK154.out 4).trans rfl, (blk_cell BK154.out 5).trans rfl, hx155_0, hx155_1, hx155_2, hx155_3, hx155_4, hx155_5⟩ (fun hHeld => ?_); refine with_tabW rows_without.tab5 rows_without.bits5 (fun HT_ HW_ => ?_)
                          generalize wr.drew = w19 at HO_1 HO_5 BK154 HB hx155_0 hx155_1 hx155_2 hx155_3 hx155_4 hx155_5 hHeld ⊢
                          refine pure_ (i := 0) (N := some 14) (v := ?_) (a' := ?_) #[true, false, false, false, false, false, false, false, false, false] rfl rfl (any_of HT_.out (by kernel_rfl)) (fun _ _ _ h => h) (Or.inl ⟨by rfl, ?_⟩) ?_ ?_
                          rotate_left
                          · intro w'
                            go_simp
                            with_reducible rfl
                          rotate_left
                          · simp only [Act.put, List.setIfInBounds_toArray, List.set_cons_zero, List.set_cons_succ, i64_w, i32_w]
                            rfl
                          refine pure_ (i := 1) (N := some 15) (v := ?_) (a' := ?_) #[true, true, false, false, false, false, false, false, false, false] rfl rfl (any_of HT_.out (by kernel_rfl)) (fun _ _ _ h => h) (Or.inl ⟨by rfl, ?_⟩) ?_ ?_
                          rotate_left
                          · intro w'
                            go_simp
                            with_reducible rfl
                          rotate_left
                          · simp only [Act.put, List.setIfInBounds_toArray, List.set_cons_zero, List.set_cons_succ, i64_w, i32_w]
                            rfl
                          refine pure_ (i := 2) (N := some 16) (v := ?_) (a' := ?_) #[true, true, true, false, false, false, false, false, false, false] rfl rfl (any_of HT_.out (by kernel_rfl)) (fun _ _ _ h => h) (Or.inl ⟨by rfl, ?_⟩) ?_ ?_
                          rotate_left
                          · intro w'
                            go_simp
                            with_reducible rfl
                          rotate_left
                          · simp only [Act.put, List.setIfInBounds_toArray, List.set_cons_zero, List.set_cons_succ, i64_w, i32_w]
                            rfl
                          refine pure_ (i := 3) (N := some 17) (v := ?_) (a' := ?_) #[true, true, true, true, false, false, false, false, false, false] rfl rfl (any_of HT_.out (by kernel_rfl)) (fun _ _ _ h => h) (Or.inl ⟨by rfl, ?_⟩) ?_ ?_
                          rotate_left
                          · intro w'
                            go_simp
                            with_reducible rfl
                          rotate_left
                          · simp only [Act.put, List.setIfInBounds_toArray, List.set_cons_zero, List.set_cons_succ, i64_w, i32_w]
                            rfl
                          refine pure_ (i := 4) (N := some 18) (v := ?_) (a' := ?_) #[true, true, true, true, true, false, false, false, false, false] rfl rfl (any_of HT_.out (by kernel_rfl)) (fun _ _ _ h => h) (Or.inl ⟨by rfl, ?_⟩) ?_ ?_
                          rotate_left
                          · intro w'
                            go_simp
                            with_reducible rfl
                          rotate_left
                          · simp only [Act.put, List.setIfInBounds_toArray, List.set_cons_zero, List.set_cons_succ, i64_w, i32_w]
                            rfl
                          refine pure_ (i := 5) (N := some 19) (v := ?_) (a' := ?_) #[true, true, true, true, true, true, false, false, false, false] rfl rfl (any_of HT_.out (by kernel_rfl)) (fun _ _ _ h => h) (Or.inl ⟨by rfl, ?_⟩) ?_ ?_
                          rotate_left
                          · intro w'
                            go_simp
                            with_reducible rfl
                          rotate_left
                          · simp only [Act.put, List.setIfInBounds_toArray, List.set_cons_zero, List.set_cons_succ, i64_w, i32_w]
                            rfl
                          refine take_ (i := 6) (N := some 20) (v := ?_) (a' := ?_) #[true, true, true, true, true, true, true, false, false, false] rfl rfl (take_ofW HT_.out HW_.out (by kernel_rfl)) (fun _ _ _ h => h) (Or.inl ⟨by rfl, ?_⟩) hHeld ?_ ?_
                          rotate_left
                          · rintro w' ⟨s0, s1, s2, s3, s4, s5, s6, s7, s8, s9, s10, s11⟩
                            go_simp
                            with_reducible rfl
                          rotate_left
                          · simp only [Act.put, List.setIfInBounds_toArray, List.set_cons_zero, List.set_cons_succ, i64_w, i32_w]
                            rfl
                          refine take_ (i := 7) (N := some 21) (v := ?_) (a' := ?_) #[true, true, true, true, true, true, true, true, false, false] rfl rfl (take_ofW HT_.out HW_.out (by kernel_rfl)) (fun _ _ _ h => h) (Or.inl ⟨by rfl, ?_⟩) hHeld ?_ ?_
                          rotate_left
                          · rintro w' ⟨s0, s1, s2, s3, s4, s5, s6, s7, s8, s9, s10, s11⟩
                            go_simp
                            with_reducible rfl
                          rotate_left
                          · simp only [Act.put, List.setIfInBounds_toArray, List.set_cons_zero, List.set_cons_succ, i64_w, i32_w]
                            rfl
                          refine one_ (i := 8) (N := some 22) #[true, true, true, true, true, true, true, true, true, false] rfl rfl (one_of HT_.out (by kernel_rfl)) (by decide) (fun K hK => ?_)
                          refine goes_ Try.func43 (by kernel_rfl) rfl #[.agg #[.string ((rd_T41 x1_2 0).f0.f0), .string ((rd_T41 x1_2 0).f0.f1), .string ((rd_T41 x1_2 0).f1), .string ((rd_T41 x1_2 0).f2.f0), .string ((rd_T41 x1_2 0).f2.f1), .string ((rd_T41 x1_2 0).f2.f2)], .agg #[.string ((rd_T41 l0 x10_1).f0.f0), .string ((rd_T41 l0 x10_1).f0.f1), .string ((rd_T41 l0 x10_1).f1), .string ((rd_T41 l0 x10_1).f2.f0), .string ((rd_T41 l0 x10_1).f2.f1), .string ((rd_T41 l0 x10_1).f2.f2)]] (by rfl) rfl rfl (by (try simp only [List.map_toArray, List.map_cons, List.map_nil]); first | done | rfl | (simp only [List.length_drop, List.length_take]; rfl)) ?_
                          with_reducible refine (tupl_Less.calls ((rd_T41 x1_2 0).f0.f0) ((rd_T41 x1_2 0).f0.f1) ((rd_T41 x1_2 0).f1) ((rd_T41 x1_2 0).f2.f0) ((rd_T41 x1_2 0).f2.f1) ((rd_T41 x1_2 0).f2.f2) ((rd_T41 l0 x10_1).f0.f0) ((rd_T41 l0 x10_1).f0.f1) ((rd_T41 l0 x10_1).f1) ((rd_T41 l0 x10_1).f2.f0) ((rd_T41 l0 x10_1).f2.f1) ((rd_T41 l0 x10_1).f2.f2) false _ A10.out).mono ?_
                          rintro e w21 ⟨rfl, hb⟩
                          have HS6_ := (hb.cell (World.block_lt_of_cell? _ _ (hHeld.2.2.2.2.2.2.1))).trans (hHeld.2.2.2.2.2.2.1)
                          have HS7_ := (hb.cell (World.block_lt_of_cell? _ _ (hHeld.2.2.2.2.2.2.2.1))).trans (hHeld.2.2.2.2.2.2.2.1)
                          have HS8_ := (hb.cell (World.block_lt_of_cell? _ _ (hHeld.2.2.2.2.2.2.2.2.1))).trans (hHeld.2.2.2.2.2.2.2.2.1)
                          have HS9_ := (hb.cell (World.block_lt_of_cell? _ _ (hHeld.2.2.2.2.2.2.2.2.2.1))).trans (hHeld.2.2.2.2.2.2.2.2.2.1)
                          have HS10_ := (hb.cell (World.block_lt_of_cell? _ _ (hHeld.2.2.2.2.2.2.2.2.2.2.1))).trans (hHeld.2.2.2.2.2.2.2.2.2.2.1)
                          have HS11_ := (hb.cell (World.block_lt_of_cell? _ _ (hHeld.2.2.2.2.2.2.2.2.2.2.2))).trans (hHeld.2.2.2.2.2.2.2.2.2.2.2)
                          refine ⟨_, rfl, ?_⟩
                          have n0_ := Aside0.mk (Kd.V_below (by (with_reducible repeat (first | apply Kd.V_alloc | apply Kd.V_drewN | apply Kd.V_drew)); exact HO_1.out) hb)
                          have n1_ := Aside0.mk (Kd.R_below (by (with_reducible repeat (first | apply Kd.R_alloc | apply Kd.R_drewN | apply Kd.R_drew)); exact HO_5.out) hb)
                          have n2_ := Aside0.mk (blk_below (g := gb154) (o := .cells #[.string ((rd_T41 l0 x10_1).f0.f0), .string ((rd_T41 l0 x10_1).f0.f1), .string ((rd_T41 l0 x10_1).f1), .string ((rd_T41 l0 x10_1).f2.f0), .string ((rd_T41 l0 x10_1).f2.f1), .string ((rd_T41 l0 x10_1).f2.f2)] 41 (0, 0)) (by (with_reducible repeat (first | refine blk_drewN ?_ _ | refine blk_drew ?_ | refine blk_alloc ?_ _)); exact BK154.out) hb)
                          have n3_ := Aside0.mk (below_step (by repeat (first | (with_reducible first | exact HB.out | apply below_alloc | apply pw_below_drewN | apply below_drew1 | refine below_set ?_ GE154.out) | exact HB.out)) hb)
                          clear HO_1
                          clear HO_5
                          clear BK154
                          clear HB
                          have HO_1 := n0_
                          have HO_5 := n1_
                          have BK154 := n2_
                          have HB := n3_
                          clear n0_ n1_ n2_ n3_
                          (try clear hb)
                          (try clear hb2)
                          (try clear hk)
                          (try clear hi)
                          refine hK.out _ _ ⟨(blk_cell BK154.out 0).trans rfl, (blk_cell BK154.out 1).trans rfl, (blk_cell BK154.out 2).trans rfl, (blk_cell BK154.out 3).trans rfl, (blk_cell BK154.out 4).trans rfl, (blk_cell BK154.out 5).trans rfl, HS6_, HS7_, HS8_, HS9_, HS10_, HS11_⟩ (fun hHeld => ?_)
                          clear hK K
                          refine norm_ (a' := ?_) ?_ ?_
                          rotate_left
                          · show Act.put _ (some 22) _ = _
                            simp only [Act.put, List.setIfInBounds_toArray, List.set_cons_zero, List.set_cons_succ, i64_w, i32_w]
                            rfl
                          refine pure_ (i := 9) (N := some 23) (v := ?_) (a' := ?_) #[true, true, true, true, true, true, true, true, true, true] rfl rfl (any_of HT_.out (by kernel_rfl)) (fun _ _ _ h => h) (Or.inl ⟨by rfl, ?_⟩) ?_ ?_
                          rotate_left
                          · intro w'
                            go_simp
                            with_reducible rfl
                          rotate_left
                          · simp only [Act.put, List.setIfInBounds_toArray, List.set_cons_zero, List.set_cons_succ, i64_w, i32_w]
                            rfl
                          refine done_ (done_of HT_.out (by kernel_rfl)) ?_
                          try go_wp2
                          have n0_ := Aside0.mk (Kd.V_drew HO_1.out)
                          have n1_ := Aside0.mk (Kd.R_drew HO_5.out)
                          have n2_ := Aside0.mk (blk_drew BK154.out)
                          have n3_ := Aside0.mk (below_drew1 HB.out)
                          clear HO_1
                          clear HO_5
                          clear BK154
                          clear HB
                          have HO_1 := n0_
                          have HO_5 := n1_
                          have BK154 := n2_
                          have HB := n3_
                          clear n0_ n1_ n2_ n3_
                          refine start_ (n := 10) (S := fun w' => True) (ds := []) #[false, false, false, false, false, false, false, false, false, false] (by kernel_rfl) rfl rfl trivial (fun hHeld => ?_); refine with_tabW rows_without.tab7 rows_without.bits7 (fun HT_ HW_ => ?_)
                          generalize w21.drew = w22 at HO_1 HO_5 BK154 HB hHeld ⊢
                          refine pure_ (i := 0) (N := some 26) (v := ?_) (a' := ?_) #[true, false, false, false, false, false, false, false, false, false] rfl rfl (any_of HT_.out (by kernel_rfl)) (fun _ _ _ h => h) (Or.inl ⟨by rfl, ?_⟩) ?_ ?_
                          rotate_left
                          · intro w'
                            go_simp
                            with_reducible rfl
                          rotate_left
                          · simp only [Act.put, List.setIfInBounds_toArray, List.set_cons_zero, List.set_cons_succ, i64_w, i32_w]
                            rfl
                          refine pure_ (i := 1) (N := some 27) (v := ?_) (a' := ?_) #[true, true, false, false, false, false, false, false, false, false] rfl rfl (any_of HT_.out (by kernel_rfl)) (fun _ _ _ h => h) (Or.inl ⟨by rfl, ?_⟩) ?_ ?_
                          rotate_left
                          · intro w'
                            go_simp
                            with_reducible rfl
                          rotate_left
                          · simp only [Act.put, List.setIfInBounds_toArray, List.set_cons_zero, List.set_cons_succ, i64_w, i32_w]
                            rfl
                          refine pure_ (i := 2) (N := some 28) (v := ?_) (a' := ?_) #[true, true, true, false, false, false, false, false, false, false] rfl rfl (any_of HT_.out (by kernel_rfl)) (fun _ _ _ h => h) (Or.inl ⟨by rfl, ?_⟩) ?_ ?_
                          rotate_left
                          · intro w'
                            go_simp
                            with_reducible rfl
                          rotate_left
                          · simp only [Act.put, List.setIfInBounds_toArray, List.set_cons_zero, List.set_cons_succ, i64_w, i32_w]
                            rfl
                          refine pure_ (i := 3) (N := some 29) (v := ?_) (a' := ?_) #[true, true, true, true, false, false, false, false, false, false] rfl rfl (any_of HT_.out (by kernel_rfl)) (fun _ _ _ h => h) (Or.inl ⟨by rfl, ?_⟩) ?_ ?_
                          rotate_left
                          · intro w'
                            go_simp
                            with_reducible rfl
                          rotate_left
                          · simp only [Act.put, List.setIfInBounds_toArray, List.set_cons_zero, List.set_cons_succ, i64_w, i32_w]
                            rfl
                          refine pure_ (i := 4) (N := some 30) (v := undef) (a' := ?_) #[true, true, true, true, true, false, false, false, false, false] rfl rfl (any_of HT_.out (by kernel_rfl)) (fun _ _ _ h => h) (Or.inr ⟨by rfl, rfl⟩) ?_ ?_
                          rotate_left
                          · simp only [Act.put, List.setIfInBounds_toArray, List.set_cons_zero, List.set_cons_succ, i64_w, i32_w]
                            rfl
                          refine pure_ (i := 5) (N := some 31) (v := undef) (a' := ?_) #[true, true, true, true, true, true, false, false, false, false] rfl rfl (any_of HT_.out (by kernel_rfl)) (fun _ _ _ h => h) (Or.inr ⟨by rfl, rfl⟩) ?_ ?_
                          rotate_left
                          · simp only [Act.put, List.setIfInBounds_toArray, List.set_cons_zero, List.set_cons_succ, i64_w, i32_w]
                            rfl
                          refine pure_ (i := 6) (N := some 32) (v := undef) (a' := ?_) #[true, true, true, true, true, true, true, false, false, false] rfl rfl (any_of HT_.out (by kernel_rfl)) (fun _ _ _ h => h) (Or.inr ⟨by rfl, rfl⟩) ?_ ?_
                          rotate_left
                          · simp only [Act.put, List.setIfInBounds_toArray, List.set_cons_zero, List.set_cons_succ, i64_w, i32_w]
                            rfl
                          refine pure_ (i := 7) (N := some 33) (v := undef) (a' := ?_) #[true, true, true, true, true, true, true, true, false, false] rfl rfl (any_of HT_.out (by kernel_rfl)) (fun _ _ _ h => h) (Or.inr ⟨by rfl, rfl⟩) ?_ ?_
                          rotate_left
                          · simp only [Act.put, List.setIfInBounds_toArray, List.set_cons_zero, List.set_cons_succ, i64_w, i32_w]
                            rfl
                          refine pure_ (i := 8) (N := some 34) (v := undef) (a' := ?_) #[true, true, true, true, true, true, true, true, true, false] rfl rfl (any_of HT_.out (by kernel_rfl)) (fun _ _ _ h => h) (Or.inr ⟨by rfl, rfl⟩) ?_ ?_
                          rotate_left
                          · simp only [Act.put, List.setIfInBounds_toArray, List.set_cons_zero, List.set_cons_succ, i64_w, i32_w]
                            rfl
                          refine pure_ (i := 9) (N := some 35) (v := ?_) (a' := ?_) #[true, true, true, true, true, true, true, true, true, true] rfl rfl (any_of HT_.out (by kernel_rfl)) (fun _ _ _ h => h) (Or.inl ⟨by rfl, ?_⟩) ?_ ?_
                          rotate_left
                          · intro w'
                            go_simp
                            with_reducible rfl
                          rotate_left
                          · simp only [Act.put, List.setIfInBounds_toArray, List.set_cons_zero, List.set_cons_succ, i64_w, i32_w]
                            rfl
                          refine done_ (done_of HT_.out (by kernel_rfl)) ?_
                          have hcz23_0 : w22.cell? ⟨gb154, 0, none⟩ = some (.string ((rd_T41 l0 x10_1).f0.f0)) := (blk_cell BK154.out 0).trans rfl
                          have hcz23_1 : w22.cell? ⟨gb154, 1, none⟩ = some (.string ((rd_T41 l0 x10_1).f0.f1)) := (blk_cell BK154.out 1).trans rfl
                          have hcz23_2 : w22.cell? ⟨gb154, 2, none⟩ = some (.string ((rd_T41 l0 x10_1).f1)) := (blk_cell BK154.out 2).trans rfl
                          have hcz23_3 : w22.cell? ⟨gb154, 3, none⟩ = some (.string ((rd_T41 l0 x10_1).f2.f0)) := (blk_cell BK154.out 3).trans rfl
                          have hcz23_4 : w22.cell? ⟨gb154, 4, none⟩ = some (.string ((rd_T41 l0 x10_1).f2.f1)) := (blk_cell BK154.out 4).trans rfl
                          have hcz23_5 : w22.cell? ⟨gb154, 5, none⟩ = some (.string ((rd_T41 l0 x10_1).f2.f2)) := (blk_cell BK154.out 5).trans rfl
                          have hfz23_0 := blk_frozen BK154.out 0
                          have hfz23_1 := blk_frozen BK154.out 1
                          have hfz23_2 := blk_frozen BK154.out 2
                          have hfz23_3 := blk_frozen BK154.out 3
                          have hfz23_4 := blk_frozen BK154.out 4
                          have hfz23_5 := blk_frozen BK154.out 5
                          try go_wp2_with (first | ((with_reducible refine gate_builtin (b := .append) (xs := #[.tmp 36, .tmp 38]) rfl ?_); at_builtin; refine Kd.R_append k41 (w0 := w) w.heap.size rfl (.tmp 36) (.tmp 38) 23 41 (.agg #[(.string ⟨#[]⟩), (.string ⟨#[]⟩), (.string ⟨#[]⟩), (.string ⟨#[]⟩), (.string ⟨#[]⟩), (.string ⟨#[]⟩)]) 96 rfl Try.underlying23 info41 rfl (by decide) (by omega) u5 x5_1 (⟨(⟨((rd_T41 l0 x10_1).f0.f0), ((rd_T41 l0 x10_1).f0.f1)⟩ : S37), ((rd_T41 l0 x10_1).f1), (⟨((rd_T41 l0 x10_1).f2.f0), ((rd_T41 l0 x10_1).f2.f1), ((rd_T41 l0 x10_1).f2.f2)⟩ : S39)⟩ : S41) [.string ((rd_T41 l0 x10_1).f0.f0), .string ((rd_T41 l0 x10_1).f0.f1), .string ((rd_T41 l0 x10_1).f1), .string ((rd_T41 l0 x10_1).f2.f0), .string ((rd_T41 l0 x10_1).f2.f1), .string ((rd_T41 l0 x10_1).f2.f2)] (fun k_ => (w.heap.size ≤ k_) ∧ k_ ≠ gb154) (fun _ => False) rfl rfl ?aP (fun _ hk => hk.elim) ?aF ?aO ?aB ?aS ?aL ?_; (case aP => exact k41_mkM _ _ _ (⟨(⟨((rd_T41 l0 x10_1).f0.f0), ((rd_T41 l0 x10_1).f0.f1)⟩ : S37), ((rd_T41 l0 x10_1).f1), (⟨((rd_T41 l0 x10_1).f2.f0), ((rd_T41 l0 x10_1).f2.f1), ((rd_T41 l0 x10_1).f2.f2)⟩ : S39)⟩ : S41)); (case aB => exact (by repeat (first | (with_reducible first | exact HB.out | apply below_alloc | apply pw_below_drewN | apply below_drew1 | refine below_set ?_ GE154.out) | exact HB.out))); (case aF => exact (fun k_ hk => ⟨(Nat.le_trans (below_size (by repeat (first | (with_reducible first | exact HB.out | apply below_alloc | apply pw_below_drewN | apply below_drew1 | refine below_set ?_ GE154.out) | exact HB.out))) hk), Kd.freshB (g := gb154) (o := .cells #[.string ((rd_T41 l0 x10_1).f0.f0), .string ((rd_T41 l0 x10_1).f0.f1), .string ((rd_T41 l0 x10_1).f1), .string ((rd_T41 l0 x10_1).f2.f0), .string ((rd_T41 l0 x10_1).f2.f1), .string ((rd_T41 l0 x10_1).f2.f2)] 41 (0, 0)) (by (with_reducible repeat (first | refine blk_drewN ?_ _ | refine blk_drew ?_ | refine blk_alloc ?_ _)); exact BK154.out) k_ hk⟩)); (case aO => exact (by (with_reducible repeat (first | apply Kd.R_alloc | apply Kd.R_drewN | apply Kd.R_drew)); exact HO_5.out)); (case aS => exact (below_size (by repeat (first | (with_reducible first | exact HB.out | apply below_alloc | apply pw_below_drewN | apply below_drew1 | refine below_set ?_ GE154.out) | exact HB.out)))); (case aL => have := LMc18.out; omega); intro v163 w24 ho hb hg hat; rw [← Ny162.out] at ho; have n0_ := Aside0.mk (Kd.V_afterv (ok := (fun k_ => (P1_ k_ ∨ w.heap.size ≤ k_) ∧ k_ ≠ gb154)) (by (with_reducible repeat (first | apply Kd.V_alloc | apply Kd.V_drewN | apply Kd.V_drew)); exact Kd.V_mono HO_1.out (fun _ hk => ⟨⟨hk.1, hk.2.2⟩, hk.2.1⟩)) hg hat); have n1_ := Aside0.mk (blk_grown (g := gb154) (o := .cells #[.string ((rd_T41 l0 x10_1).f0.f0), .string ((rd_T41 l0 x10_1).f0.f1), .string ((rd_T41 l0 x10_1).f1), .string ((rd_T41 l0 x10_1).f2.f0), .string ((rd_T41 l0 x10_1).f2.f1), .string ((rd_T41 l0 x10_1).f2.f2)] 41 (0, 0)) (by (with_reducible repeat (first | refine blk_drewN ?_ _ | refine blk_drew ?_ | refine blk_alloc ?_ _)); exact BK154.out) hg (Kd.R_away HO_5.out (fun _ hk => hk.2))); have n2_ := Aside0.mk (hb); have n3_ := Aside0.mk (ho); clear HO_1; clear BK154; clear HB; clear HO_5; have HO_1 := n0_; have BK154 := n1_; have HB := n2_; have HO164 := n3_; clear n0_ n1_ n2_ n3_; clear ho hb hg hat))
                          go_roundg k2
                          case measure => have := HK1.out; have := HK2.out; omega
                          case rel => exact ⟨(x1_2), (y162), (wrap64 (x10_1 + 1)), (by first | rfl | (simp; done) | (simp [*]; done)), H', ⟨by have := HK1.out; have := HK2.out; omega⟩, ⟨by (with_reducible repeat (first | apply Kd.V_alloc | apply Kd.V_drewN | apply Kd.V_drew)); exact Kd.V_mono HO_1.out (fun _ hk => ⟨hk.1.1, hk.2⟩)⟩, ⟨by (with_reducible repeat (first | apply Kd.R_alloc | apply Kd.R_drewN | apply Kd.R_drew)); exact Kd.R_mono HO164.out (fun _ hk => hk.1)⟩, ⟨by repeat (first | (with_reducible first | exact HB.out | apply below_alloc | apply pw_below_drewN | apply below_drew1 | refine below_set ?_ GE154.out) | exact HB.out)⟩⟩
                        · rw [if_neg c18] at H
                          exact absurd H (by simp)
                      · rw [if_neg c17] at H
                        have c17b0 : ((x1_2.length : Int) == 0) = false := beq_eq_false_iff_ne.mpr c17
                        have c17b1 : ((x1_2.length : Int) != 0) = true := bne_iff_ne.mpr c17
                        have c17b2 : ¬ (x1_2 = []) := fun h_ => c17 (by rw [h_]; rfl)
                        by_cases c25 : ((!((((rd_T41 x1_2 0).f0.f0).toList) == ((rd_T41 l0 x10_1).f0.f0).toList) || (!((((rd_T41 x1_2 0).f0.f1).toList) == ((rd_T41 l0 x10_1).f0.f1).toList))) || (!((((rd_T41 x1_2 0).f1).toList) == ((rd_T41 l0 x10_1).f1).toList) || ((!((((rd_T41 x1_2 0).f2.f0).toList) == ((rd_T41 l0 x10_1).f2.f0).toList) || (!((((rd_T41 x1_2 0).f2.f1).toList) == ((rd_T41 l0 x10_1).f2.f1).toList) || (!((((rd_T41 x1_2 0).f2.f2).toList) == ((rd_T41 l0 x10_1).f2.f2).toList))))))) = true
                        · rw [if_pos c25] at H
                          have c25b0 : ((!((((rd_T41 x1_2 0).f0.f0).toList) == ((rd_T41 l0 x10_1).f0.f0).toList) || (!((((rd_T41 x1_2 0).f0.f1).toList) == ((rd_T41 l0 x10_1).f0.f1).toList))) || (!((((rd_T41 x1_2 0).f1).toList) == ((rd_T41 l0 x10_1).f1).toList) || ((!((((rd_T41 x1_2 0).f2.f0).toList) == ((rd_T41 l0 x10_1).f2.f0).toList) || (!((((rd_T41 x1_2 0).f2.f1).toList) == ((rd_T41 l0 x10_1).f2.f1).toList) || (!((((rd_T41 x1_2 0).f2.f2).toList) == ((rd_T41 l0 x10_1).f2.f2).toList))))))) = true := c25
                          clear c25
                          by_cases c26 : x5_1.length < 1466015503701
                          · rw [if_pos c26] at H
                            have LMc26 := Aside0.mk c26
                            clear c26
                            obtain ⟨y166, hy166⟩ : ∃ y_ : List (S41), y_ = (x5_1 ++ [(⟨(⟨((rd_T41 l0 x10_1).f0.f0), ((rd_T41 l0 x10_1).f0.f1)⟩ : S37), ((rd_T41 l0 x10_1).f1), (⟨((rd_T41 l0 x10_1).f2.f0), ((rd_T41 l0 x10_1).f2.f1), ((rd_T41 l0 x10_1).f2.f2)⟩ : S39)⟩ : S41)]) := ⟨_, rfl⟩
                            replace H : (rows_without.l0 k2 x1_2 y166 l0 (l0.length : Int) (wrap64 (x10_1 + 1))) = some r := by first | (rw [hy166]; with_reducible exact H) | (have H2_ := (Option.bind_some _ _).symm.trans H; rw [hy166]; with_reducible exact H2_) | (have H2_ := (Option.bind_some _ _).symm.trans H; with_reducible exact H2_) | with_reducible exact H | (rw [hy166]; exact H) | exact H
                            have Ny166 := Aside0.mk hy166
                            clear hy166
                            have H' := Aside0.mk H
                            clear H
                            try go_wp2
                            have n0_ := Aside0.mk (Kd.V_drew HO_1.out)
                            have n1_ := Aside0.mk (Kd.R_drew HO_5.out)
                            have n2_ := Aside0.mk (blk_drew BK154.out)
                            have n3_ := Aside0.mk (below_drew1 HB.out)
                            clear HO_1
                            clear HO_5
                            clear BK154
                            clear HB
                            have HO_1 := n0_
                            have HO_5 := n1_
                            have BK154 := n2_
                            have HB := n3_
                            clear n0_ n1_ n2_ n3_
                            obtain ⟨Ao28, co28, eo28⟩ := Kd.V_slice HO_1.out
                            (first | subst eo28 | (injection eo28 with f1_ f2_ f3_; have f4_ := f1_.symm; have f5_ := f3_.symm; clear f1_ f2_ f3_; subst f4_; subst f5_))
                            have p155 : 0 ≤ (0 : Int) := (by omega)
                            have q155 : 0 < (x1_2.length : Int) := of_decide_eq_true (by first | (with_reducible assumption) | assumption)
                            obtain ⟨ad155, e155, hx155_0, hx155_1, hx155_2, hx155_3, hx155_4, hx155_5⟩ := at_T41 (Kd.V_reads' HO_1.out).2.2 0 p155 q155
                            cases e155
                            have qi155 : (0 < x1_2.length) = True := eq_true (by omega)
                            (try rw [show ((0 : Int)).toNat = 0 from rfl] at hx155_0)
                            (try rw [show 0 * 6 = 0 from rfl] at hx155_0)
                            (try rw [Addr.add_zero'] at hx155_0)
                            (try rw [show ((0 : Int)).toNat = 0 from rfl] at hx155_1)
                            (try rw [show 0 * 6 = 0 from rfl] at hx155_1)
                            (try rw [Addr.add_zero'] at hx155_1)
                            (try rw [show ((0 : Int)).toNat = 0 from rfl] at hx155_2)
                            (try rw [show 0 * 6 = 0 from rfl] at hx155_2)
                            (try rw [Addr.add_zero'] at hx155_2)
                            (try rw [show ((0 : Int)).toNat = 0 from rfl] at hx155_3)
                            (try rw [show 0 * 6 = 0 from rfl] at hx155_3)
                            (try rw [Addr.add_zero'] at hx155_3)
                            (try rw [show ((0 : Int)).toNat = 0 from rfl] at hx155_4)
                            (try rw [show 0 * 6 = 0 from rfl] at hx155_4)
                            (try rw [Addr.add_zero'] at hx155_4)
                            (try rw [show ((0 : Int)).toNat = 0 from rfl] at hx155_5)
                            (try rw [show 0 * 6 = 0 from rfl] at hx155_5)
                            (try rw [Addr.add_zero'] at hx155_5)
                            replace p155 := eq_true p155
                            replace q155 := eq_true q155
                            refine start_ (n := 10) (S := fun w' => w'.cell? ⟨gb154, 0, none⟩ = some (.string ((rd_T41 l0 x10_1).f0.f0)) ∧ w'.cell? ⟨gb154, 1, none⟩ = some (.string ((rd_T41 l0 x10_1).f0.f1)) ∧ w'.cell? ⟨gb154, 2, none⟩ = some (.string ((rd_T41 l0 x10_1).f1)) ∧ w'.cell? ⟨gb154, 3, none⟩ = some (.string ((rd_T41 l0 x10_1).f2.f0)) ∧ w'.cell? ⟨gb154, 4, none⟩ = some (.string ((rd_T41 l0 x10_1).f2.f1)) ∧ w'.cell? ⟨gb154, 5, none⟩ = some (.string ((rd_T41 l0 x10_1).f2.f2)) ∧ w'.cell? ad155 = some (.string ((rd_T41 x1_2 0).f0.f0)) ∧ w'.cell? ⟨ad155.block, ad155.off + 1, none⟩ = some (.string ((rd_T41 x1_2 0).f0.f1)) ∧ w'.cell? ⟨ad155.block, ad155.off + 2, none⟩ = some (.string ((rd_T41 x1_2 0).f1)) ∧ w'.cell? ⟨ad155.block, ad155.off + 3, none⟩ = some (.string ((rd_T41 x1_2 0).f2.f0)) ∧ w'.cell? ⟨ad155.block, ad155.off + 4, none⟩ = some (.string ((rd_T41 x1_2 0).f2.f1)) ∧ w'.cell? ⟨ad155.block, ad155.off + 5, none⟩ = some (.string ((rd_T41 x1_2 0).f2.f2))) (ds := []) #[false, false, false, false, false, false, false, false, false, false] (by kernel_rfl) rfl rfl ⟨(blk_cell BK154.out 0).trans rfl, (blk_cell BK154.out 1).trans rfl, (blk_cell BK154.out 2).trans rfl, (blk_cell BK154.out 3).trans rfl, (blk_cell BK154.out 4).trans rfl, (blk_cell BK154.out 5).trans rfl, hx155_0, hx155_1, hx155_2, hx155_3, hx155_4, hx155_5⟩ (fun hHeld => ?_); refine with_tabW rows_without.tab5 rows_without.bits5 (fun HT_ HW_ => ?_)
                            generalize wr.drew = w27 at HO_1 HO_5 BK154 HB hx155_0 hx155_1 hx155_2 hx155_3 hx155_4 hx155_5 hHeld ⊢
                            refine pure_ (i := 0) (N := some 14) (v := ?_) (a' := ?_) #[true, false, false, false, false, false, false, false, false, false] rfl rfl (any_of HT_.out (by kernel_rfl)) (fun _ _ _ h => h) (Or.inl ⟨by rfl, ?_⟩) ?_ ?_
                            rotate_left
                            · intro w'
                              go_simp
                              with_reducible rfl
                            rotate_left
                            · simp only [Act.put, List.setIfInBounds_toArray, List.set_cons_zero, List.set_cons_succ, i64_w, i32_w]
                              rfl
                            refine pure_ (i := 1) (N := some 15) (v := ?_) (a' := ?_) #[true, true, false, false, false, false, false, false, false, false] rfl rfl (any_of HT_.out (by kernel_rfl)) (fun _ _ _ h => h) (Or.inl ⟨by rfl, ?_⟩) ?_ ?_
                            rotate_left
                            · intro w'
                              go_simp
                              with_reducible rfl
                            rotate_left
                            · simp only [Act.put, List.setIfInBounds_toArray, List.set_cons_zero, List.set_cons_succ, i64_w, i32_w]
                              rfl
                            refine pure_ (i := 2) (N := some 16) (v := ?_) (a' := ?_) #[true, true, true, false, false, false, false, false, false, false] rfl rfl (any_of HT_.out (by kernel_rfl)) (fun _ _ _ h => h) (Or.inl ⟨by rfl, ?_⟩) ?_ ?_
                            rotate_left
                            · intro w'
                              go_simp
                              with_reducible rfl
                            rotate_left
                            · simp only [Act.put, List.setIfInBounds_toArray, List.set_cons_zero, List.set_cons_succ, i64_w, i32_w]
                              rfl
                            refine pure_ (i := 3) (N := some 17) (v := ?_) (a' := ?_) #[true, true, true, true, false, false, false, false, false, false] rfl rfl (any_of HT_.out (by kernel_rfl)) (fun _ _ _ h => h) (Or.inl ⟨by rfl, ?_⟩) ?_ ?_
                            rotate_left
                            · intro w'
                              go_simp
                              with_reducible rfl
                            rotate_left
                            · simp only [Act.put, List.setIfInBounds_toArray, List.set_cons_zero, List.set_cons_succ, i64_w, i32_w]
                              rfl
                            refine pure_ (i := 4) (N := some 18) (v := ?_) (a' := ?_) #[true, true, true, true, true, false, false, false, false, false] rfl rfl (any_of HT_.out (by kernel_rfl)) (fun _ _ _ h => h) (Or.inl ⟨by rfl, ?_⟩) ?_ ?_
                            rotate_left
                            · intro w'
                              go_simp
                              with_reducible rfl
                            rotate_left
                            · simp only [Act.put, List.setIfInBounds_toArray, List.set_cons_zero, List.set_cons_succ, i64_w, i32_w]
                              rfl
                            refine pure_ (i := 5) (N := some 19) (v := ?_) (a' := ?_) #[true, true, true, true, true, true, false, false, false, false] rfl rfl (any_of HT_.out (by kernel_rfl)) (fun _ _ _ h => h) (Or.inl ⟨by rfl, ?_⟩) ?_ ?_
                            rotate_left
                            · intro w'
                              go_simp
                              with_reducible rfl
                            rotate_left
                            · simp only [Act.put, List.setIfInBounds_toArray, List.set_cons_zero, List.set_cons_succ, i64_w, i32_w]
                              rfl
                            refine take_ (i := 6) (N := some 20) (v := ?_) (a' := ?_) #[true, true, true, true, true, true, true, false, false, false] rfl rfl (take_ofW HT_.out HW_.out (by kernel_rfl)) (fun _ _ _ h => h) (Or.inl ⟨by rfl, ?_⟩) hHeld ?_ ?_
                            rotate_left
                            · rintro w' ⟨s0, s1, s2, s3, s4, s5, s6, s7, s8, s9, s10, s11⟩
                              go_simp
                              with_reducible rfl
                            rotate_left
                            · simp only [Act.put, List.setIfInBounds_toArray, List.set_cons_zero, List.set_cons_succ, i64_w, i32_w]
                              rfl
                            refine take_ (i := 7) (N := some 21) (v := ?_) (a' := ?_) #[true, true, true, true, true, true, true, true, false, false] rfl rfl (take_ofW HT_.out HW_.out (by kernel_rfl)) (fun _ _ _ h => h) (Or.inl ⟨by rfl, ?_⟩) hHeld ?_ ?_
                            rotate_left
                            · rintro w' ⟨s0, s1, s2, s3, s4, s5, s6, s7, s8, s9, s10, s11⟩
                              go_simp
                              with_reducible rfl
                            rotate_left
                            · simp only [Act.put, List.setIfInBounds_toArray, List.set_cons_zero, List.set_cons_succ, i64_w, i32_w]
                              rfl
                            refine one_ (i := 8) (N := some 22) #[true, true, true, true, true, true, true, true, true, false] rfl rfl (one_of HT_.out (by kernel_rfl)) (by decide) (fun K hK => ?_)
                            refine goes_ Try.func43 (by kernel_rfl) rfl #[.agg #[.string ((rd_T41 x1_2 0).f0.f0), .string ((rd_T41 x1_2 0).f0.f1), .string ((rd_T41 x1_2 0).f1), .string ((rd_T41 x1_2 0).f2.f0), .string ((rd_T41 x1_2 0).f2.f1), .string ((rd_T41 x1_2 0).f2.f2)], .agg #[.string ((rd_T41 l0 x10_1).f0.f0), .string ((rd_T41 l0 x10_1).f0.f1), .string ((rd_T41 l0 x10_1).f1), .string ((rd_T41 l0 x10_1).f2.f0), .string ((rd_T41 l0 x10_1).f2.f1), .string ((rd_T41 l0 x10_1).f2.f2)]] (by rfl) rfl rfl (by (try simp only [List.map_toArray, List.map_cons, List.map_nil]); first | done | rfl | (simp only [List.length_drop, List.length_take]; rfl)) ?_
                            with_reducible refine (tupl_Less.calls ((rd_T41 x1_2 0).f0.f0) ((rd_T41 x1_2 0).f0.f1) ((rd_T41 x1_2 0).f1) ((rd_T41 x1_2 0).f2.f0) ((rd_T41 x1_2 0).f2.f1) ((rd_T41 x1_2 0).f2.f2) ((rd_T41 l0 x10_1).f0.f0) ((rd_T41 l0 x10_1).f0.f1) ((rd_T41 l0 x10_1).f1) ((rd_T41 l0 x10_1).f2.f0) ((rd_T41 l0 x10_1).f2.f1) ((rd_T41 l0 x10_1).f2.f2) false _ A10.out).mono ?_
                            rintro e w29 ⟨rfl, hb⟩
                            have HS6_ := (hb.cell (World.block_lt_of_cell? _ _ (hHeld.2.2.2.2.2.2.1))).trans (hHeld.2.2.2.2.2.2.1)
                            have HS7_ := (hb.cell (World.block_lt_of_cell? _ _ (hHeld.2.2.2.2.2.2.2.1))).trans (hHeld.2.2.2.2.2.2.2.1)
                            have HS8_ := (hb.cell (World.block_lt_of_cell? _ _ (hHeld.2.2.2.2.2.2.2.2.1))).trans (hHeld.2.2.2.2.2.2.2.2.1)
                            have HS9_ := (hb.cell (World.block_lt_of_cell? _ _ (hHeld.2.2.2.2.2.2.2.2.2.1))).trans (hHeld.2.2.2.2.2.2.2.2.2.1)
                            have HS10_ := (hb.cell (World.block_lt_of_cell? _ _ (hHeld.2.2.2.2.2.2.2.2.2.2.1))).trans (hHeld.2.2.2.2.2.2.2.2.2.2.1)
                            have HS11_ := (hb.cell (World.block_lt_of_cell? _ _ (hHeld.2.2.2.2.2.2.2.2.2.2.2))).trans (hHeld.2.2.2.2.2.2.2.2.2.2.2)
                            refine ⟨_, rfl, ?_⟩
                            have n0_ := Aside0.mk (Kd.V_below (by (with_reducible repeat (first | apply Kd.V_alloc | apply Kd.V_drewN | apply Kd.V_drew)); exact HO_1.out) hb)
                            have n1_ := Aside0.mk (Kd.R_below (by (with_reducible repeat (first | apply Kd.R_alloc | apply Kd.R_drewN | apply Kd.R_drew)); exact HO_5.out) hb)
                            have n2_ := Aside0.mk (blk_below (g := gb154) (o := .cells #[.string ((rd_T41 l0 x10_1).f0.f0), .string ((rd_T41 l0 x10_1).f0.f1), .string ((rd_T41 l0 x10_1).f1), .string ((rd_T41 l0 x10_1).f2.f0), .string ((rd_T41 l0 x10_1).f2.f1), .string ((rd_T41 l0 x10_1).f2.f2)] 41 (0, 0)) (by (with_reducible repeat (first | refine blk_drewN ?_ _ | refine blk_drew ?_ | refine blk_alloc ?_ _)); exact BK154.out) hb)
                            have n3_ := Aside0.mk (below_step (by repeat (first | (with_reducible first | exact HB.out | apply below_alloc | apply pw_below_drewN | apply below_drew1 | refine below_set ?_ GE154.out) | exact HB.out)) hb)
                            clear HO_1
                            clear HO_5
                            clear BK154
                            clear HB
                            have HO_1 := n0_
                            have HO_5 := n1_
                            have BK154 := n2_
                            have HB := n3_
                            clear n0_ n1_ n2_ n3_
                            (try clear hb)
                            (try clear hb2)
                            (try clear hk)
                            (try clear hi)
                            refine hK.out _ _ ⟨(blk_cell BK154.out 0).trans rfl, (blk_cell BK154.out 1).trans rfl, (blk_cell BK154.out 2).trans rfl, (blk_cell BK154.out 3).trans rfl, (blk_cell BK154.out 4).trans rfl, (blk_cell BK154.out 5).trans rfl, HS6_, HS7_, HS8_, HS9_, HS10_, HS11_⟩ (fun hHeld => ?_)
                            clear hK K
                            refine norm_ (a' := ?_) ?_ ?_
                            rotate_left
                            · show Act.put _ (some 22) _ = _
                              simp only [Act.put, List.setIfInBounds_toArray, List.set_cons_zero, List.set_cons_succ, i64_w, i32_w]
                              rfl
                            refine pure_ (i := 9) (N := some 23) (v := ?_) (a' := ?_) #[true, true, true, true, true, true, true, true, true, true] rfl rfl (any_of HT_.out (by kernel_rfl)) (fun _ _ _ h => h) (Or.inl ⟨by rfl, ?_⟩) ?_ ?_
                            rotate_left
                            · intro w'
                              go_simp
                              with_reducible rfl
                            rotate_left
                            · simp only [Act.put, List.setIfInBounds_toArray, List.set_cons_zero, List.set_cons_succ, i64_w, i32_w]
                              rfl
                            refine done_ (done_of HT_.out (by kernel_rfl)) ?_
                            try go_wp2
                            have n0_ := Aside0.mk (Kd.V_drew HO_1.out)
                            have n1_ := Aside0.mk (Kd.R_drew HO_5.out)
                            have n2_ := Aside0.mk (blk_drew BK154.out)
                            have n3_ := Aside0.mk (below_drew1 HB.out)
                            clear HO_1
                            clear HO_5
                            clear BK154
                            clear HB
                            have HO_1 := n0_
                            have HO_5 := n1_
                            have BK154 := n2_
                            have HB := n3_
                            clear n0_ n1_ n2_ n3_
                            have p165 : 0 ≤ (0 : Int) := (by omega)
                            have q165 : 0 < (x1_2.length : Int) := of_decide_eq_true (by first | (with_reducible assumption) | assumption)
                            obtain ⟨ad165, e165, hx165_0, hx165_1, hx165_2, hx165_3, hx165_4, hx165_5⟩ := at_T41 (Kd.V_reads' HO_1.out).2.2 0 p165 q165
                            obtain rfl : ad155 = ad165 := (by injection e165)
                            have qi165 : (0 < x1_2.length) = True := eq_true (by omega)
                            (try rw [show ((0 : Int)).toNat = 0 from rfl] at hx165_0)
                            (try rw [show 0 * 6 = 0 from rfl] at hx165_0)
                            (try rw [Addr.add_zero'] at hx165_0)
                            (try rw [show ((0 : Int)).toNat = 0 from rfl] at hx165_1)
                            (try rw [show 0 * 6 = 0 from rfl] at hx165_1)
                            (try rw [Addr.add_zero'] at hx165_1)
                            (try rw [show ((0 : Int)).toNat = 0 from rfl] at hx165_2)
                            (try rw [show 0 * 6 = 0 from rfl] at hx165_2)
                            (try rw [Addr.add_zero'] at hx165_2)
                            (try rw [show ((0 : Int)).toNat = 0 from rfl] at hx165_3)
                            (try rw [show 0 * 6 = 0 from rfl] at hx165_3)
                            (try rw [Addr.add_zero'] at hx165_3)
                            (try rw [show ((0 : Int)).toNat = 0 from rfl] at hx165_4)
                            (try rw [show 0 * 6 = 0 from rfl] at hx165_4)
                            (try rw [Addr.add_zero'] at hx165_4)
                            (try rw [show ((0 : Int)).toNat = 0 from rfl] at hx165_5)
                            (try rw [show 0 * 6 = 0 from rfl] at hx165_5)
                            (try rw [Addr.add_zero'] at hx165_5)
                            replace p165 := eq_true p165
                            replace q165 := eq_true q165
                            refine start_ (n := 10) (S := fun w' => w'.cell? ⟨gb154, 0, none⟩ = some (.string ((rd_T41 l0 x10_1).f0.f0)) ∧ w'.cell? ⟨gb154, 1, none⟩ = some (.string ((rd_T41 l0 x10_1).f0.f1)) ∧ w'.cell? ⟨gb154, 2, none⟩ = some (.string ((rd_T41 l0 x10_1).f1)) ∧ w'.cell? ⟨gb154, 3, none⟩ = some (.string ((rd_T41 l0 x10_1).f2.f0)) ∧ w'.cell? ⟨gb154, 4, none⟩ = some (.string ((rd_T41 l0 x10_1).f2.f1)) ∧ w'.cell? ⟨gb154, 5, none⟩ = some (.string ((rd_T41 l0 x10_1).f2.f2)) ∧ w'.cell? ad155 = some (.string ((rd_T41 x1_2 0).f0.f0)) ∧ w'.cell? ⟨ad155.block, ad155.off + 1, none⟩ = some (.string ((rd_T41 x1_2 0).f0.f1)) ∧ w'.cell? ⟨ad155.block, ad155.off + 2, none⟩ = some (.string ((rd_T41 x1_2 0).f1)) ∧ w'.cell? ⟨ad155.block, ad155.off + 3, none⟩ = some (.string ((rd_T41 x1_2 0).f2.f0)) ∧ w'.cell? ⟨ad155.block, ad155.off + 4, none⟩ = some (.string ((rd_T41 x1_2 0).f2.f1)) ∧ w'.cell? ⟨ad155.block, ad155.off + 5, none⟩ = some (.string ((rd_T41 x1_2 0).f2.f2))) (ds := []) #[false, false, false, false, false, false, false, false, false, false] (by kernel_rfl) rfl rfl ⟨(blk_cell BK154.out 0).trans rfl, (blk_cell BK154.out 1).trans rfl, (blk_cell BK154.out 2).trans rfl, (blk_cell BK154.out 3).trans rfl, (blk_cell BK154.out 4).trans rfl, (blk_cell BK154.out 5).trans rfl, hx165_0, hx165_1, hx165_2, hx165_3, hx165_4, hx165_5⟩ (fun hHeld => ?_); refine with_tabW rows_without.tab7 rows_without.bits7 (fun HT_ HW_ => ?_)
                            generalize w29.drew = w30 at HO_1 HO_5 BK154 HB hx165_0 hx165_1 hx165_2 hx165_3 hx165_4 hx165_5 hHeld ⊢
                            refine pure_ (i := 0) (N := some 26) (v := ?_) (a' := ?_) #[true, false, false, false, false, false, false, false, false, false] rfl rfl (any_of HT_.out (by kernel_rfl)) (fun _ _ _ h => h) (Or.inl ⟨by rfl, ?_⟩) ?_ ?_
                            rotate_left
                            · intro w'
                              go_simp
                              with_reducible rfl
                            rotate_left
                            · simp only [Act.put, List.setIfInBounds_toArray, List.set_cons_zero, List.set_cons_succ, i64_w, i32_w]
                              rfl
                            refine pure_ (i := 1) (N := some 27) (v := ?_) (a' := ?_) #[true, true, false, false, false, false, false, false, false, false] rfl rfl (any_of HT_.out (by kernel_rfl)) (fun _ _ _ h => h) (Or.inl ⟨by rfl, ?_⟩) ?_ ?_
                            rotate_left
                            · intro w'
                              go_simp
                              with_reducible rfl
                            rotate_left
                            · simp only [Act.put, List.setIfInBounds_toArray, List.set_cons_zero, List.set_cons_succ, i64_w, i32_w]
                              rfl
                            refine pure_ (i := 2) (N := some 28) (v := ?_) (a' := ?_) #[true, true, true, false, false, false, false, false, false, false] rfl rfl (any_of HT_.out (by kernel_rfl)) (fun _ _ _ h => h) (Or.inl ⟨by rfl, ?_⟩) ?_ ?_
                            rotate_left
                            · intro w'
                              go_simp
                              with_reducible rfl
                            rotate_left
                            · simp only [Act.put, List.setIfInBounds_toArray, List.set_cons_zero, List.set_cons_succ, i64_w, i32_w]
                              rfl
                            refine pure_ (i := 3) (N := some 29) (v := ?_) (a' := ?_) #[true, true, true, true, false, false, false, false, false, false] rfl rfl (any_of HT_.out (by kernel_rfl)) (fun _ _ _ h => h) (Or.inl ⟨by rfl, ?_⟩) ?_ ?_
                            rotate_left
                            · intro w'
                              go_simp
                              with_reducible rfl
                            rotate_left
                            · simp only [Act.put, List.setIfInBounds_toArray, List.set_cons_zero, List.set_cons_succ, i64_w, i32_w]
                              rfl
                            refine pure_ (i := 4) (N := some 30) (v := ?_) (a' := ?_) #[true, true, true, true, true, false, false, false, false, false] rfl rfl (any_of HT_.out (by kernel_rfl)) (fun _ _ _ h => h) (Or.inl ⟨by rfl, ?_⟩) ?_ ?_
                            rotate_left
                            · intro w'
                              go_simp
                              with_reducible rfl
                            rotate_left
                            · simp only [Act.put, List.setIfInBounds_toArray, List.set_cons_zero, List.set_cons_succ, i64_w, i32_w]
                              rfl
                            refine pure_ (i := 5) (N := some 31) (v := ?_) (a' := ?_) #[true, true, true, true, true, true, false, false, false, false] rfl rfl (any_of HT_.out (by kernel_rfl)) (fun _ _ _ h => h) (Or.inl ⟨by rfl, ?_⟩) ?_ ?_
                            rotate_left
                            · intro w'
                              go_simp
                              with_reducible rfl
                            rotate_left
                            · simp only [Act.put, List.setIfInBounds_toArray, List.set_cons_zero, List.set_cons_succ, i64_w, i32_w]
                              rfl
                            refine take_ (i := 6) (N := some 32) (v := ?_) (a' := ?_) #[true, true, true, true, true, true, true, false, false, false] rfl rfl (take_ofW HT_.out HW_.out (by kernel_rfl)) (fun _ _ _ h => h) (Or.inl ⟨by rfl, ?_⟩) hHeld ?_ ?_
                            rotate_left
                            · rintro w' ⟨s0, s1, s2, s3, s4, s5, s6, s7, s8, s9, s10, s11⟩
                              go_simp
                              with_reducible rfl
                            rotate_left
                            · simp only [Act.put, List.setIfInBounds_toArray, List.set_cons_zero, List.set_cons_succ, i64_w, i32_w]
                              rfl
                            refine take_ (i := 7) (N := some 33) (v := ?_) (a' := ?_) #[true, true, true, true, true, true, true, true, false, false] rfl rfl (take_ofW HT_.out HW_.out (by kernel_rfl)) (fun _ _ _ h => h) (Or.inl ⟨by rfl, ?_⟩) hHeld ?_ ?_
                            rotate_left
                            · rintro w' ⟨s0, s1, s2, s3, s4, s5, s6, s7, s8, s9, s10, s11⟩
                              go_simp
                              with_reducible rfl
                            rotate_left
                            · simp only [Act.put, List.setIfInBounds_toArray, List.set_cons_zero, List.set_cons_succ, i64_w, i32_w]
                              rfl
                            refine pure_ (i := 8) (N := some 34) (v := ?_) (a' := ?_) #[true, true, true, true, true, true, true, true, true, false] rfl rfl (any_of HT_.out (by kernel_rfl)) (fun _ _ _ h => h) (Or.inl ⟨by rfl, ?_⟩) ?_ ?_
                            rotate_left
                            · intro w'
                              go_simp
                              with_reducible rfl
                            rotate_left
                            · simp only [Act.put, List.setIfInBounds_toArray, List.set_cons_zero, List.set_cons_succ, i64_w, i32_w]
                              rfl
                            refine pure_ (i := 9) (N := some 35) (v := ?_) (a' := ?_) #[true, true, true, true, true, true, true, true, true, true] rfl rfl (any_of HT_.out (by kernel_rfl)) (fun _ _ _ h => h) (Or.inl ⟨by rfl, ?_⟩) ?_ ?_
                            rotate_left
                            · intro w'
                              go_simp
                              with_reducible rfl
                            rotate_left
                            · simp only [Act.put, List.setIfInBounds_toArray, List.set_cons_zero, List.set_cons_succ, i64_w, i32_w]
                              rfl
                            refine done_ (done_of HT_.out (by kernel_rfl)) ?_
                            have hcz31_0 : w30.cell? ⟨gb154, 0, none⟩ = some (.string ((rd_T41 l0 x10_1).f0.f0)) := (blk_cell BK154.out 0).trans rfl
                            have hcz31_1 : w30.cell? ⟨gb154, 1, none⟩ = some (.string ((rd_T41 l0 x10_1).f0.f1)) := (blk_cell BK154.out 1).trans rfl
                            have hcz31_2 : w30.cell? ⟨gb154, 2, none⟩ = some (.string ((rd_T41 l0 x10_1).f1)) := (blk_cell BK154.out 2).trans rfl
                            have hcz31_3 : w30.cell? ⟨gb154, 3, none⟩ = some (.string ((rd_T41 l0 x10_1).f2.f0)) := (blk_cell BK154.out 3).trans rfl
                            have hcz31_4 : w30.cell? ⟨gb154, 4, none⟩ = some (.string ((rd_T41 l0 x10_1).f2.f1)) := (blk_cell BK154.out 4).trans rfl
                            have hcz31_5 : w30.cell? ⟨gb154, 5, none⟩ = some (.string ((rd_T41 l0 x10_1).f2.f2)) := (blk_cell BK154.out 5).trans rfl
                            have hfz31_0 := blk_frozen BK154.out 0
                            have hfz31_1 := blk_frozen BK154.out 1
                            have hfz31_2 := blk_frozen BK154.out 2
                            have hfz31_3 := blk_frozen BK154.out 3
                            have hfz31_4 := blk_frozen BK154.out 4
                            have hfz31_5 := blk_frozen BK154.out 5
                            try go_wp2_with (first | ((with_reducible refine gate_builtin (b := .append) (xs := #[.tmp 36, .tmp 38]) rfl ?_); at_builtin; refine Kd.R_append k41 (w0 := w) w.heap.size rfl (.tmp 36) (.tmp 38) 23 41 (.agg #[(.string ⟨#[]⟩), (.string ⟨#[]⟩), (.string ⟨#[]⟩), (.string ⟨#[]⟩), (.string ⟨#[]⟩), (.string ⟨#[]⟩)]) 96 rfl Try.underlying23 info41 rfl (by decide) (by omega) u5 x5_1 (⟨(⟨((rd_T41 l0 x10_1).f0.f0), ((rd_T41 l0 x10_1).f0.f1)⟩ : S37), ((rd_T41 l0 x10_1).f1), (⟨((rd_T41 l0 x10_1).f2.f0), ((rd_T41 l0 x10_1).f2.f1), ((rd_T41 l0 x10_1).f2.f2)⟩ : S39)⟩ : S41) [.string ((rd_T41 l0 x10_1).f0.f0), .string ((rd_T41 l0 x10_1).f0.f1), .string ((rd_T41 l0 x10_1).f1), .string ((rd_T41 l0 x10_1).f2.f0), .string ((rd_T41 l0 x10_1).f2.f1), .string ((rd_T41 l0 x10_1).f2.f2)] (fun k_ => (w.heap.size ≤ k_) ∧ k_ ≠ gb154) (fun _ => False) rfl rfl ?aP (fun _ hk => hk.elim) ?aF ?aO ?aB ?aS ?aL ?_; (case aP => exact k41_mkM _ _ _ (⟨(⟨((rd_T41 l0 x10_1).f0.f0), ((rd_T41 l0 x10_1).f0.f1)⟩ : S37), ((rd_T41 l0 x10_1).f1), (⟨((rd_T41 l0 x10_1).f2.f0), ((rd_T41 l0 x10_1).f2.f1), ((rd_T41 l0 x10_1).f2.f2)⟩ : S39)⟩ : S41)); (case aB => exact (by repeat (first | (with_reducible first | exact HB.out | apply below_alloc | apply pw_below_drewN | apply below_drew1 | refine below_set ?_ GE154.out) | exact HB.out))); (case aF => exact (fun k_ hk => ⟨(Nat.le_trans (below_size (by repeat (first | (with_reducible first | exact HB.out | apply below_alloc | apply pw_below_drewN | apply below_drew1 | refine below_set ?_ GE154.out) | exact HB.out))) hk), Kd.freshB (g := gb154) (o := .cells #[.string ((rd_T41 l0 x10_1).f0.f0), .string ((rd_T41 l0 x10_1).f0.f1), .string ((rd_T41 l0 x10_1).f1), .string ((rd_T41 l0 x10_1).f2.f0), .string ((rd_T41 l0 x10_1).f2.f1), .string ((rd_T41 l0 x10_1).f2.f2)] 41 (0, 0)) (by (with_reducible repeat (first | refine blk_drewN ?_ _ | refine blk_drew ?_ | refine blk_alloc ?_ _)); exact BK154.out) k_ hk⟩)); (case aO => exact (by (with_reducible repeat (first | apply Kd.R_alloc | apply Kd.R_drewN | apply Kd.R_drew)); exact HO_5.out)); (case aS => exact (below_size (by repeat (first | (with_reducible first | exact HB.out | apply below_alloc | apply pw_below_drewN | apply below_drew1 | refine below_set ?_ GE154.out) | exact HB.out)))); (case aL => have := LMc26.out; omega); intro v167 w32 ho hb hg hat; rw [← Ny166.out] at ho; have n0_ := Aside0.mk (Kd.V_afterv (ok := (fun k_ => (P1_ k_ ∨ w.heap.size ≤ k_) ∧ k_ ≠ gb154)) (by (with_reducible repeat (first | apply Kd.V_alloc | apply Kd.V_drewN | apply Kd.V_drew)); exact Kd.V_mono HO_1.out (fun _ hk => ⟨⟨hk.1, hk.2.2⟩, hk.2.1⟩)) hg hat); have n1_ := Aside0.mk (blk_grown (g := gb154) (o := .cells #[.string ((rd_T41 l0 x10_1).f0.f0), .string ((rd_T41 l0 x10_1).f0.f1), .string ((rd_T41 l0 x10_1).f1), .string ((rd_T41 l0 x10_1).f2.f0), .string ((rd_T41 l0 x10_1).f2.f1), .string ((rd_T41 l0 x10_1).f2.f2)] 41 (0, 0)) (by (with_reducible repeat (first | refine blk_drewN ?_ _ | refine blk_drew ?_ | refine blk_alloc ?_ _)); exact BK154.out) hg (Kd.R_away HO_5.out (fun _ hk => hk.2))); have n2_ := Aside0.mk (hb); have n3_ := Aside0.mk (ho); clear HO_1; clear BK154; clear HB; clear HO_5; have HO_1 := n0_; have BK154 := n1_; have HB := n2_; have HO168 := n3_; clear n0_ n1_ n2_ n3_; clear ho hb hg hat))
                            go_roundg k2
                            case measure => have := HK1.out; have := HK2.out; omega
                            case rel => exact ⟨(x1_2), (y166), (wrap64 (x10_1 + 1)), (by first | rfl | (simp; done) | (simp [*]; done)), H', ⟨by have := HK1.out; have := HK2.out; omega⟩, ⟨by (with_reducible repeat (first | apply Kd.V_alloc | apply Kd.V_drewN | apply Kd.V_drew)); exact Kd.V_mono HO_1.out (fun _ hk => ⟨hk.1.1, hk.2⟩)⟩, ⟨by (with_reducible repeat (first | apply Kd.R_alloc | apply Kd.R_drewN | apply Kd.R_drew)); exact Kd.R_mono HO168.out (fun _ hk => hk.1)⟩, ⟨by repeat (first | (with_reducible first | exact HB.out | apply below_alloc | apply pw_below_drewN | apply below_drew1 | refine below_set ?_ GE154.out) | exact HB.out)⟩⟩
                          · rw [if_neg c26] at H
                            exact absurd H (by simp)
                        · rw [if_neg c25] at H
                          have c25b0 : ((!((((rd_T41 x1_2 0).f0.f0).toList) == ((rd_T41 l0 x10_1).f0.f0).toList) || (!((((rd_T41 x1_2 0).f0.f1).toList) == ((rd_T41 l0 x10_1).f0.f1).toList))) || (!((((rd_T41 x1_2 0).f1).toList) == ((rd_T41 l0 x10_1).f1).toList) || ((!((((rd_T41 x1_2 0).f2.f0).toList) == ((rd_T41 l0 x10_1).f2.f0).toList) || (!((((rd_T41 x1_2 0).f2.f1).toList) == ((rd_T41 l0 x10_1).f2.f1).toList) || (!((((rd_T41 x1_2 0).f2.f2).toList) == ((rd_T41 l0 x10_1).f2.f2).toList))))))) = false := by simpa using c25
                          clear c25
                          have H' := Aside0.mk H
                          clear H
                          try go_wp2
                          have n0_ := Aside0.mk (Kd.V_drew HO_1.out)
                          have n1_ := Aside0.mk (Kd.R_drew HO_5.out)
                          have n2_ := Aside0.mk (blk_drew BK154.out)
                          have n3_ := Aside0.mk (below_drew1 HB.out)
                          clear HO_1
                          clear HO_5
                          clear BK154
                          clear HB
                          have HO_1 := n0_
                          have HO_5 := n1_
                          have BK154 := n2_
                          have HB := n3_
                          clear n0_ n1_ n2_ n3_
                          obtain ⟨Ao34, co34, eo34⟩ := Kd.V_slice HO_1.out
                          (first | subst eo34 | (injection eo34 with f1_ f2_ f3_; have f4_ := f1_.symm; have f5_ := f3_.symm; clear f1_ f2_ f3_; subst f4_; subst f5_))
                          have p155 : 0 ≤ (0 : Int) := (by omega)
                          have q155 : 0 < (x1_2.length : Int) := of_decide_eq_true (by first | (with_reducible assumption) | assumption)
                          obtain ⟨ad155, e155, hx155_0, hx155_1, hx155_2, hx155_3, hx155_4, hx155_5⟩ := at_T41 (Kd.V_reads' HO_1.out).2.2 0 p155 q155
                          cases e155
                          have qi155 : (0 < x1_2.length) = True := eq_true (by omega)
                          (try rw [show ((0 : Int)).toNat = 0 from rfl] at hx155_0)
                          (try rw [show 0 * 6 = 0 from rfl] at hx155_0)
                          (try rw [Addr.add_zero'] at hx155_0)
                          (try rw [show ((0 : Int)).toNat = 0 from rfl] at hx155_1)
                          (try rw [show 0 * 6 = 0 from rfl] at hx155_1)
                          (try rw [Addr.add_zero'] at hx155_1)
                          (try rw [show ((0 : Int)).toNat = 0 from rfl] at hx155_2)
                          (try rw [show 0 * 6 = 0 from rfl] at hx155_2)
                          (try rw [Addr.add_zero'] at hx155_2)
                          (try rw [show ((0 : Int)).toNat = 0 from rfl] at hx155_3)
                          (try rw [show 0 * 6 = 0 from rfl] at hx155_3)
                          (try rw [Addr.add_zero'] at hx155_3)
                          (try rw [show ((0 : Int)).toNat = 0 from rfl] at hx155_4)
                          (try rw [show 0 * 6 = 0 from rfl] at hx155_4)
                          (try rw [Addr.add_zero'] at hx155_4)
                          (try rw [show ((0 : Int)).toNat = 0 from rfl] at hx155_5)
                          (try rw [show 0 * 6 = 0 from rfl] at hx155_5)
                          (try rw [Addr.add_zero'] at hx155_5)
                          replace p155 := eq_true p155
                          replace q155 := eq_true q155
                          refine start_ (n := 10) (S := fun w' => w'.cell? ⟨gb154, 0, none⟩ = some (.string ((rd_T41 l0 x10_1).f0.f0)) ∧ w'.cell? ⟨gb154, 1, none⟩ = some (.string ((rd_T41 l0 x10_1).f0.f1)) ∧ w'.cell? ⟨gb154, 2, none⟩ = some (.string ((rd_T41 l0 x10_1).f1)) ∧ w'.cell? ⟨gb154, 3, none⟩ = some (.string ((rd_T41 l0 x10_1).f2.f0)) ∧ w'.cell? ⟨gb154, 4, none⟩ = some (.string ((rd_T41 l0 x10_1).f2.f1)) ∧ w'.cell? ⟨gb154, 5, none⟩ = some (.string ((rd_T41 l0 x10_1).f2.f2)) ∧ w'.cell? ad155 = some (.string ((rd_T41 x1_2 0).f0.f0)) ∧ w'.cell? ⟨ad155.block, ad155.off + 1, none⟩ = some (.string ((rd_T41 x1_2 0).f0.f1)) ∧ w'.cell? ⟨ad155.block, ad155.off + 2, none⟩ = some (.string ((rd_T41 x1_2 0).f1)) ∧ w'.cell? ⟨ad155.block, ad155.off + 3, none⟩ = some (.string ((rd_T41 x1_2 0).f2.f0)) ∧ w'.cell? ⟨ad155.block, ad155.off + 4, none⟩ = some (.string ((rd_T41 x1_2 0).f2.f1)) ∧ w'.cell? ⟨ad155.block, ad155.off + 5, none⟩ = some (.string ((rd_T41 x1_2 0).f2.f2))) (ds := []) #[false, false, false, false, false, false, false, false, false, false] (by kernel_rfl) rfl rfl ⟨(blk_cell BK154.out 0).trans rfl, (blk_cell BK154.out 1).trans rfl, (blk_cell BK154.out 2).trans rfl, (blk_cell BK154.out 3).trans rfl, (blk_cell BK154.out 4).trans rfl, (blk_cell BK154.out 5).trans rfl, hx155_0, hx155_1, hx155_2, hx155_3, hx155_4, hx155_5⟩ (fun hHeld => ?_); refine with_tabW rows_without.tab5 rows_without.bits5 (fun HT_ HW_ => ?_)
                          generalize wr.drew = w33 at HO_1 HO_5 BK154 HB hx155_0 hx155_1 hx155_2 hx155_3 hx155_4 hx155_5 hHeld ⊢
                          refine pure_ (i := 0) (N := some 14) (v := ?_) (a' := ?_) #[true, false, false, false, false, false, false, false, false, false] rfl rfl (any_of HT_.out (by kernel_rfl)) (fun _ _ _ h => h) (Or.inl ⟨by rfl, ?_⟩) ?_ ?_
                          rotate_left
                          · intro w'
                            go_simp
                            with_reducible rfl
                          rotate_left
                          · simp only [Act.put, List.setIfInBounds_toArray, List.set_cons_zero, List.set_cons_succ, i64_w, i32_w]
                            rfl
                          refine pure_ (i := 1) (N := some 15) (v := ?_) (a' := ?_) #[true, true, false, false, false, false, false, false, false, false] rfl rfl (any_of HT_.out (by kernel_rfl)) (fun _ _ _ h => h) (Or.inl ⟨by rfl, ?_⟩) ?_ ?_
                          rotate_left
                          · intro w'
                            go_simp
                            with_reducible rfl
                          rotate_left
                          · simp only [Act.put, List.setIfInBounds_toArray, List.set_cons_zero, List.set_cons_succ, i64_w, i32_w]
                            rfl
                          refine pure_ (i := 2) (N := some 16) (v := ?_) (a' := ?_) #[true, true, true, false, false, false, false, false, false, false] rfl rfl (any_of HT_.out (by kernel_rfl)) (fun _ _ _ h => h) (Or.inl ⟨by rfl, ?_⟩) ?_ ?_
                          rotate_left
                          · intro w'
                            go_simp
                            with_reducible rfl
                          rotate_left
                          · simp only [Act.put, List.setIfInBounds_toArray, List.set_cons_zero, List.set_cons_succ, i64_w, i32_w]
                            rfl
                          refine pure_ (i := 3) (N := some 17) (v := ?_) (a' := ?_) #[true, true, true, true, false, false, false, false, false, false] rfl rfl (any_of HT_.out (by kernel_rfl)) (fun _ _ _ h => h) (Or.inl ⟨by rfl, ?_⟩) ?_ ?_
                          rotate_left
                          · intro w'
                            go_simp
                            with_reducible rfl
                          rotate_left
                          · simp only [Act.put, List.setIfInBounds_toArray, List.set_cons_zero, List.set_cons_succ, i64_w, i32_w]
                            rfl
                          refine pure_ (i := 4) (N := some 18) (v := ?_) (a' := ?_) #[true, true, true, true, true, false, false, false, false, false] rfl rfl (any_of HT_.out (by kernel_rfl)) (fun _ _ _ h => h) (Or.inl ⟨by rfl, ?_⟩) ?_ ?_
                          rotate_left
                          · intro w'
                            go_simp
                            with_reducible rfl
                          rotate_left
                          · simp only [Act.put, List.setIfInBounds_toArray, List.set_cons_zero, List.set_cons_succ, i64_w, i32_w]
                            rfl
                          refine pure_ (i := 5) (N := some 19) (v := ?_) (a' := ?_) #[true, true, true, true, true, true, false, false, false, false] rfl rfl (any_of HT_.out (by kernel_rfl)) (fun _ _ _ h => h) (Or.inl ⟨by rfl, ?_⟩) ?_ ?_
                          rotate_left
                          · intro w'
                            go_simp
                            with_reducible rfl
                          rotate_left
                          · simp only [Act.put, List.setIfInBounds_toArray, List.set_cons_zero, List.set_cons_succ, i64_w, i32_w]
                            rfl
                          refine take_ (i := 6) (N := some 20) (v := ?_) (a' := ?_) #[true, true, true, true, true, true, true, false, false, false] rfl rfl (take_ofW HT_.out HW_.out (by kernel_rfl)) (fun _ _ _ h => h) (Or.inl ⟨by rfl, ?_⟩) hHeld ?_ ?_
                          rotate_left
                          · rintro w' ⟨s0, s1, s2, s3, s4, s5, s6, s7, s8, s9, s10, s11⟩
                            go_simp
                            with_reducible rfl
                          rotate_left
                          · simp only [Act.put, List.setIfInBounds_toArray, List.set_cons_zero, List.set_cons_succ, i64_w, i32_w]
                            rfl
                          refine take_ (i := 7) (N := some 21) (v := ?_) (a' := ?_) #[true, true, true, true, true, true, true, true, false, false] rfl rfl (take_ofW HT_.out HW_.out (by kernel_rfl)) (fun _ _ _ h => h) (Or.inl ⟨by rfl, ?_⟩) hHeld ?_ ?_
                          rotate_left
                          · rintro w' ⟨s0, s1, s2, s3, s4, s5, s6, s7, s8, s9, s10, s11⟩
                            go_simp
                            with_reducible rfl
                          rotate_left
                          · simp only [Act.put, List.setIfInBounds_toArray, List.set_cons_zero, List.set_cons_succ, i64_w, i32_w]
                            rfl
                          refine one_ (i := 8) (N := some 22) #[true, true, true, true, true, true, true, true, true, false] rfl rfl (one_of HT_.out (by kernel_rfl)) (by decide) (fun K hK => ?_)
                          refine goes_ Try.func43 (by kernel_rfl) rfl #[.agg #[.string ((rd_T41 x1_2 0).f0.f0), .string ((rd_T41 x1_2 0).f0.f1), .string ((rd_T41 x1_2 0).f1), .string ((rd_T41 x1_2 0).f2.f0), .string ((rd_T41 x1_2 0).f2.f1), .string ((rd_T41 x1_2 0).f2.f2)], .agg #[.string ((rd_T41 l0 x10_1).f0.f0), .string ((rd_T41 l0 x10_1).f0.f1), .string ((rd_T41 l0 x10_1).f1), .string ((rd_T41 l0 x10_1).f2.f0), .string ((rd_T41 l0 x10_1).f2.f1), .string ((rd_T41 l0 x10_1).f2.f2)]] (by rfl) rfl rfl (by (try simp only [List.map_toArray, List.map_cons, List.map_nil]); first | done | rfl | (simp only [List.length_drop, List.length_take]; rfl)) ?_
                          with_reducible refine (tupl_Less.calls ((rd_T41 x1_2 0).f0.f0) ((rd_T41 x1_2 0).f0.f1) ((rd_T41 x1_2 0).f1) ((rd_T41 x1_2 0).f2.f0) ((rd_T41 x1_2 0).f2.f1) ((rd_T41 x1_2 0).f2.f2) ((rd_T41 l0 x10_1).f0.f0) ((rd_T41 l0 x10_1).f0.f1) ((rd_T41 l0 x10_1).f1) ((rd_T41 l0 x10_1).f2.f0) ((rd_T41 l0 x10_1).f2.f1) ((rd_T41 l0 x10_1).f2.f2) false _ A10.out).mono ?_
                          rintro e w35 ⟨rfl, hb⟩
                          have HS6_ := (hb.cell (World.block_lt_of_cell? _ _ (hHeld.2.2.2.2.2.2.1))).trans (hHeld.2.2.2.2.2.2.1)
                          have HS7_ := (hb.cell (World.block_lt_of_cell? _ _ (hHeld.2.2.2.2.2.2.2.1))).trans (hHeld.2.2.2.2.2.2.2.1)
                          have HS8_ := (hb.cell (World.block_lt_of_cell? _ _ (hHeld.2.2.2.2.2.2.2.2.1))).trans (hHeld.2.2.2.2.2.2.2.2.1)
                          have HS9_ := (hb.cell (World.block_lt_of_cell? _ _ (hHeld.2.2.2.2.2.2.2.2.2.1))).trans (hHeld.2.2.2.2.2.2.2.2.2.1)
                          have HS10_ := (hb.cell (World.block_lt_of_cell? _ _ (hHeld.2.2.2.2.2.2.2.2.2.2.1))).trans (hHeld.2.2.2.2.2.2.2.2.2.2.1)
                          have HS11_ := (hb.cell (World.block_lt_of_cell? _ _ (hHeld.2.2.2.2.2.2.2.2.2.2.2))).trans (hHeld.2.2.2.2.2.2.2.2.2.2.2)
                          refine ⟨_, rfl, ?_⟩
                          have n0_ := Aside0.mk (Kd.V_below (by (with_reducible repeat (first | apply Kd.V_alloc | apply Kd.V_drewN | apply Kd.V_drew)); exact HO_1.out) hb)
                          have n1_ := Aside0.mk (Kd.R_below (by (with_reducible repeat (first | apply Kd.R_alloc | apply Kd.R_drewN | apply Kd.R_drew)); exact HO_5.out) hb)
                          have n2_ := Aside0.mk (blk_below (g := gb154) (o := .cells #[.string ((rd_T41 l0 x10_1).f0.f0), .string ((rd_T41 l0 x10_1).f0.f1), .string ((rd_T41 l0 x10_1).f1), .string ((rd_T41 l0 x10_1).f2.f0), .string ((rd_T41 l0 x10_1).f2.f1), .string ((rd_T41 l0 x10_1).f2.f2)] 41 (0, 0)) (by (with_reducible repeat (first | refine blk_drewN ?_ _ | refine blk_drew ?_ | refine blk_alloc ?_ _)); exact BK154.out) hb)
                          have n3_ := Aside0.mk (below_step (by repeat (first | (with_reducible first | exact HB.out | apply below_alloc | apply pw_below_drewN | apply below_drew1 | refine below_set ?_ GE154.out) | exact HB.out)) hb)
                          clear HO_1
                          clear HO_5
                          clear BK154
                          clear HB
                          have HO_1 := n0_
                          have HO_5 := n1_
                          have BK154 := n2_
                          have HB := n3_
                          clear n0_ n1_ n2_ n3_
                          (try clear hb)
                          (try clear hb2)
                          (try clear hk)
                          (try clear hi)
                          refine hK.out _ _ ⟨(blk_cell BK154.out 0).trans rfl, (blk_cell BK154.out 1).trans rfl, (blk_cell BK154.out 2).trans rfl, (blk_cell BK154.out 3).trans rfl, (blk_cell BK154.out 4).trans rfl, (blk_cell BK154.out 5).trans rfl, HS6_, HS7_, HS8_, HS9_, HS10_, HS11_⟩ (fun hHeld => ?_)
                          clear hK K
                          refine norm_ (a' := ?_) ?_ ?_
                          rotate_left
                          · show Act.put _ (some 22) _ = _
                            simp only [Act.put, List.setIfInBounds_toArray, List.set_cons_zero, List.set_cons_succ, i64_w, i32_w]
                            rfl
                          refine pure_ (i := 9) (N := some 23) (v := ?_) (a' := ?_) #[true, true, true, true, true, true, true, true, true, true] rfl rfl (any_of HT_.out (by kernel_rfl)) (fun _ _ _ h => h) (Or.inl ⟨by rfl, ?_⟩) ?_ ?_
                          rotate_left
                          · intro w'
                            go_simp
                            with_reducible rfl
                          rotate_left
                          · simp only [Act.put, List.setIfInBounds_toArray, List.set_cons_zero, List.set_cons_succ, i64_w, i32_w]
                            rfl
                          refine done_ (done_of HT_.out (by kernel_rfl)) ?_
                          try go_wp2
                          have n0_ := Aside0.mk (Kd.V_drew HO_1.out)
                          have n1_ := Aside0.mk (Kd.R_drew HO_5.out)
                          have n2_ := Aside0.mk (blk_drew BK154.out)
                          have n3_ := Aside0.mk (below_drew1 HB.out)
                          clear HO_1
                          clear HO_5
                          clear BK154
                          clear HB
                          have HO_1 := n0_
                          have HO_5 := n1_
                          have BK154 := n2_
                          have HB := n3_
                          clear n0_ n1_ n2_ n3_
                          have p165 : 0 ≤ (0 : Int) := (by omega)
                          have q165 : 0 < (x1_2.length : Int) := of_decide_eq_true (by first | (with_reducible assumption) | assumption)
                          obtain ⟨ad165, e165, hx165_0, hx165_1, hx165_2, hx165_3, hx165_4, hx165_5⟩ := at_T41 (Kd.V_reads' HO_1.out).2.2 0 p165 q165
                          obtain rfl : ad155 = ad165 := (by injection e165)
                          have qi165 : (0 < x1_2.length) = True := eq_true (by omega)
                          (try rw [show ((0 : Int)).toNat = 0 from rfl] at hx165_0)
                          (try rw [show 0 * 6 = 0 from rfl] at hx165_0)
                          (try rw [Addr.add_zero'] at hx165_0)
                          (try rw [show ((0 : Int)).toNat = 0 from rfl] at hx165_1)
                          (try rw [show 0 * 6 = 0 from rfl] at hx165_1)
                          (try rw [Addr.add_zero'] at hx165_1)
                          (try rw [show ((0 : Int)).toNat = 0 from rfl] at hx165_2)
                          (try rw [show 0 * 6 = 0 from rfl] at hx165_2)
                          (try rw [Addr.add_zero'] at hx165_2)
                          (try rw [show ((0 : Int)).toNat = 0 from rfl] at hx165_3)
                          (try rw [show 0 * 6 = 0 from rfl] at hx165_3)
                          (try rw [Addr.add_zero'] at hx165_3)
                          (try rw [show ((0 : Int)).toNat = 0 from rfl] at hx165_4)
                          (try rw [show 0 * 6 = 0 from rfl] at hx165_4)
                          (try rw [Addr.add_zero'] at hx165_4)
                          (try rw [show ((0 : Int)).toNat = 0 from rfl] at hx165_5)
                          (try rw [show 0 * 6 = 0 from rfl] at hx165_5)
                          (try rw [Addr.add_zero'] at hx165_5)
                          replace p165 := eq_true p165
                          replace q165 := eq_true q165
                          refine start_ (n := 10) (S := fun w' => w'.cell? ⟨gb154, 0, none⟩ = some (.string ((rd_T41 l0 x10_1).f0.f0)) ∧ w'.cell? ⟨gb154, 1, none⟩ = some (.string ((rd_T41 l0 x10_1).f0.f1)) ∧ w'.cell? ⟨gb154, 2, none⟩ = some (.string ((rd_T41 l0 x10_1).f1)) ∧ w'.cell? ⟨gb154, 3, none⟩ = some (.string ((rd_T41 l0 x10_1).f2.f0)) ∧ w'.cell? ⟨gb154, 4, none⟩ = some (.string ((rd_T41 l0 x10_1).f2.f1)) ∧ w'.cell? ⟨gb154, 5, none⟩ = some (.string ((rd_T41 l0 x10_1).f2.f2)) ∧ w'.cell? ad155 = some (.string ((rd_T41 x1_2 0).f0.f0)) ∧ w'.cell? ⟨ad155.block, ad155.off + 1, none⟩ = some (.string ((rd_T41 x1_2 0).f0.f1)) ∧ w'.cell? ⟨ad155.block, ad155.off + 2, none⟩ = some (.string ((rd_T41 x1_2 0).f1)) ∧ w'.cell? ⟨ad155.block, ad155.off + 3, none⟩ = some (.string ((rd_T41 x1_2 0).f2.f0)) ∧ w'.cell? ⟨ad155.block, ad155.off + 4, none⟩ = some (.string ((rd_T41 x1_2 0).f2.f1)) ∧ w'.cell? ⟨ad155.block, ad155.off + 5, none⟩ = some (.string ((rd_T41 x1_2 0).f2.f2))) (ds := []) #[false, false, false, false, false, false, false, false, false, false] (by kernel_rfl) rfl rfl ⟨(blk_cell BK154.out 0).trans rfl, (blk_cell BK154.out 1).trans rfl, (blk_cell BK154.out 2).trans rfl, (blk_cell BK154.out 3).trans rfl, (blk_cell BK154.out 4).trans rfl, (blk_cell BK154.out 5).trans rfl, hx165_0, hx165_1, hx165_2, hx165_3, hx165_4, hx165_5⟩ (fun hHeld => ?_); refine with_tabW rows_without.tab7 rows_without.bits7 (fun HT_ HW_ => ?_)
                          generalize w35.drew = w36 at HO_1 HO_5 BK154 HB hx165_0 hx165_1 hx165_2 hx165_3 hx165_4 hx165_5 hHeld ⊢
                          refine pure_ (i := 0) (N := some 26) (v := ?_) (a' := ?_) #[true, false, false, false, false, false, false, false, false, false] rfl rfl (any_of HT_.out (by kernel_rfl)) (fun _ _ _ h => h) (Or.inl ⟨by rfl, ?_⟩) ?_ ?_
                          rotate_left
                          · intro w'
                            go_simp
                            with_reducible rfl
                          rotate_left
                          · simp only [Act.put, List.setIfInBounds_toArray, List.set_cons_zero, List.set_cons_succ, i64_w, i32_w]
                            rfl
                          refine pure_ (i := 1) (N := some 27) (v := ?_) (a' := ?_) #[true, true, false, false, false, false, false, false, false, false] rfl rfl (any_of HT_.out (by kernel_rfl)) (fun _ _ _ h => h) (Or.inl ⟨by rfl, ?_⟩) ?_ ?_
                          rotate_left
                          · intro w'
                            go_simp
                            with_reducible rfl
                          rotate_left
                          · simp only [Act.put, List.setIfInBounds_toArray, List.set_cons_zero, List.set_cons_succ, i64_w, i32_w]
                            rfl
                          refine pure_ (i := 2) (N := some 28) (v := ?_) (a' := ?_) #[true, true, true, false, false, false, false, false, false, false] rfl rfl (any_of HT_.out (by kernel_rfl)) (fun _ _ _ h => h) (Or.inl ⟨by rfl, ?_⟩) ?_ ?_
                          rotate_left
                          · intro w'
                            go_simp
                            with_reducible rfl
                          rotate_left
                          · simp only [Act.put, List.setIfInBounds_toArray, List.set_cons_zero, List.set_cons_succ, i64_w, i32_w]
                            rfl
                          refine pure_ (i := 3) (N := some 29) (v := ?_) (a' := ?_) #[true, true, true, true, false, false, false, false, false, false] rfl rfl (any_of HT_.out (by kernel_rfl)) (fun _ _ _ h => h) (Or.inl ⟨by rfl, ?_⟩) ?_ ?_
                          rotate_left
                          · intro w'
                            go_simp
                            with_reducible rfl
                          rotate_left
                          · simp only [Act.put, List.setIfInBounds_toArray, List.set_cons_zero, List.set_cons_succ, i64_w, i32_w]
                            rfl
                          refine pure_ (i := 4) (N := some 30) (v := ?_) (a' := ?_) #[true, true, true, true, true, false, false, false, false, false] rfl rfl (any_of HT_.out (by kernel_rfl)) (fun _ _ _ h => h) (Or.inl ⟨by rfl, ?_⟩) ?_ ?_
                          rotate_left
                          · intro w'
                            go_simp
                            with_reducible rfl
                          rotate_left
                          · simp only [Act.put, List.setIfInBounds_toArray, List.set_cons_zero, List.set_cons_succ, i64_w, i32_w]
                            rfl
                          refine pure_ (i := 5) (N := some 31) (v := ?_) (a' := ?_) #[true, true, true, true, true, true, false, false, false, false] rfl rfl (any_of HT_.out (by kernel_rfl)) (fun _ _ _ h => h) (Or.inl ⟨by rfl, ?_⟩) ?_ ?_
                          rotate_left
                          · intro w'
                            go_simp
                            with_reducible rfl
                          rotate_left
                          · simp only [Act.put, List.setIfInBounds_toArray, List.set_cons_zero, List.set_cons_succ, i64_w, i32_w]
                            rfl
                          refine take_ (i := 6) (N := some 32) (v := ?_) (a' := ?_) #[true, true, true, true, true, true, true, false, false, false] rfl rfl (take_ofW HT_.out HW_.out (by kernel_rfl)) (fun _ _ _ h => h) (Or.inl ⟨by rfl, ?_⟩) hHeld ?_ ?_
                          rotate_left
                          · rintro w' ⟨s0, s1, s2, s3, s4, s5, s6, s7, s8, s9, s10, s11⟩
                            go_simp
                            with_reducible rfl
                          rotate_left
                          · simp only [Act.put, List.setIfInBounds_toArray, List.set_cons_zero, List.set_cons_succ, i64_w, i32_w]
                            rfl
                          refine take_ (i := 7) (N := some 33) (v := ?_) (a' := ?_) #[true, true, true, true, true, true, true, true, false, false] rfl rfl (take_ofW HT_.out HW_.out (by kernel_rfl)) (fun _ _ _ h => h) (Or.inl ⟨by rfl, ?_⟩) hHeld ?_ ?_
                          rotate_left
                          · rintro w' ⟨s0, s1, s2, s3, s4, s5, s6, s7, s8, s9, s10, s11⟩
                            go_simp
                            with_reducible rfl
                          rotate_left
                          · simp only [Act.put, List.setIfInBounds_toArray, List.set_cons_zero, List.set_cons_succ, i64_w, i32_w]
                            rfl
                          refine pure_ (i := 8) (N := some 34) (v := ?_) (a' := ?_) #[true, true, true, true, true, true, true, true, true, false] rfl rfl (any_of HT_.out (by kernel_rfl)) (fun _ _ _ h => h) (Or.inl ⟨by rfl, ?_⟩) ?_ ?_
                          rotate_left
                          · intro w'
                            go_simp
                            with_reducible rfl
                          rotate_left
                          · simp only [Act.put, List.setIfInBounds_toArray, List.set_cons_zero, List.set_cons_succ, i64_w, i32_w]
                            rfl
                          refine pure_ (i := 9) (N := some 35) (v := ?_) (a' := ?_) #[true, true, true, true, true, true, true, true, true, true] rfl rfl (any_of HT_.out (by kernel_rfl)) (fun _ _ _ h => h) (Or.inl ⟨by rfl, ?_⟩) ?_ ?_
                          rotate_left
                          · intro w'
                            go_simp
                            with_reducible rfl
                          rotate_left
                          · simp only [Act.put, List.setIfInBounds_toArray, List.set_cons_zero, List.set_cons_succ, i64_w, i32_w]
                            rfl
                          refine done_ (done_of HT_.out (by kernel_rfl)) ?_
                          try go_wp2
                          go_roundg k2
                          case measure => have := HK1.out; have := HK2.out; omega
                          case rel => exact ⟨(x1_2), (x5_1), (wrap64 (x10_1 + 1)), (by first | rfl | (simp; done) | (simp [*]; done)), H', ⟨by have := HK1.out; have := HK2.out; omega⟩, ⟨by (with_reducible repeat (first | apply Kd.V_alloc | apply Kd.V_drewN | apply Kd.V_drew)); exact Kd.V_mono HO_1.out (fun _ hk => ⟨hk.1, hk.2.1⟩)⟩, ⟨by (with_reducible repeat (first | apply Kd.R_alloc | apply Kd.R_drewN | apply Kd.R_drew)); exact Kd.R_mono HO_5.out (fun _ hk => hk.1)⟩, ⟨by repeat (first | (with_reducible first | exact HB.out | apply below_alloc | apply pw_below_drewN | apply below_drew1 | refine below_set ?_ GE154.out) | exact HB.out)⟩⟩
                  · rw [if_neg c9] at H
                    exact absurd H (by simp)
                · rw [if_neg c8] at H
                  have c8b0 : decide (0 < (x1_2.length : Int)) = false := decide_eq_false c8
                  have c8b1 : decide (0 < x1_2.length) = false := decide_eq_false (by omega)
                  clear c8
                  by_cases c37 : (x1_2.length : Int) = 0
                  · rw [if_pos c37] at H
                    have c37b0 : ((x1_2.length : Int) == 0) = true := beq_iff_eq.mpr c37
                    have c37b1 : ((x1_2.length : Int) != 0) = false := bne_eq_false_iff_eq.mpr c37
                    clear c37
                    by_cases c38 : x5_1.length < 1466015503701
                    · rw [if_pos c38] at H
                      have LMc38 := Aside0.mk c38
                      clear c38
                      obtain ⟨y169, hy169⟩ : ∃ y_ : List (S41), y_ = (x5_1 ++ [(⟨(⟨((rd_T41 l0 x10_1).f0.f0), ((rd_T41 l0 x10_1).f0.f1)⟩ : S37), ((rd_T41 l0 x10_1).f1), (⟨((rd_T41 l0 x10_1).f2.f0), ((rd_T41 l0 x10_1).f2.f1), ((rd_T41 l0 x10_1).f2.f2)⟩ : S39)⟩ : S41)]) := ⟨_, rfl⟩
                      replace H : (rows_without.l0 k2 x1_2 y169 l0 (l0.length : Int) (wrap64 (x10_1 + 1))) = some r := by first | (rw [hy169]; with_reducible exact H) | (have H2_ := (Option.bind_some _ _).symm.trans H; rw [hy169]; with_reducible exact H2_) | (have H2_ := (Option.bind_some _ _).symm.trans H; with_reducible exact H2_) | with_reducible exact H | (rw [hy169]; exact H) | exact H
                      have Ny169 := Aside0.mk hy169
                      clear hy169
                      have H' := Aside0.mk H
                      clear H
                      try go_wp2
                      have n0_ := Aside0.mk (Kd.V_drew HO_1.out)
                      have n1_ := Aside0.mk (Kd.R_drew HO_5.out)
                      have n2_ := Aside0.mk (blk_drew BK154.out)
                      have n3_ := Aside0.mk (below_drew1 HB.out)
                      clear HO_1
                      clear HO_5
                      clear BK154
                      clear HB
                      have HO_1 := n0_
                      have HO_5 := n1_
                      have BK154 := n2_
                      have HB := n3_
                      clear n0_ n1_ n2_ n3_
                      obtain ⟨Ao40, co40, eo40⟩ := Kd.V_slice HO_1.out
                      (first | subst eo40 | (injection eo40 with f1_ f2_ f3_; have f4_ := f1_.symm; have f5_ := f3_.symm; clear f1_ f2_ f3_; subst f4_; subst f5_))
                      refine start_ (n := 10) (S := fun w' => True) (ds := []) #[false, false, false, false, false, false, false, false, false, false] (by kernel_rfl) rfl rfl trivial (fun hHeld => ?_); refine with_tabW rows_without.tab5 rows_without.bits5 (fun HT_ HW_ => ?_)
                      generalize wr.drew = w39 at HO_1 HO_5 BK154 HB hHeld ⊢
                      refine pure_ (i := 0) (N := some 14) (v := ?_) (a' := ?_) #[true, false, false, false, false, false, false, false, false, false] rfl rfl (any_of HT_.out (by kernel_rfl)) (fun _ _ _ h => h) (Or.inl ⟨by rfl, ?_⟩) ?_ ?_
                      rotate_left
                      · intro w'
                        go_simp
                        with_reducible rfl
                      rotate_left
                      · simp only [Act.put, List.setIfInBounds_toArray, List.set_cons_zero, List.set_cons_succ, i64_w, i32_w]
                        rfl
                      refine pure_ (i := 1) (N := some 15) (v := ?_) (a' := ?_) #[true, true, false, false, false, false, false, false, false, false] rfl rfl (any_of HT_.out (by kernel_rfl)) (fun _ _ _ h => h) (Or.inl ⟨by rfl, ?_⟩) ?_ ?_
                      rotate_left
                      · intro w'
                        go_simp
                        with_reducible rfl
                      rotate_left
                      · simp only [Act.put, List.setIfInBounds_toArray, List.set_cons_zero, List.set_cons_succ, i64_w, i32_w]
                        rfl
                      refine pure_ (i := 2) (N := some 16) (v := ?_) (a' := ?_) #[true, true, true, false, false, false, false, false, false, false] rfl rfl (any_of HT_.out (by kernel_rfl)) (fun _ _ _ h => h) (Or.inl ⟨by rfl, ?_⟩) ?_ ?_
                      rotate_left
                      · intro w'
                        go_simp
                        with_reducible rfl
                      rotate_left
                      · simp only [Act.put, List.setIfInBounds_toArray, List.set_cons_zero, List.set_cons_succ, i64_w, i32_w]
                        rfl
                      refine pure_ (i := 3) (N := some 17) (v := ?_) (a' := ?_) #[true, true, true, true, false, false, false, false, false, false] rfl rfl (any_of HT_.out (by kernel_rfl)) (fun _ _ _ h => h) (Or.inl ⟨by rfl, ?_⟩) ?_ ?_
                      rotate_left
                      · intro w'
                        go_simp
                        with_reducible rfl
                      rotate_left
                      · simp only [Act.put, List.setIfInBounds_toArray, List.set_cons_zero, List.set_cons_succ, i64_w, i32_w]
                        rfl
                      refine pure_ (i := 4) (N := some 18) (v := undef) (a' := ?_) #[true, true, true, true, true, false, false, false, false, false] rfl rfl (any_of HT_.out (by kernel_rfl)) (fun _ _ _ h => h) (Or.inr ⟨by rfl, rfl⟩) ?_ ?_
                      rotate_left
                      · simp only [Act.put, List.setIfInBounds_toArray, List.set_cons_zero, List.set_cons_succ, i64_w, i32_w]
                        rfl
                      refine pure_ (i := 5) (N := some 19) (v := undef) (a' := ?_) #[true, true, true, true, true, true, false, false, false, false] rfl rfl (any_of HT_.out (by kernel_rfl)) (fun _ _ _ h => h) (Or.inr ⟨by rfl, rfl⟩) ?_ ?_
                      rotate_left
                      · simp only [Act.put, List.setIfInBounds_toArray, List.set_cons_zero, List.set_cons_succ, i64_w, i32_w]
                        rfl
                      refine pure_ (i := 6) (N := some 20) (v := undef) (a' := ?_) #[true, true, true, true, true, true, true, false, false, false] rfl rfl (any_of HT_.out (by kernel_rfl)) (fun _ _ _ h => h) (Or.inr ⟨by rfl, rfl⟩) ?_ ?_
                      rotate_left
                      · simp only [Act.put, List.setIfInBounds_toArray, List.set_cons_zero, List.set_cons_succ, i64_w, i32_w]
                        rfl
                      refine pure_ (i := 7) (N := some 21) (v := undef) (a' := ?_) #[true, true, true, true, true, true, true, true, false, false] rfl rfl (any_of HT_.out (by kernel_rfl)) (fun _ _ _ h => h) (Or.inr ⟨by rfl, rfl⟩) ?_ ?_
                      rotate_left
                      · simp only [Act.put, List.setIfInBounds_toArray, List.set_cons_zero, List.set_cons_succ, i64_w, i32_w]
                        rfl
                      refine pure_ (i := 8) (N := some 22) (v := undef) (a' := ?_) #[true, true, true, true, true, true, true, true, true, false] rfl rfl (any_of HT_.out (by kernel_rfl)) (fun _ _ _ h => h) (Or.inr ⟨by rfl, rfl⟩) ?_ ?_
                      rotate_left
                      · simp only [Act.put, List.setIfInBounds_toArray, List.set_cons_zero, List.set_cons_succ, i64_w, i32_w]
                        rfl
                      refine pure_ (i := 9) (N := some 23) (v := ?_) (a' := ?_) #[true, true, true, true, true, true, true, true, true, true] rfl rfl (any_of HT_.out (by kernel_rfl)) (fun _ _ _ h => h) (Or.inl ⟨by rfl, ?_⟩) ?_ ?_
                      rotate_left
                      · intro w'
                        go_simp
                        with_reducible rfl
                      rotate_left
                      · simp only [Act.put, List.setIfInBounds_toArray, List.set_cons_zero, List.set_cons_succ, i64_w, i32_w]
                        rfl
                      refine done_ (done_of HT_.out (by kernel_rfl)) ?_
                      try go_wp2
                      have n0_ := Aside0.mk (Kd.V_drew HO_1.out)
                      have n1_ := Aside0.mk (Kd.R_drew HO_5.out)
                      have n2_ := Aside0.mk (blk_drew BK154.out)
                      have n3_ := Aside0.mk (below_drew1 HB.out)
                      clear HO_1
                      clear HO_5
                      clear BK154
                      clear HB
                      have HO_1 := n0_
                      have HO_5 := n1_
                      have BK154 := n2_
                      have HB := n3_
                      clear n0_ n1_ n2_ n3_
                      refine start_ (n := 10) (S := fun w' => True) (ds := []) #[false, false, false, false, false, false, false, false, false, false] (by kernel_rfl) rfl rfl trivial (fun hHeld => ?_); refine with_tabW rows_without.tab7 rows_without.bits7 (fun HT_ HW_ => ?_)
                      generalize w39.drew = w41 at HO_1 HO_5 BK154 HB hHeld ⊢
                      refine pure_ (i := 0) (N := some 26) (v := ?_) (a' := ?_) #[true, false, false, false, false, false, false, false, false, false] rfl rfl (any_of HT_.out (by kernel_rfl)) (fun _ _ _ h => h) (Or.inl ⟨by rfl, ?_⟩) ?_ ?_
                      rotate_left
                      · intro w'
                        go_simp
                        with_reducible rfl
                      rotate_left
                      · simp only [Act.put, List.setIfInBounds_toArray, List.set_cons_zero, List.set_cons_succ, i64_w, i32_w]
                        rfl
                      refine pure_ (i := 1) (N := some 27) (v := ?_) (a' := ?_) #[true, true, false, false, false, false, false, false, false, false] rfl rfl (any_of HT_.out (by kernel_rfl)) (fun _ _ _ h => h) (Or.inl ⟨by rfl, ?_⟩) ?_ ?_
                      rotate_left
                      · intro w'
                        go_simp
                        with_reducible rfl
                      rotate_left
                      · simp only [Act.put, List.setIfInBounds_toArray, List.set_cons_zero, List.set_cons_succ, i64_w, i32_w]
                        rfl
                      refine pure_ (i := 2) (N := some 28) (v := ?_) (a' := ?_) #[true, true, true, false, false, false, false, false, false, false] rfl rfl (any_of HT_.out (by kernel_rfl)) (fun _ _ _ h => h) (Or.inl ⟨by rfl, ?_⟩) ?_ ?_
                      rotate_left
                      · intro w'
                        go_simp
                        with_reducible rfl
                      rotate_left
                      · simp only [Act.put, List.setIfInBounds_toArray, List.set_cons_zero, List.set_cons_succ, i64_w, i32_w]
                        rfl
                      refine pure_ (i := 3) (N := some 29) (v := ?_) (a' := ?_) #[true, true, true, true, false, false, false, false, false, false] rfl rfl (any_of HT_.out (by kernel_rfl)) (fun _ _ _ h => h) (Or.inl ⟨by rfl, ?_⟩) ?_ ?_
                      rotate_left
                      · intro w'
                        go_simp
                        with_reducible rfl
                      rotate_left
                      · simp only [Act.put, List.setIfInBounds_toArray, List.set_cons_zero, List.set_cons_succ, i64_w, i32_w]
                        rfl
                      refine pure_ (i := 4) (N := some 30) (v := undef) (a' := ?_) #[true, true, true, true, true, false, false, false, false, false] rfl rfl (any_of HT_.out (by kernel_rfl)) (fun _ _ _ h => h) (Or.inr ⟨by rfl, rfl⟩) ?_ ?_
                      rotate_left
                      · simp only [Act.put, List.setIfInBounds_toArray, List.set_cons_zero, List.set_cons_succ, i64_w, i32_w]
                        rfl
                      refine pure_ (i := 5) (N := some 31) (v := undef) (a' := ?_) #[true, true, true, true, true, true, false, false, false, false] rfl rfl (any_of HT_.out (by kernel_rfl)) (fun _ _ _ h => h) (Or.inr ⟨by rfl, rfl⟩) ?_ ?_
                      rotate_left
                      · simp only [Act.put, List.setIfInBounds_toArray, List.set_cons_zero, List.set_cons_succ, i64_w, i32_w]
                        rfl
                      refine pure_ (i := 6) (N := some 32) (v := undef) (a' := ?_) #[true, true, true, true, true, true, true, false, false, false] rfl rfl (any_of HT_.out (by kernel_rfl)) (fun _ _ _ h => h) (Or.inr ⟨by rfl, rfl⟩) ?_ ?_
                      rotate_left
                      · simp only [Act.put, List.setIfInBounds_toArray, List.set_cons_zero, List.set_cons_succ, i64_w, i32_w]
                        rfl
                      refine pure_ (i := 7) (N := some 33) (v := undef) (a' := ?_) #[true, true, true, true, true, true, true, true, false, false] rfl rfl (any_of HT_.out (by kernel_rfl)) (fun _ _ _ h => h) (Or.inr ⟨by rfl, rfl⟩) ?_ ?_
                      rotate_left
                      · simp only [Act.put, List.setIfInBounds_toArray, List.set_cons_zero, List.set_cons_succ, i64_w, i32_w]
                        rfl
                      refine pure_ (i := 8) (N := some 34) (v := undef) (a' := ?_) #[true, true, true, true, true, true, true, true, true, false] rfl rfl (any_of HT_.out (by kernel_rfl)) (fun _ _ _ h => h) (Or.inr ⟨by rfl, rfl⟩) ?_ ?_
                      rotate_left
                      · simp only [Act.put, List.setIfInBounds_toArray, List.set_cons_zero, List.set_cons_succ, i64_w, i32_w]
                        rfl
                      refine pure_ (i := 9) (N := some 35) (v := ?_) (a' := ?_) #[true, true, true, true, true, true, true, true, true, true] rfl rfl (any_of HT_.out (by kernel_rfl)) (fun _ _ _ h => h) (Or.inl ⟨by rfl, ?_⟩) ?_ ?_
                      rotate_left
                      · intro w'
                        go_simp
                        with_reducible rfl
                      rotate_left
                      · simp only [Act.put, List.setIfInBounds_toArray, List.set_cons_zero, List.set_cons_succ, i64_w, i32_w]
                        rfl
                      refine done_ (done_of HT_.out (by kernel_rfl)) ?_
                      have hcz42_0 : w41.cell? ⟨gb154, 0, none⟩ = some (.string ((rd_T41 l0 x10_1).f0.f0)) := (blk_cell BK154.out 0).trans rfl
                      have hcz42_1 : w41.cell? ⟨gb154, 1, none⟩ = some (.string ((rd_T41 l0 x10_1).f0.f1)) := (blk_cell BK154.out 1).trans rfl
                      have hcz42_2 : w41.cell? ⟨gb154, 2, none⟩ = some (.string ((rd_T41 l0 x10_1).f1)) := (blk_cell BK154.out 2).trans rfl
                      have hcz42_3 : w41.cell? ⟨gb154, 3, none⟩ = some (.string ((rd_T41 l0 x10_1).f2.f0)) := (blk_cell BK154.out 3).trans rfl
                      have hcz42_4 : w41.cell? ⟨gb154, 4, none⟩ = some (.string ((rd_T41 l0 x10_1).f2.f1)) := (blk_cell BK154.out 4).trans rfl
                      have hcz42_5 : w41.cell? ⟨gb154, 5, none⟩ = some (.string ((rd_T41 l0 x10_1).f2.f2)) := (blk_cell BK154.out 5).trans rfl
                      have hfz42_0 := blk_frozen BK154.out 0
                      have hfz42_1 := blk_frozen BK154.out 1
                      have hfz42_2 := blk_frozen BK154.out 2
                      have hfz42_3 := blk_frozen BK154.out 3
                      have hfz42_4 := blk_frozen BK154.out 4
                      have hfz42_5 := blk_frozen BK154.out 5
                      try go_wp2_with (first | ((with_reducible refine gate_builtin (b := .append) (xs := #[.tmp 36, .tmp 38]) rfl ?_); at_builtin; refine Kd.R_append k41 (w0 := w) w.heap.size rfl (.tmp 36) (.tmp 38) 23 41 (.agg #[(.string ⟨#[]⟩), (.string ⟨#[]⟩), (.string ⟨#[]⟩), (.string ⟨#[]⟩), (.string ⟨#[]⟩), (.string ⟨#[]⟩)]) 96 rfl Try.underlying23 info41 rfl (by decide) (by omega) u5 x5_1 (⟨(⟨((rd_T41 l0 x10_1).f0.f0), ((rd_T41 l0 x10_1).f0.f1)⟩ : S37), ((rd_T41 l0 x10_1).f1), (⟨((rd_T41 l0 x10_1).f2.f0), ((rd_T41 l0 x10_1).f2.f1), ((rd_T41 l0 x10_1).f2.f2)⟩ : S39)⟩ : S41) [.string ((rd_T41 l0 x10_1).f0.f0), .string ((rd_T41 l0 x10_1).f0.f1), .string ((rd_T41 l0 x10_1).f1), .string ((rd_T41 l0 x10_1).f2.f0), .string ((rd_T41 l0 x10_1).f2.f1), .string ((rd_T41 l0 x10_1).f2.f2)] (fun k_ => (w.heap.size ≤ k_) ∧ k_ ≠ gb154) (fun _ => False) rfl rfl ?aP (fun _ hk => hk.elim) ?aF ?aO ?aB ?aS ?aL ?_; (case aP => exact k41_mkM _ _ _ (⟨(⟨((rd_T41 l0 x10_1).f0.f0), ((rd_T41 l0 x10_1).f0.f1)⟩ : S37), ((rd_T41 l0 x10_1).f1), (⟨((rd_T41 l0 x10_1).f2.f0), ((rd_T41 l0 x10_1).f2.f1), ((rd_T41 l0 x10_1).f2.f2)⟩ : S39)⟩ : S41)); (case aB => exact (by repeat (first | (with_reducible first | exact HB.out | apply below_alloc | apply pw_below_drewN | apply below_drew1 | refine below_set ?_ GE154.out) | exact HB.out))); (case aF => exact (fun k_ hk => ⟨(Nat.le_trans (below_size (by repeat (first | (with_reducible first | exact HB.out | apply below_alloc | apply pw_below_drewN | apply below_drew1 | refine below_set ?_ GE154.out) | exact HB.out))) hk), Kd.freshB (g := gb154) (o := .cells #[.string ((rd_T41 l0 x10_1).f0.f0), .string ((rd_T41 l0 x10_1).f0.f1), .string ((rd_T41 l0 x10_1).f1), .string ((rd_T41 l0 x10_1).f2.f0), .string ((rd_T41 l0 x10_1).f2.f1), .string ((rd_T41 l0 x10_1).f2.f2)] 41 (0, 0)) (by (with_reducible repeat (first | refine blk_drewN ?_ _ | refine blk_drew ?_ | refine blk_alloc ?_ _)); exact BK154.out) k_ hk⟩)); (case aO => exact (by (with_reducible repeat (first | apply Kd.R_alloc | apply Kd.R_drewN | apply Kd.R_drew)); exact HO_5.out)); (case aS => exact (below_size (by repeat (first | (with_reducible first | exact HB.out | apply below_alloc | apply pw_below_drewN | apply below_drew1 | refine below_set ?_ GE154.out) | exact HB.out)))); (case aL => have := LMc38.out; omega); intro v170 w43 ho hb hg hat; rw [← Ny169.out] at ho; have n0_ := Aside0.mk (Kd.V_afterv (ok := (fun k_ => (P1_ k_ ∨ w.heap.size ≤ k_) ∧ k_ ≠ gb154)) (by (with_reducible repeat (first | apply Kd.V_alloc | apply Kd.V_drewN | apply Kd.V_drew)); exact Kd.V_mono HO_1.out (fun _ hk => ⟨⟨hk.1, hk.2.2⟩, hk.2.1⟩)) hg hat); have n1_ := Aside0.mk (blk_grown (g := gb154) (o := .cells #[.string ((rd_T41 l0 x10_1).f0.f0), .string ((rd_T41 l0 x10_1).f0.f1), .string ((rd_T41 l0 x10_1).f1), .string ((rd_T41 l0 x10_1).f2.f0), .string ((rd_T41 l0 x10_1).f2.f1), .string ((rd_T41 l0 x10_1).f2.f2)] 41 (0, 0)) (by (with_reducible repeat (first | refine blk_drewN ?_ _ | refine blk_drew ?_ | refine blk_alloc ?_ _)); exact BK154.out) hg (Kd.R_away HO_5.out (fun _ hk => hk.2))); have n2_ := Aside0.mk (hb); have n3_ := Aside0.mk (ho); clear HO_1; clear BK154; clear HB; clear HO_5; have HO_1 := n0_; have BK154 := n1_; have HB := n2_; have HO171 := n3_; clear n0_ n1_ n2_ n3_; clear ho hb hg hat))
                      go_roundg k2
                      case measure => have := HK1.out; have := HK2.out; omega
                      case rel => exact ⟨(x1_2), (y169), (wrap64 (x10_1 + 1)), (by first | rfl | (simp; done) | (simp [*]; done)), H', ⟨by have := HK1.out; have := HK2.out; omega⟩, ⟨by (with_reducible repeat (first | apply Kd.V_alloc | apply Kd.V_drewN | apply Kd.V_drew)); exact Kd.V_mono HO_1.out (fun _ hk => ⟨hk.1.1, hk.2⟩)⟩, ⟨by (with_reducible repeat (first | apply Kd.R_alloc | apply Kd.R_drewN | apply Kd.R_drew)); exact Kd.R_mono HO171.out (fun _ hk => hk.1)⟩, ⟨by repeat (first | (with_reducible first | exact HB.out | apply below_alloc | apply pw_below_drewN | apply below_drew1 | refine below_set ?_ GE154.out) | exact HB.out)⟩⟩
                    · rw [if_neg c38] at H
                      exact absurd H (by simp)
                  · rw [if_neg c37] at H
                    have c37b0 : ((x1_2.length : Int) == 0) = false := beq_eq_false_iff_ne.mpr c37
                    have c37b1 : ((x1_2.length : Int) != 0) = true := bne_iff_ne.mpr c37
                    have c37b2 : ¬ (x1_2 = []) := fun h_ => c37 (by rw [h_]; rfl)
                    by_cases c44 : 0 < (x1_2.length : Int)
                    · rw [if_pos c44] at H
                      have c44b0 : decide (0 < (x1_2.length : Int)) = true := decide_eq_true c44
                      have c44b1 : decide (0 < x1_2.length) = true := decide_eq_true (by omega)
                      clear c44
                      by_cases c45 : ((!((((rd_T41 x1_2 0).f0.f0).toList) == ((rd_T41 l0 x10_1).f0.f0).toList) || (!((((rd_T41 x1_2 0).f0.f1).toList) == ((rd_T41 l0 x10_1).f0.f1).toList))) || (!((((rd_T41 x1_2 0).f1).toList) == ((rd_T41 l0 x10_1).f1).toList) || ((!((((rd_T41 x1_2 0).f2.f0).toList) == ((rd_T41 l0 x10_1).f2.f0).toList) || (!((((rd_T41 x1_2 0).f2.f1).toList) == ((rd_T41 l0 x10_1).f2.f1).toList) || (!((((rd_T41 x1_2 0).f2.f2).toList) == ((rd_T41 l0 x10_1).f2.f2).toList))))))) = true
                      · rw [if_pos c45] at H
                        have c45b0 : ((!((((rd_T41 x1_2 0).f0.f0).toList) == ((rd_T41 l0 x10_1).f0.f0).toList) || (!((((rd_T41 x1_2 0).f0.f1).toList) == ((rd_T41 l0 x10_1).f0.f1).toList))) || (!((((rd_T41 x1_2 0).f1).toList) == ((rd_T41 l0 x10_1).f1).toList) || ((!((((rd_T41 x1_2 0).f2.f0).toList) == ((rd_T41 l0 x10_1).f2.f0).toList) || (!((((rd_T41 x1_2 0).f2.f1).toList) == ((rd_T41 l0 x10_1).f2.f1).toList) || (!((((rd_T41 x1_2 0).f2.f2).toList) == ((rd_T41 l0 x10_1).f2.f2).toList))))))) = true := c45
                        clear c45
                        by_cases c46 : x5_1.length < 1466015503701
                        · rw [if_pos c46] at H
                          have LMc46 := Aside0.mk c46
                          clear c46
                          obtain ⟨y173, hy173⟩ : ∃ y_ : List (S41), y_ = (x5_1 ++ [(⟨(⟨((rd_T41 l0 x10_1).f0.f0), ((rd_T41 l0 x10_1).f0.f1)⟩ : S37), ((rd_T41 l0 x10_1).f1), (⟨((rd_T41 l0 x10_1).f2.f0), ((rd_T41 l0 x10_1).f2.f1), ((rd_T41 l0 x10_1).f2.f2)⟩ : S39)⟩ : S41)]) := ⟨_, rfl⟩
                          replace H : (rows_without.l0 k2 x1_2 y173 l0 (l0.length : Int) (wrap64 (x10_1 + 1))) = some r := by first | (rw [hy173]; with_reducible exact H) | (have H2_ := (Option.bind_some _ _).symm.trans H; rw [hy173]; with_reducible exact H2_) | (have H2_ := (Option.bind_some _ _).symm.trans H; with_reducible exact H2_) | with_reducible exact H | (rw [hy173]; exact H) | exact H
                          have Ny173 := Aside0.mk hy173
                          clear hy173
                          have H' := Aside0.mk H
                          clear H
                          try go_wp2
                          have n0_ := Aside0.mk (Kd.V_drew HO_1.out)
                          have n1_ := Aside0.mk (Kd.R_drew HO_5.out)
                          have n2_ := Aside0.mk (blk_drew BK154.out)
                          have n3_ := Aside0.mk (below_drew1 HB.out)
                          clear HO_1
                          clear HO_5
                          clear BK154
                          clear HB
                          have HO_1 := n0_
                          have HO_5 := n1_
                          have BK154 := n2_
                          have HB := n3_
                          clear n0_ n1_ n2_ n3_
                          obtain ⟨Ao48, co48, eo48⟩ := Kd.V_slice HO_1.out
                          (first | subst eo48 | (injection eo48 with f1_ f2_ f3_; have f4_ := f1_.symm; have f5_ := f3_.symm; clear f1_ f2_ f3_; subst f4_; subst f5_))
                          refine start_ (n := 10) (S := fun w' => True) (ds := []) #[false, false, false, false, false, false, false, false, false, false] (by kernel_rfl) rfl rfl trivial (fun hHeld => ?_); refine with_tabW rows_without.tab5 rows_without.bits5 (fun HT_ HW_ => ?_)
                          generalize wr.drew = w47 at HO_1 HO_5 BK154 HB hHeld ⊢
                          refine pure_ (i := 0) (N := some 14) (v := ?_) (a' := ?_) #[true, false, false, false, false, false, false, false, false, false] rfl rfl (any_of HT_.out (by kernel_rfl)) (fun _ _ _ h => h) (Or.inl ⟨by rfl, ?_⟩) ?_ ?_
                          rotate_left
                          · intro w'
                            go_simp
                            with_reducible rfl
                          rotate_left
                          · simp only [Act.put, List.setIfInBounds_toArray, List.set_cons_zero, List.set_cons_succ, i64_w, i32_w]
                            rfl
                          refine pure_ (i := 1) (N := some 15) (v := ?_) (a' := ?_) #[true, true, false, false, false, false, false, false, false, false] rfl rfl (any_of HT_.out (by kernel_rfl)) (fun _ _ _ h => h) (Or.inl ⟨by rfl, ?_⟩) ?_ ?_
                          rotate_left
                          · intro w'
                            go_simp
                            with_reducible rfl
                          rotate_left
                          · simp only [Act.put, List.setIfInBounds_toArray, List.set_cons_zero, List.set_cons_succ, i64_w, i32_w]
                            rfl
                          refine pure_ (i := 2) (N := some 16) (v := ?_) (a' := ?_) #[true, true, true, false, false, false, false, false, false, false] rfl rfl (any_of HT_.out (by kernel_rfl)) (fun _ _ _ h => h) (Or.inl ⟨by rfl, ?_⟩) ?_ ?_
                          rotate_left
                          · intro w'
                            go_simp
                            with_reducible rfl
                          rotate_left
                          · simp only [Act.put, List.setIfInBounds_toArray, List.set_cons_zero, List.set_cons_succ, i64_w, i32_w]
                            rfl
                          refine pure_ (i := 3) (N := some 17) (v := ?_) (a' := ?_) #[true, true, true, true, false, false, false, false, false, false] rfl rfl (any_of HT_.out (by kernel_rfl)) (fun _ _ _ h => h) (Or.inl ⟨by rfl, ?_⟩) ?_ ?_
                          rotate_left
                          · intro w'
                            go_simp
                            with_reducible rfl
                          rotate_left
                          · simp only [Act.put, List.setIfInBounds_toArray, List.set_cons_zero, List.set_cons_succ, i64_w, i32_w]
                            rfl
                          refine pure_ (i := 4) (N := some 18) (v := undef) (a' := ?_) #[true, true, true, true, true, false, false, false, false, false] rfl rfl (any_of HT_.out (by kernel_rfl)) (fun _ _ _ h => h) (Or.inr ⟨by rfl, rfl⟩) ?_ ?_
                          rotate_left
                          · simp only [Act.put, List.setIfInBounds_toArray, List.set_cons_zero, List.set_cons_succ, i64_w, i32_w]
                            rfl
                          refine pure_ (i := 5) (N := some 19) (v := undef) (a' := ?_) #[true, true, true, true, true, true, false, false, false, false] rfl rfl (any_of HT_.out (by kernel_rfl)) (fun _ _ _ h => h) (Or.inr ⟨by rfl, rfl⟩) ?_ ?_
                          rotate_left
                          · simp only [Act.put, List.setIfInBounds_toArray, List.set_cons_zero, List.set_cons_succ, i64_w, i32_w]
                            rfl
                          refine pure_ (i := 6) (N := some 20) (v := undef) (a' := ?_) #[true, true, true, true, true, true, true, false, false, false] rfl rfl (any_of HT_.out (by kernel_rfl)) (fun _ _ _ h => h) (Or.inr ⟨by rfl, rfl⟩) ?_ ?_
                          rotate_left
                          · simp only [Act.put, List.setIfInBounds_toArray, List.set_cons_zero, List.set_cons_succ, i64_w, i32_w]
                            rfl
                          refine pure_ (i := 7) (N := some 21) (v := undef) (a' := ?_) #[true, true, true, true, true, true, true, true, false, false] rfl rfl (any_of HT_.out (by kernel_rfl)) (fun _ _ _ h => h) (Or.inr ⟨by rfl, rfl⟩) ?_ ?_
                          rotate_left
                          · simp only [Act.put, List.setIfInBounds_toArray, List.set_cons_zero, List.set_cons_succ, i64_w, i32_w]
                            rfl
                          refine pure_ (i := 8) (N := some 22) (v := undef) (a' := ?_) #[true, true, true, true, true, true, true, true, true, false] rfl rfl (any_of HT_.out (by kernel_rfl)) (fun _ _ _ h => h) (Or.inr ⟨by rfl, rfl⟩) ?_ ?_
                          rotate_left
                          · simp only [Act.put, List.setIfInBounds_toArray, List.set_cons_zero, List.set_cons_succ, i64_w, i32_w]
                            rfl
                          refine pure_ (i := 9) (N := some 23) (v := ?_) (a' := ?_) #[true, true, true, true, true, true, true, true, true, true] rfl rfl (any_of HT_.out (by kernel_rfl)) (fun _ _ _ h => h) (Or.inl ⟨by rfl, ?_⟩) ?_ ?_
                          rotate_left
                          · intro w'
                            go_simp
                            with_reducible rfl
                          rotate_left
                          · simp only [Act.put, List.setIfInBounds_toArray, List.set_cons_zero, List.set_cons_succ, i64_w, i32_w]
                            rfl
                          refine done_ (done_of HT_.out (by kernel_rfl)) ?_
                          try go_wp2
                          have n0_ := Aside0.mk (Kd.V_drew HO_1.out)
                          have n1_ := Aside0.mk (Kd.R_drew HO_5.out)
                          have n2_ := Aside0.mk (blk_drew BK154.out)
                          have n3_ := Aside0.mk (below_drew1 HB.out)
                          clear HO_1
                          clear HO_5
                          clear BK154
                          clear HB
                          have HO_1 := n0_
                          have HO_5 := n1_
                          have BK154 := n2_
                          have HB := n3_
                          clear n0_ n1_ n2_ n3_
                          have p172 : 0 ≤ (0 : Int) := (by omega)
                          have q172 : 0 < (x1_2.length : Int) := of_decide_eq_true (by first | (with_reducible assumption) | assumption)
                          obtain ⟨ad172, e172, hx172_0, hx172_1, hx172_2, hx172_3, hx172_4, hx172_5⟩ := at_T41 (Kd.V_reads' HO_1.out).2.2 0 p172 q172
                          cases e172
                          have qi172 : (0 < x1_2.length) = True := eq_true (by omega)
                          (try rw [show ((0 : Int)).toNat = 0 from rfl] at hx172_0)
                          (try rw [show 0 * 6 = 0 from rfl] at hx172_0)
                          (try rw [Addr.add_zero'] at hx172_0)
                          (try rw [show ((0 : Int)).toNat = 0 from rfl] at hx172_1)
                          (try rw [show 0 * 6 = 0 from rfl] at hx172_1)
                          (try rw [Addr.add_zero'] at hx172_1)
                          (try rw [show ((0 : Int)).toNat = 0 from rfl] at hx172_2)
                          (try rw [show 0 * 6 = 0 from rfl] at hx172_2)
                          (try rw [Addr.add_zero'] at hx172_2)
                          (try rw [show ((0 : Int)).toNat = 0 from rfl] at hx172_3)
                          (try rw [show 0 * 6 = 0 from rfl] at hx172_3)
                          (try rw [Addr.add_zero'] at hx172_3)
                          (try rw [show ((0 : Int)).toNat = 0 from rfl] at hx172_4)
                          (try rw [show 0 * 6 = 0 from rfl] at hx172_4)
                          (try rw [Addr.add_zero'] at hx172_4)
                          (try rw [show ((0 : Int)).toNat = 0 from rfl] at hx172_5)
                          (try rw [show 0 * 6 = 0 from rfl] at hx172_5)
                          (try rw [Addr.add_zero'] at hx172_5)
                          replace p172 := eq_true p172
                          replace q172 := eq_true q172
                          refine start_ (n := 10) (S := fun w' => w'.cell? ⟨gb154, 0, none⟩ = some (.string ((rd_T41 l0 x10_1).f0.f0)) ∧ w'.cell? ⟨gb154, 1, none⟩ = some (.string ((rd_T41 l0 x10_1).f0.f1)) ∧ w'.cell? ⟨gb154, 2, none⟩ = some (.string ((rd_T41 l0 x10_1).f1)) ∧ w'.cell? ⟨gb154, 3, none⟩ = some (.string ((rd_T41 l0 x10_1).f2.f0)) ∧ w'.cell? ⟨gb154, 4, none⟩ = some (.string ((rd_T41 l0 x10_1).f2.f1)) ∧ w'.cell? ⟨gb154, 5, none⟩ = some (.string ((rd_T41 l0 x10_1).f2.f2)) ∧ w'.cell? ad172 = some (.string ((rd_T41 x1_2 0).f0.f0)) ∧ w'.cell? ⟨ad172.block, ad172.off + 1, none⟩ = some (.string ((rd_T41 x1_2 0).f0.f1)) ∧ w'.cell? ⟨ad172.block, ad172.off + 2, none⟩ = some (.string ((rd_T41 x1_2 0).f1)) ∧ w'.cell? ⟨ad172.block, ad172.off + 3, none⟩ = some (.string ((rd_T41 x1_2 0).f2.f0)) ∧ w'.cell? ⟨ad172.block, ad172.off + 4, none⟩ = some (.string ((rd_T41 x1_2 0).f2.f1)) ∧ w'.cell? ⟨ad172.block, ad172.off + 5, none⟩ = some (.string ((rd_T41 x1_2 0).f2.f2))) (ds := []) #[false, false, false, false, false, false, false, false, false, false] (by kernel_rfl) rfl rfl ⟨(blk_cell BK154.out 0).trans rfl, (blk_cell BK154.out 1).trans rfl, (blk_cell BK154.out 2).trans rfl, (blk_cell BK154.out 3).trans rfl, (blk_cell BK154.out 4).trans rfl, (blk_cell BK154.out 5).trans rfl, hx172_0, hx172_1, hx172_2, hx172_3, hx172_4, hx172_5⟩ (fun hHeld => ?_); refine with_tabW rows_without.tab7 rows_without.bits7 (fun HT_ HW_ => ?_)
                          generalize w47.drew = w49 at HO_1 HO_5 BK154 HB hx172_0 hx172_1 hx172_2 hx172_3 hx172_4 hx172_5 hHeld ⊢
                          refine pure_ (i := 0) (N := some 26) (v := ?_) (a' := ?_) #[true, false, false, false, false, false, false, false, false, false] rfl rfl (any_of HT_.out (by kernel_rfl)) (fun _ _ _ h => h) (Or.inl ⟨by rfl, ?_⟩) ?_ ?_
                          rotate_left
                          · intro w'
                            go_simp
                            with_reducible rfl
                          rotate_left
                          · simp only [Act.put, List.setIfInBounds_toArray, List.set_cons_zero, List.set_cons_succ, i64_w, i32_w]
                            rfl
                          refine pure_ (i := 1) (N := some 27) (v := ?_) (a' := ?_) #[true, true, false, false, false, false, false, false, false, false] rfl rfl (any_of HT_.out (by kernel_rfl)) (fun _ _ _ h => h) (Or.inl ⟨by rfl, ?_⟩) ?_ ?_
                          rotate_left
                          · intro w'
                            go_simp
                            with_reducible rfl
                          rotate_left
                          · simp only [Act.put, List.setIfInBounds_toArray, List.set_cons_zero, List.set_cons_succ, i64_w, i32_w]
                            rfl
                          refine pure_ (i := 2) (N := some 28) (v := ?_) (a' := ?_) #[true, true, true, false, false, false, false, false, false, false] rfl rfl (any_of HT_.out (by kernel_rfl)) (fun _ _ _ h => h) (Or.inl ⟨by rfl, ?_⟩) ?_ ?_
                          rotate_left
                          · intro w'
                            go_simp
                            with_reducible rfl
                          rotate_left
                          · simp only [Act.put, List.setIfInBounds_toArray, List.set_cons_zero, List.set_cons_succ, i64_w, i32_w]
                            rfl
                          refine pure_ (i := 3) (N := some 29) (v := ?_) (a' := ?_) #[true, true, true, true, false, false, false, false, false, false] rfl rfl (any_of HT_.out (by kernel_rfl)) (fun _ _ _ h => h) (Or.inl ⟨by rfl, ?_⟩) ?_ ?_
                          rotate_left
                          · intro w'
                            go_simp
                            with_reducible rfl
                          rotate_left
                          · simp only [Act.put, List.setIfInBounds_toArray, List.set_cons_zero, List.set_cons_succ, i64_w, i32_w]
                            rfl
                          refine pure_ (i := 4) (N := some 30) (v := ?_) (a' := ?_) #[true, true, true, true, true, false, false, false, false, false] rfl rfl (any_of HT_.out (by kernel_rfl)) (fun _ _ _ h => h) (Or.inl ⟨by rfl, ?_⟩) ?_ ?_
                          rotate_left
                          · intro w'
                            go_simp
                            with_reducible rfl
                          rotate_left
                          · simp only [Act.put, List.setIfInBounds_toArray, List.set_cons_zero, List.set_cons_succ, i64_w, i32_w]
                            rfl
                          refine pure_ (i := 5) (N := some 31) (v := ?_) (a' := ?_) #[true, true, true, true, true, true, false, false, false, false] rfl rfl (any_of HT_.out (by kernel_rfl)) (fun _ _ _ h => h) (Or.inl ⟨by rfl, ?_⟩) ?_ ?_
                          rotate_left
                          · intro w'
                            go_simp
                            with_reducible rfl
                          rotate_left
                          · simp only [Act.put, List.setIfInBounds_toArray, List.set_cons_zero, List.set_cons_succ, i64_w, i32_w]
                            rfl
                          refine take_ (i := 6) (N := some 32) (v := ?_) (a' := ?_) #[true, true, true, true, true, true, true, false, false, false] rfl rfl (take_ofW HT_.out HW_.out (by kernel_rfl)) (fun _ _ _ h => h) (Or.inl ⟨by rfl, ?_⟩) hHeld ?_ ?_
                          rotate_left
                          · rintro w' ⟨s0, s1, s2, s3, s4, s5, s6, s7, s8, s9, s10, s11⟩
                            go_simp
                            with_reducible rfl
                          rotate_left
                          · simp only [Act.put, List.setIfInBounds_toArray, List.set_cons_zero, List.set_cons_succ, i64_w, i32_w]
                            rfl
                          refine take_ (i := 7) (N := some 33) (v := ?_) (a' := ?_) #[true, true, true, true, true, true, true, true, false, false] rfl rfl (take_ofW HT_.out HW_.out (by kernel_rfl)) (fun _ _ _ h => h) (Or.inl ⟨by rfl, ?_⟩) hHeld ?_ ?_
                          rotate_left
                          · rintro w' ⟨s0, s1, s2, s3, s4, s5, s6, s7, s8, s9, s10, s11⟩
                            go_simp
                            with_reducible rfl
                          rotate_left
                          · simp only [Act.put, List.setIfInBounds_toArray, List.set_cons_zero, List.set_cons_succ, i64_w, i32_w]
                            rfl
                          refine pure_ (i := 8) (N := some 34) (v := ?_) (a' := ?_) #[true, true, true, true, true, true, true, true, true, false] rfl rfl (any_of HT_.out (by kernel_rfl)) (fun _ _ _ h => h) (Or.inl ⟨by rfl, ?_⟩) ?_ ?_
                          rotate_left
                          · intro w'
                            go_simp
                            with_reducible rfl
                          rotate_left
                          · simp only [Act.put, List.setIfInBounds_toArray, List.set_cons_zero, List.set_cons_succ, i64_w, i32_w]
                            rfl
                          refine pure_ (i := 9) (N := some 35) (v := ?_) (a' := ?_) #[true, true, true, true, true, true, true, true, true, true] rfl rfl (any_of HT_.out (by kernel_rfl)) (fun _ _ _ h => h) (Or.inl ⟨by rfl, ?_⟩) ?_ ?_
                          rotate_left
                          · intro w'
                            go_simp
                            with_reducible rfl
                          rotate_left
                          · simp only [Act.put, List.setIfInBounds_toArray, List.set_cons_zero, List.set_cons_succ, i64_w, i32_w]
                            rfl
                          refine done_ (done_of HT_.out (by kernel_rfl)) ?_
                          have hcz50_0 : w49.cell? ⟨gb154, 0, none⟩ = some (.string ((rd_T41 l0 x10_1).f0.f0)) := (blk_cell BK154.out 0).trans rfl
                          have hcz50_1 : w49.cell? ⟨gb154, 1, none⟩ = some (.string ((rd_T41 l0 x10_1).f0.f1)) := (blk_cell BK154.out 1).trans rfl
                          have hcz50_2 : w49.cell? ⟨gb154, 2, none⟩ = some (.string ((rd_T41 l0 x10_1).f1)) := (blk_cell BK154.out 2).trans rfl
                          have hcz50_3 : w49.cell? ⟨gb154, 3, none⟩ = some (.string ((rd_T41 l0 x10_1).f2.f0)) := (blk_cell BK154.out 3).trans rfl
                          have hcz50_4 : w49.cell? ⟨gb154, 4, none⟩ = some (.string ((rd_T41 l0 x10_1).f2.f1)) := (blk_cell BK154.out 4).trans rfl
                          have hcz50_5 : w49.cell? ⟨gb154, 5, none⟩ = some (.string ((rd_T41 l0 x10_1).f2.f2)) := (blk_cell BK154.out 5).trans rfl
                          have hfz50_0 := blk_frozen BK154.out 0
                          have hfz50_1 := blk_frozen BK154.out 1
                          have hfz50_2 := blk_frozen BK154.out 2
                          have hfz50_3 := blk_frozen BK154.out 3
                          have hfz50_4 := blk_frozen BK154.out 4
                          have hfz50_5 := blk_frozen BK154.out 5
                          try go_wp2_with (first | ((with_reducible refine gate_builtin (b := .append) (xs := #[.tmp 36, .tmp 38]) rfl ?_); at_builtin; refine Kd.R_append k41 (w0 := w) w.heap.size rfl (.tmp 36) (.tmp 38) 23 41 (.agg #[(.string ⟨#[]⟩), (.string ⟨#[]⟩), (.string ⟨#[]⟩), (.string ⟨#[]⟩), (.string ⟨#[]⟩), (.string ⟨#[]⟩)]) 96 rfl Try.underlying23 info41 rfl (by decide) (by omega) u5 x5_1 (⟨(⟨((rd_T41 l0 x10_1).f0.f0), ((rd_T41 l0 x10_1).f0.f1)⟩ : S37), ((rd_T41 l0 x10_1).f1), (⟨((rd_T41 l0 x10_1).f2.f0), ((rd_T41 l0 x10_1).f2.f1), ((rd_T41 l0 x10_1).f2.f2)⟩ : S39)⟩ : S41) [.string ((rd_T41 l0 x10_1).f0.f0), .string ((rd_T41 l0 x10_1).f0.f1), .string ((rd_T41 l0 x10_1).f1), .string ((rd_T41 l0 x10_1).f2.f0), .string ((rd_T41 l0 x10_1).f2.f1), .string ((rd_T41 l0 x10_1).f2.f2)] (fun k_ => (w.heap.size ≤ k_) ∧ k_ ≠ gb154) (fun _ => False) rfl rfl ?aP (fun _ hk => hk.elim) ?aF ?aO ?aB ?aS ?aL ?_; (case aP => exact k41_mkM _ _ _ (⟨(⟨((rd_T41 l0 x10_1).f0.f0), ((rd_T41 l0 x10_1).f0.f1)⟩ : S37), ((rd_T41 l0 x10_1).f1), (⟨((rd_T41 l0 x10_1).f2.f0), ((rd_T41 l0 x10_1).f2.f1), ((rd_T41 l0 x10_1).f2.f2)⟩ : S39)⟩ : S41)); (case aB => exact (by repeat (first | (with_reducible first | exact HB.out | apply below_alloc | apply pw_below_drewN | apply below_drew1 | refine below_set ?_ GE154.out) | exact HB.out))); (case aF => exact (fun k_ hk => ⟨(Nat.le_trans (below_size (by repeat (first | (with_reducible first | exact HB.out | apply below_alloc | apply pw_below_drewN | apply below_drew1 | refine below_set ?_ GE154.out) | exact HB.out))) hk), Kd.freshB (g := gb154) (o := .cells #[.string ((rd_T41 l0 x10_1).f0.f0), .string ((rd_T41 l0 x10_1).f0.f1), .string ((rd_T41 l0 x10_1).f1), .string ((rd_T41 l0 x10_1).f2.f0), .string ((rd_T41 l0 x10_1).f2.f1), .string ((rd_T41 l0 x10_1).f2.f2)] 41 (0, 0)) (by (with_reducible repeat (first | refine blk_drewN ?_ _ | refine blk_drew ?_ | refine blk_alloc ?_ _)); exact BK154.out) k_ hk⟩)); (case aO => exact (by (with_reducible repeat (first | apply Kd.R_alloc | apply Kd.R_drewN | apply Kd.R_drew)); exact HO_5.out)); (case aS => exact (below_size (by repeat (first | (with_reducible first | exact HB.out | apply below_alloc | apply pw_below_drewN | apply below_drew1 | refine below_set ?_ GE154.out) | exact HB.out)))); (case aL => have := LMc46.out; omega); intro v174 w51 ho hb hg hat; rw [← Ny173.out] at ho; have n0_ := Aside0.mk (Kd.V_afterv (ok := (fun k_ => (P1_ k_ ∨ w.heap.size ≤ k_) ∧ k_ ≠ gb154)) (by (with_reducible repeat (first | apply Kd.V_alloc | apply Kd.V_drewN | apply Kd.V_drew)); exact Kd.V_mono HO_1.out (fun _ hk => ⟨⟨hk.1, hk.2.2⟩, hk.2.1⟩)) hg hat); have n1_ := Aside0.mk (blk_grown (g := gb154) (o := .cells #[.string ((rd_T41 l0 x10_1).f0.f0), .string ((rd_T41 l0 x10_1).f0.f1), .string ((rd_T41 l0 x10_1).f1), .string ((rd_T41 l0 x10_1).f2.f0), .string ((rd_T41 l0 x10_1).f2.f1), .string ((rd_T41 l0 x10_1).f2.f2)] 41 (0, 0)) (by (with_reducible repeat (first | refine blk_drewN ?_ _ | refine blk_drew ?_ | refine blk_alloc ?_ _)); exact BK154.out) hg (Kd.R_away HO_5.out (fun _ hk => hk.2))); have n2_ := Aside0.mk (hb); have n3_ := Aside0.mk (ho); clear HO_1; clear BK154; clear HB; clear HO_5; have HO_1 := n0_; have BK154 := n1_; have HB := n2_; have HO175 := n3_; clear n0_ n1_ n2_ n3_; clear ho hb hg hat))
                          go_roundg k2
                          case measure => have := HK1.out; have := HK2.out; omega
                          case rel => exact ⟨(x1_2), (y173), (wrap64 (x10_1 + 1)), (by first | rfl | (simp; done) | (simp [*]; done)), H', ⟨by have := HK1.out; have := HK2.out; omega⟩, ⟨by (with_reducible repeat (first | apply Kd.V_alloc | apply Kd.V_drewN | apply Kd.V_drew)); exact Kd.V_mono HO_1.out (fun _ hk => ⟨hk.1.1, hk.2⟩)⟩, ⟨by (with_reducible repeat (first | apply Kd.R_alloc | apply Kd.R_drewN | apply Kd.R_drew)); exact Kd.R_mono HO175.out (fun _ hk => hk.1)⟩, ⟨by repeat (first | (with_reducible first | exact HB.out | apply below_alloc | apply pw_below_drewN | apply below_drew1 | refine below_set ?_ GE154.out) | exact HB.out)⟩⟩
                        · rw [if_neg c46] at H
                          exact absurd H (by simp)
                      · rw [if_neg c45] at H
                        have c45b0 : ((!((((rd_T41 x1_2 0).f0.f0).toList) == ((rd_T41 l0 x10_1).f0.f0).toList) || (!((((rd_T41 x1_2 0).f0.f1).toList) == ((rd_T41 l0 x10_1).f0.f1).toList))) || (!((((rd_T41 x1_2 0).f1).toList) == ((rd_T41 l0 x10_1).f1).toList) || ((!((((rd_T41 x1_2 0).f2.f0).toList) == ((rd_T41 l0 x10_1).f2.f0).toList) || (!((((rd_T41 x1_2 0).f2.f1).toList) == ((rd_T41 l0 x10_1).f2.f1).toList) || (!((((rd_T41 x1_2 0).f2.f2).toList) == ((rd_T41 l0 x10_1).f2.f2).toList))))))) = false := by simpa using c45
                        clear c45
                        have H' := Aside0.mk H
                        clear H
                        try go_wp2
                        have n0_ := Aside0.mk (Kd.V_drew HO_1.out)
                        have n1_ := Aside0.mk (Kd.R_drew HO_5.out)
                        have n2_ := Aside0.mk (blk_drew BK154.out)
                        have n3_ := Aside0.mk (below_drew1 HB.out)
                        clear HO_1
                        clear HO_5
                        clear BK154
                        clear HB
                        have HO_1 := n0_
                        have HO_5 := n1_
                        have BK154 := n2_
                        have HB := n3_
                        clear n0_ n1_ n2_ n3_
                        obtain ⟨Ao53, co53, eo53⟩ := Kd.V_slice HO_1.out
                        (first | subst eo53 | (injection eo53 with f1_ f2_ f3_; have f4_ := f1_.symm; have f5_ := f3_.symm; clear f1_ f2_ f3_; subst f4_; subst f5_))
                        refine start_ (n := 10) (S := fun w' => True) (ds := []) #[false, false, false, false, false, false, false, false, false, false] (by kernel_rfl) rfl rfl trivial (fun hHeld => ?_); refine with_tabW rows_without.tab5 rows_without.bits5 (fun HT_ HW_ => ?_)
                        generalize wr.drew = w52 at HO_1 HO_5 BK154 HB hHeld ⊢
                        refine pure_ (i := 0) (N := some 14) (v := ?_) (a' := ?_) #[true, false, false, false, false, false, false, false, false, false] rfl rfl (any_of HT_.out (by kernel_rfl)) (fun _ _ _ h => h) (Or.inl ⟨by rfl, ?_⟩) ?_ ?_
                        rotate_left
                        · intro w'
                          go_simp
                          with_reducible rfl
                        rotate_left
                        · simp only [Act.put, List.setIfInBounds_toArray, List.set_cons_zero, List.set_cons_succ, i64_w, i32_w]
                          rfl
                        refine pure_ (i := 1) (N := some 15) (v := ?_) (a' := ?_) #[true, true, false, false, false, false, false, false, false, false] rfl rfl (any_of HT_.out (by kernel_rfl)) (fun _ _ _ h => h) (Or.inl ⟨by rfl, ?_⟩) ?_ ?_
                        rotate_left
                        · intro w'
                          go_simp
                          with_reducible rfl
                        rotate_left
                        · simp only [Act.put, List.setIfInBounds_toArray, List.set_cons_zero, List.set_cons_succ, i64_w, i32_w]
                          rfl
                        refine pure_ (i := 2) (N := some 16) (v := ?_) (a' := ?_) #[true, true, true, false, false, false, false, false, false, false] rfl rfl (any_of HT_.out (by kernel_rfl)) (fun _ _ _ h => h) (Or.inl ⟨by rfl, ?_⟩) ?_ ?_
                        rotate_left
                        · intro w'
                          go_simp
                          with_reducible rfl
                        rotate_left
                        · simp only [Act.put, List.setIfInBounds_toArray, List.set_cons_zero, List.set_cons_succ, i64_w, i32_w]
                          rfl
                        refine pure_ (i := 3) (N := some 17) (v := ?_) (a' := ?_) #[true, true, true, true, false, false, false, false, false, false] rfl rfl (any_of HT_.out (by kernel_rfl)) (fun _ _ _ h => h) (Or.inl ⟨by rfl, ?_⟩) ?_ ?_
                        rotate_left
                        · intro w'
                          go_simp
                          with_reducible rfl
                        rotate_left
                        · simp only [Act.put, List.setIfInBounds_toArray, List.set_cons_zero, List.set_cons_succ, i64_w, i32_w]
                          rfl
                        refine pure_ (i := 4) (N := some 18) (v := undef) (a' := ?_) #[true, true, true, true, true, false, false, false, false, false] rfl rfl (any_of HT_.out (by kernel_rfl)) (fun _ _ _ h => h) (Or.inr ⟨by rfl, rfl⟩) ?_ ?_
                        rotate_left
                        · simp only [Act.put, List.setIfInBounds_toArray, List.set_cons_zero, List.set_cons_succ, i64_w, i32_w]
                          rfl
                        refine pure_ (i := 5) (N := some 19) (v := undef) (a' := ?_) #[true, true, true, true, true, true, false, false, false, false] rfl rfl (any_of HT_.out (by kernel_rfl)) (fun _ _ _ h => h) (Or.inr ⟨by rfl, rfl⟩) ?_ ?_
                        rotate_left
                        · simp only [Act.put, List.setIfInBounds_toArray, List.set_cons_zero, List.set_cons_succ, i64_w, i32_w]
                          rfl
                        refine pure_ (i := 6) (N := some 20) (v := undef) (a' := ?_) #[true, true, true, true, true, true, true, false, false, false] rfl rfl (any_of HT_.out (by kernel_rfl)) (fun _ _ _ h => h) (Or.inr ⟨by rfl, rfl⟩) ?_ ?_
                        rotate_left
                        · simp only [Act.put, List.setIfInBounds_toArray, List.set_cons_zero, List.set_cons_succ, i64_w, i32_w]
                          rfl
                        refine pure_ (i := 7) (N := some 21) (v := undef) (a' := ?_) #[true, true, true, true, true, true, true, true, false, false] rfl rfl (any_of HT_.out (by kernel_rfl)) (fun _ _ _ h => h) (Or.inr ⟨by rfl, rfl⟩) ?_ ?_
                        rotate_left
                        · simp only [Act.put, List.setIfInBounds_toArray, List.set_cons_zero, List.set_cons_succ, i64_w, i32_w]
                          rfl
                        refine pure_ (i := 8) (N := some 22) (v := undef) (a' := ?_) #[true, true, true, true, true, true, true, true, true, false] rfl rfl (any_of HT_.out (by kernel_rfl)) (fun _ _ _ h => h) (Or.inr ⟨by rfl, rfl⟩) ?_ ?_
                        rotate_left
                        · simp only [Act.put, List.setIfInBounds_toArray, List.set_cons_zero, List.set_cons_succ, i64_w, i32_w]
                          rfl
                        refine pure_ (i := 9) (N := some 23) (v := ?_) (a' := ?_) #[true, true, true, true, true, true, true, true, true, true] rfl rfl (any_of HT_.out (by kernel_rfl)) (fun _ _ _ h => h) (Or.inl ⟨by rfl, ?_⟩) ?_ ?_
                        rotate_left
                        · intro w'
                          go_simp
                          with_reducible rfl
                        rotate_left
                        · simp only [Act.put, List.setIfInBounds_toArray, List.set_cons_zero, List.set_cons_succ, i64_w, i32_w]
                          rfl
                        refine done_ (done_of HT_.out (by kernel_rfl)) ?_
                        try go_wp2
                        have n0_ := Aside0.mk (Kd.V_drew HO_1.out)
                        have n1_ := Aside0.mk (Kd.R_drew HO_5.out)
                        have n2_ := Aside0.mk (blk_drew BK154.out)
                        have n3_ := Aside0.mk (below_drew1 HB.out)
                        clear HO_1
                        clear HO_5
                        clear BK154
                        clear HB
                        have HO_1 := n0_
                        have HO_5 := n1_
                        have BK154 := n2_
                        have HB := n3_
                        clear n0_ n1_ n2_ n3_
                        have p172 : 0 ≤ (0 : Int) := (by omega)
                        have q172 : 0 < (x1_2.length : Int) := of_decide_eq_true (by first | (with_reducible assumption) | assumption)
                        obtain ⟨ad172, e172, hx172_0, hx172_1, hx172_2, hx172_3, hx172_4, hx172_5⟩ := at_T41 (Kd.V_reads' HO_1.out).2.2 0 p172 q172
                        cases e172
                        have qi172 : (0 < x1_2.length) = True := eq_true (by omega)
                        (try rw [show ((0 : Int)).toNat = 0 from rfl] at hx172_0)
                        (try rw [show 0 * 6 = 0 from rfl] at hx172_0)
                        (try rw [Addr.add_zero'] at hx172_0)
                        (try rw [show ((0 : Int)).toNat = 0 from rfl] at hx172_1)
                        (try rw [show 0 * 6 = 0 from rfl] at hx172_1)
                        (try rw [Addr.add_zero'] at hx172_1)
                        (try rw [show ((0 : Int)).toNat = 0 from rfl] at hx172_2)
                        (try rw [show 0 * 6 = 0 from rfl] at hx172_2)
                        (try rw [Addr.add_zero'] at hx172_2)
                        (try rw [show ((0 : Int)).toNat = 0 from rfl] at hx172_3)
                        (try rw [show 0 * 6 = 0 from rfl] at hx172_3)
                        (try rw [Addr.add_zero'] at hx172_3)
                        (try rw [show ((0 : Int)).toNat = 0 from rfl] at hx172_4)
                        (try rw [show 0 * 6 = 0 from rfl] at hx172_4)
                        (try rw [Addr.add_zero'] at hx172_4)
                        (try rw [show ((0 : Int)).toNat = 0 from rfl] at hx172_5)
                        (try rw [show 0 * 6 = 0 from rfl] at hx172_5)
                        (try rw [Addr.add_zero'] at hx172_5)
                        replace p172 := eq_true p172
                        replace q172 := eq_true q172
                        refine start_ (n := 10) (S := fun w' => w'.cell? ⟨gb154, 0, none⟩ = some (.string ((rd_T41 l0 x10_1).f0.f0)) ∧ w'.cell? ⟨gb154, 1, none⟩ = some (.string ((rd_T41 l0 x10_1).f0.f1)) ∧ w'.cell? ⟨gb154, 2, none⟩ = some (.string ((rd_T41 l0 x10_1).f1)) ∧ w'.cell? ⟨gb154, 3, none⟩ = some (.string ((rd_T41 l0 x10_1).f2.f0)) ∧ w'.cell? ⟨gb154, 4, none⟩ = some (.string ((rd_T41 l0 x10_1).f2.f1)) ∧ w'.cell? ⟨gb154, 5, none⟩ = some (.string ((rd_T41 l0 x10_1).f2.f2)) ∧ w'.cell? ad172 = some (.string ((rd_T41 x1_2 0).f0.f0)) ∧ w'.cell? ⟨ad172.block, ad172.off + 1, none⟩ = some (.string ((rd_T41 x1_2 0).f0.f1)) ∧ w'.cell? ⟨ad172.block, ad172.off + 2, none⟩ = some (.string ((rd_T41 x1_2 0).f1)) ∧ w'.cell? ⟨ad172.block, ad172.off + 3, none⟩ = some (.string ((rd_T41 x1_2 0).f2.f0)) ∧ w'.cell? ⟨ad172.block, ad172.off + 4, none⟩ = some (.string ((rd_T41 x1_2 0).f2.f1)) ∧ w'.cell? ⟨ad172.block, ad172.off + 5, none⟩ = some (.string ((rd_T41 x1_2 0).f2.f2))) (ds := []) #[false, false, false, false, false, false, false, false, false, false] (by kernel_rfl) rfl rfl ⟨(blk_cell BK154.out 0).trans rfl, (blk_cell BK154.out 1).trans rfl, (blk_cell BK154.out 2).trans rfl, (blk_cell BK154.out 3).trans rfl, (blk_cell BK154.out 4).trans rfl, (blk_cell BK154.out 5).trans rfl, hx172_0, hx172_1, hx172_2, hx172_3, hx172_4, hx172_5⟩ (fun hHeld => ?_); refine with_tabW rows_without.tab7 rows_without.bits7 (fun HT_ HW_ => ?_)
                        generalize w52.drew = w54 at HO_1 HO_5 BK154 HB hx172_0 hx172_1 hx172_2 hx172_3 hx172_4 hx172_5 hHeld ⊢
                        refine pure_ (i := 0) (N := some 26) (v := ?_) (a' := ?_) #[true, false, false, false, false, false, false, false, false, false] rfl rfl (any_of HT_.out (by kernel_rfl)) (fun _ _ _ h => h) (Or.inl ⟨by rfl, ?_⟩) ?_ ?_
                        rotate_left
                        · intro w'
                          go_simp
                          with_reducible rfl
                        rotate_left
                        · simp only [Act.put, List.setIfInBounds_toArray, List.set_cons_zero, List.set_cons_succ, i64_w, i32_w]
                          rfl
                        refine pure_ (i := 1) (N := some 27) (v := ?_) (a' := ?_) #[true, true, false, false, false, false, false, false, false, false] rfl rfl (any_of HT_.out (by kernel_rfl)) (fun _ _ _ h => h) (Or.inl ⟨by rfl, ?_⟩) ?_ ?_
                        rotate_left
                        · intro w'
                          go_simp
                          with_reducible rfl
                        rotate_left
                        · simp only [Act.put, List.setIfInBounds_toArray, List.set_cons_zero, List.set_cons_succ, i64_w, i32_w]
                          rfl
                        refine pure_ (i := 2) (N := some 28) (v := ?_) (a' := ?_) #[true, true, true, false, false, false, false, false, false, false] rfl rfl (any_of HT_.out (by kernel_rfl)) (fun _ _ _ h => h) (Or.inl ⟨by rfl, ?_⟩) ?_ ?_
                        rotate_left
                        · intro w'
                          go_simp
                          with_reducible rfl
                        rotate_left
                        · simp only [Act.put, List.setIfInBounds_toArray, List.set_cons_zero, List.set_cons_succ, i64_w, i32_w]
                          rfl
                        refine pure_ (i := 3) (N := some 29) (v := ?_) (a' := ?_) #[true, true, true, true, false, false, false, false, false, false] rfl rfl (any_of HT_.out (by kernel_rfl)) (fun _ _ _ h => h) (Or.inl ⟨by rfl, ?_⟩) ?_ ?_
                        rotate_left
                        · intro w'
                          go_simp
                          with_reducible rfl
                        rotate_left
                        · simp only [Act.put, List.setIfInBounds_toArray, List.set_cons_zero, List.set_cons_succ, i64_w, i32_w]
                          rfl
                        refine pure_ (i := 4) (N := some 30) (v := ?_) (a' := ?_) #[true, true, true, true, true, false, false, false, false, false] rfl rfl (any_of HT_.out (by kernel_rfl)) (fun _ _ _ h => h) (Or.inl ⟨by rfl, ?_⟩) ?_ ?_
                        rotate_left
                        · intro w'
                          go_simp
                          with_reducible rfl
                        rotate_left
                        · simp only [Act.put, List.setIfInBounds_toArray, List.set_cons_zero, List.set_cons_succ, i64_w, i32_w]
                          rfl
                        refine pure_ (i := 5) (N := some 31) (v := ?_) (a' := ?_) #[true, true, true, true, true, true, false, false, false, false] rfl rfl (any_of HT_.out (by kernel_rfl)) (fun _ _ _ h => h) (Or.inl ⟨by rfl, ?_⟩) ?_ ?_
                        rotate_left
                        · intro w'
                          go_simp
                          with_reducible rfl
                        rotate_left
                        · simp only [Act.put, List.setIfInBounds_toArray, List.set_cons_zero, List.set_cons_succ, i64_w, i32_w]
                          rfl
                        refine take_ (i := 6) (N := some 32) (v := ?_) (a' := ?_) #[true, true, true, true, true, true, true, false, false, false] rfl rfl (take_ofW HT_.out HW_.out (by kernel_rfl)) (fun _ _ _ h => h) (Or.inl ⟨by rfl, ?_⟩) hHeld ?_ ?_
                        rotate_left
                        · rintro w' ⟨s0, s1, s2, s3, s4, s5, s6, s7, s8, s9, s10, s11⟩
                          go_simp
                          with_reducible rfl
                        rotate_left
                        · simp only [Act.put, List.setIfInBounds_toArray, List.set_cons_zero, List.set_cons_succ, i64_w, i32_w]
                          rfl
                        refine take_ (i := 7) (N := some 33) (v := ?_) (a' := ?_) #[true, true, true, true, true, true, true, true, false, false] rfl rfl (take_ofW HT_.out HW_.out (by kernel_rfl)) (fun _ _ _ h => h) (Or.inl ⟨by rfl, ?_⟩) hHeld ?_ ?_
                        rotate_left
                        · rintro w' ⟨s0, s1, s2, s3, s4, s5, s6, s7, s8, s9, s10, s11⟩
                          go_simp
                          with_reducible rfl
                        rotate_left
                        · simp only [Act.put, List.setIfInBounds_toArray, List.set_cons_zero, List.set_cons_succ, i64_w, i32_w]
                          rfl
                        refine pure_ (i := 8) (N := some 34) (v := ?_) (a' := ?_) #[true, true, true, true, true, true, true, true, true, false] rfl rfl (any_of HT_.out (by kernel_rfl)) (fun _ _ _ h => h) (Or.inl ⟨by rfl, ?_⟩) ?_ ?_
                        rotate_left
                        · intro w'
                          go_simp
                          with_reducible rfl
                        rotate_left
                        · simp only [Act.put, List.setIfInBounds_toArray, List.set_cons_zero, List.set_cons_succ, i64_w, i32_w]
                          rfl
                        refine pure_ (i := 9) (N := some 35) (v := ?_) (a' := ?_) #[true, true, true, true, true, true, true, true, true, true] rfl rfl (any_of HT_.out (by kernel_rfl)) (fun _ _ _ h => h) (Or.inl ⟨by rfl, ?_⟩) ?_ ?_
                        rotate_left
                        · intro w'
                          go_simp
                          with_reducible rfl
                        rotate_left
                        · simp only [Act.put, List.setIfInBounds_toArray, List.set_cons_zero, List.set_cons_succ, i64_w, i32_w]
                          rfl
                        refine done_ (done_of HT_.out (by kernel_rfl)) ?_
                        try go_wp2
                        go_roundg k2
                        case measure => have := HK1.out; have := HK2.out; omega
                        case rel => exact ⟨(x1_2), (x5_1), (wrap64 (x10_1 + 1)), (by first | rfl | (simp; done) | (simp [*]; done)), H', ⟨by have := HK1.out; have := HK2.out; omega⟩, ⟨by (with_reducible repeat (first | apply Kd.V_alloc | apply Kd.V_drewN | apply Kd.V_drew)); exact Kd.V_mono HO_1.out (fun _ hk => ⟨hk.1, hk.2.1⟩)⟩, ⟨by (with_reducible repeat (first | apply Kd.R_alloc | apply Kd.R_drewN | apply Kd.R_drew)); exact Kd.R_mono HO_5.out (fun _ hk => hk.1)⟩, ⟨by repeat (first | (with_reducible first | exact HB.out | apply below_alloc | apply pw_below_drewN | apply below_drew1 | refine below_set ?_ GE154.out) | exact HB.out)⟩⟩
                    · rw [if_neg c44] at H
                      exact absurd H (by simp)
          · rw [if_neg c5] at H
            exact absurd H (by simp)
        · rw [if_neg c4] at H
          exact absurd H (by simp)
      · rw [if_neg c3] at H
        have c3b0 : decide (x10_1 < (l0.length : Int)) = false := decide_eq_false c3
        clear c3
        obtain rfl := Option.some.inj H
        go_wp2
        go_ret
        exact ⟨_, by first | rfl | (simp [errW_none, errW_some] <;> rfl) | (simp [*, errW_none, errW_some] <;> rfl), by (with_reducible repeat (first | apply Kd.R_alloc | apply Kd.R_drewN | apply Kd.R_drew)); exact HO_5.out, by repeat (first | (with_reducible first | exact HB.out | apply below_alloc | apply pw_below_drewN | apply below_drew1) | exact HB.out)⟩

end Go.Proofs.Ytpgmeaofmlipkaa.PT
