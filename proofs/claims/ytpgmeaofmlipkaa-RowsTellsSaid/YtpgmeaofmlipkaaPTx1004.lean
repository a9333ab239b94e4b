-- Written by a program of this session (wip/tools/pp.py over the kit's printer). Lean checks it.
import Derived.Test.YtpgmeaofmlipkaaPTx0
import Derived.Test.YtpgmeaofmlipkaaPTx1011
import Derived.Test.YtpgmeaofmlipkaaPTx1012
import Derived.Test.YtpgmeaofmlipkaaPTx1013
import Derived.Test.YtpgmeaofmlipkaaPTx1014
import Derived.Test.YtpgmeaofmlipkaaPTx1015
import Derived.Test.YtpgmeaofmlipkaaPTx1016
import Derived.Test.YtpgmeaofmlipkaaPTx1017
import Derived.Test.YtpgmeaofmlipkaaPTx1018
import Derived.Test.YtpgmeaofmlipkaaPTx1019
import Derived.Test.YtpgmeaofmlipkaaPTx1020
import Derived.Test.YtpgmeaofmlipkaaPTx1021
import Derived.Test.YtpgmeaofmlipkaaPTx1022
import Derived.Test.YtpgmeaofmlipkaaPTx1023
import Derived.Test.YtpgmeaofmlipkaaPTx1024
namespace Go.Proofs.Ytpgmeaofmlipkaa.PT
open Go.RowKit Go.Proofs.YtpgmeaofmlipkaaW.PrintWords Go.Proofs.YtpgmeaofmlipkaaW.PrintLast Go.Proofs.YtpgmeaofmlipkaaW.PrintMore
attribute [local go_sem] max2_int min2_int max_two min_two max_three min_three max_four min_four   -- for this text's walks alone
set_option linter.unusedVariables false
set_option linter.unusedSimpArgs false

/-! ### entaillaw3_RowsTells: function 4 -/
mutual
def entaillaw3_RowsTells.l2 : Nat → List (S41) → List Int → List Int → Int → List (S41) → Int → Option (Bool)
 | 0, _, _, _, _, _, _ => none
 | k + 1, x1, x2, x3, x9, x12, x13 => if x13 < (x1.length : Int) then (if 0 ≤ x13 then ((rows_Has.f x12 ((rd_T41 x1 x13).f0.f0) ((rd_T41 x1 x13).f0.f1) ((rd_T41 x1 x13).f1) ((rd_T41 x1 x13).f2.f0) ((rd_T41 x1 x13).f2.f1) ((rd_T41 x1 x13).f2.f2)).bind fun t427 => ((entailref1_Has.f k x12 ((rd_T41 x1 x13).f0.f0) ((rd_T41 x1 x13).f0.f1) ((rd_T41 x1 x13).f1) ((rd_T41 x1 x13).f2.f0) ((rd_T41 x1 x13).f2.f1) ((rd_T41 x1 x13).f2.f2)).bind fun t429 => (if (t427 != t429) = true then (none) else (entaillaw3_RowsTells.l2 k x1 x2 x3 x9 x12 (wrap64 (x13 + 1)))))) else (none)) else ((entaillaw2_Tames.f k x2).bind fun t430 => ((entaillaw2_Tames.f k x3).bind fun t433 => (if (wrap64 (x9 + 1)) < 2 then ((rows_Diff.f k t430 t433).bind fun bt436 => ((rows_Of.f t430).bind fun t442 => ((entailref1_Of.f k t430).bind fun t445 => ((entailref1_Same.f k t442 t445).bind fun t448 => (if t448 = true then ((rows_Is.f k t430).bind fun t449 => ((entailref1_Is.f k t430).bind fun t450 => (if (t449 != t450) = true then (none) else ((rows_Plus.f t430 t433).bind fun t451 => ((entailref1_Plus.f k t430 t433).bind fun t454 => ((entailref1_Same.f k t451 t454).bind fun t457 => (if t457 = true then ((rows_Minus.f k t430 t433).bind fun t458 => ((entailref1_Minus.f k t430 t433).bind fun t461 => ((entailref1_Same.f k t458 t461).bind fun t464 => (if t464 = true then ((entailref1_Minus.f k t433 t430).bind fun t465 => ((entailref1_Same.f k bt436.1 t465).bind fun t468 => (if t468 = true then ((entailref1_Minus.f k t430 t433).bind fun t469 => ((entailref1_Same.f k bt436.2 t469).bind fun t472 => (if t472 = true then ((entailref1_Of.f k t430).bind fun t473 => (entaillaw3_RowsTells.l3 k t433 x2 x3 (wrap64 (x9 + 1)) t473 0)) else (none)))) else (none)))) else (none))))) else (none)))))))) else (none)))))) else (none))))
def entaillaw3_RowsTells.l3 : Nat → List (S41) → List Int → List Int → Int → List (S41) → Int → Option (Bool)
 | 0, _, _, _, _, _, _ => none
 | k + 1, x1, x2, x3, x9, x12, x13 => if x13 < (x1.length : Int) then (if 0 ≤ x13 then ((rows_Has.f x12 ((rd_T41 x1 x13).f0.f0) ((rd_T41 x1 x13).f0.f1) ((rd_T41 x1 x13).f1) ((rd_T41 x1 x13).f2.f0) ((rd_T41 x1 x13).f2.f1) ((rd_T41 x1 x13).f2.f2)).bind fun t477 => ((entailref1_Has.f k x12 ((rd_T41 x1 x13).f0.f0) ((rd_T41 x1 x13).f0.f1) ((rd_T41 x1 x13).f1) ((rd_T41 x1 x13).f2.f0) ((rd_T41 x1 x13).f2.f1) ((rd_T41 x1 x13).f2.f2)).bind fun t479 => (if (t477 != t479) = true then (none) else (entaillaw3_RowsTells.l3 k x1 x2 x3 x9 x12 (wrap64 (x13 + 1)))))) else (none)) else ((entaillaw2_Tames.f k x2).bind fun t480 => ((entaillaw2_Tames.f k x3).bind fun t483 => (if (wrap64 (x9 + 1)) < 2 then (none) else ((entaillaw3_awake.f k).bind fun t486 => (some t486)))))
end
def entaillaw3_RowsTells.f (k : Nat) (l0 : List (S41)) (l1 : List (S41)) (l2 : List Int) (l3 : List Int) : Option (Bool) := if (l0.length : Int) > 60 then ((entaillaw3_awake.f k).bind fun t384 => (some t384)) else (if (l1.length : Int) > 60 then ((entaillaw3_awake.f k).bind fun t385 => (some t385)) else (if 0 < 2 then ((rows_Diff.f k l0 l1).bind fun bt386 => ((rows_Of.f l0).bind fun t392 => ((entailref1_Of.f k l0).bind fun t395 => ((entailref1_Same.f k t392 t395).bind fun t398 => (if t398 = true then ((rows_Is.f k l0).bind fun t399 => ((entailref1_Is.f k l0).bind fun t400 => (if (t399 != t400) = true then (none) else ((rows_Plus.f l0 l1).bind fun t401 => ((entailref1_Plus.f k l0 l1).bind fun t404 => ((entailref1_Same.f k t401 t404).bind fun t407 => (if t407 = true then ((rows_Minus.f k l0 l1).bind fun t408 => ((entailref1_Minus.f k l0 l1).bind fun t411 => ((entailref1_Same.f k t408 t411).bind fun t414 => (if t414 = true then ((entailref1_Minus.f k l1 l0).bind fun t415 => ((entailref1_Same.f k bt386.1 t415).bind fun t418 => (if t418 = true then ((entailref1_Minus.f k l0 l1).bind fun t419 => ((entailref1_Same.f k bt386.2 t419).bind fun t422 => (if t422 = true then ((entailref1_Of.f k l0).bind fun t423 => (entaillaw3_RowsTells.l2 k l1 l2 l3 0 t423 0)) else (none)))) else (none)))) else (none))))) else (none)))))))) else (none)))))) else (none)))
theorem entaillaw3_RowsTells.mono_l : ∀ k, (∀ y0 y1 y2 y3 y4 y5, LeO (entaillaw3_RowsTells.l2 k y0 y1 y2 y3 y4 y5) (entaillaw3_RowsTells.l2 (k + 1) y0 y1 y2 y3 y4 y5)) ∧ (∀ y0 y1 y2 y3 y4 y5, LeO (entaillaw3_RowsTells.l3 k y0 y1 y2 y3 y4 y5) (entaillaw3_RowsTells.l3 (k + 1) y0 y1 y2 y3 y4 y5))
 | 0 => ⟨fun _ _ _ _ _ _ r h => by simp [entaillaw3_RowsTells.l2] at h, fun _ _ _ _ _ _ r h => by simp [entaillaw3_RowsTells.l3] at h⟩
 | k + 1 => by
  obtain ⟨ih0, ih1⟩ := entaillaw3_RowsTells.mono_l k
  refine ⟨?_, ?_⟩
  ·intro y0 y1 y2 y3 y4 y5
   unfold entaillaw3_RowsTells.l2
   repeat' first
   | (with_reducible exact ih0 _ _ _ _ _ _)
   | (with_reducible exact ih1 _ _ _ _ _ _)
   | (with_reducible exact entaillaw2_Tames.mono _ _)
   | (with_reducible exact entaillaw3_awake.mono _)
   | (with_reducible exact entailref1_Has.mono _ _ _ _ _ _ _ _)
   | (with_reducible exact entailref1_Is.mono _ _)
   | (with_reducible exact entailref1_Minus.mono _ _ _)
   | (with_reducible exact entailref1_Of.mono _ _)
   | (with_reducible exact entailref1_Plus.mono _ _ _)
   | (with_reducible exact entailref1_Same.mono _ _ _)
   | (with_reducible exact rows_Diff.mono _ _ _)
   | (with_reducible exact rows_Is.mono _ _)
   | (with_reducible exact rows_Minus.mono _ _ _)
   | (with_reducible exact LeO.refl _)
   | (with_reducible exact LeO.none _)
   | (with_reducible refine LeO.ite ?_ ?_)
   | (with_reducible refine LeO.bind ?_ (fun _ => ?_))
   | exact ih0 _ _ _ _ _ _
   | exact ih1 _ _ _ _ _ _
   | exact entaillaw2_Tames.mono _ _
   | exact entaillaw3_awake.mono _
   | exact entailref1_Has.mono _ _ _ _ _ _ _ _
   | exact entailref1_Is.mono _ _
   | exact entailref1_Minus.mono _ _ _
   | exact entailref1_Of.mono _ _
   | exact entailref1_Plus.mono _ _ _
   | exact entailref1_Same.mono _ _ _
   | exact rows_Diff.mono _ _ _
   | exact rows_Is.mono _ _
   | exact rows_Minus.mono _ _ _
   | exact LeO.none _
   | refine LeO.ite ?_ ?_
   | refine LeO.bind ?_ (fun _ => ?_)
  ·intro y0 y1 y2 y3 y4 y5
   unfold entaillaw3_RowsTells.l3
   repeat' first
   | (with_reducible exact ih0 _ _ _ _ _ _)
   | (with_reducible exact ih1 _ _ _ _ _ _)
   | (with_reducible exact entaillaw2_Tames.mono _ _)
   | (with_reducible exact entaillaw3_awake.mono _)
   | (with_reducible exact entailref1_Has.mono _ _ _ _ _ _ _ _)
   | (with_reducible exact entailref1_Is.mono _ _)
   | (with_reducible exact entailref1_Minus.mono _ _ _)
   | (with_reducible exact entailref1_Of.mono _ _)
   | (with_reducible exact entailref1_Plus.mono _ _ _)
   | (with_reducible exact entailref1_Same.mono _ _ _)
   | (with_reducible exact rows_Diff.mono _ _ _)
   | (with_reducible exact rows_Is.mono _ _)
   | (with_reducible exact rows_Minus.mono _ _ _)
   | (with_reducible exact LeO.refl _)
   | (with_reducible exact LeO.none _)
   | (with_reducible refine LeO.ite ?_ ?_)
   | (with_reducible refine LeO.bind ?_ (fun _ => ?_))
   | exact ih0 _ _ _ _ _ _
   | exact ih1 _ _ _ _ _ _
   | exact entaillaw2_Tames.mono _ _
   | exact entaillaw3_awake.mono _
   | exact entailref1_Has.mono _ _ _ _ _ _ _ _
   | exact entailref1_Is.mono _ _
   | exact entailref1_Minus.mono _ _ _
   | exact entailref1_Of.mono _ _
   | exact entailref1_Plus.mono _ _ _
   | exact entailref1_Same.mono _ _ _
   | exact rows_Diff.mono _ _ _
   | exact rows_Is.mono _ _
   | exact rows_Minus.mono _ _ _
   | exact LeO.none _
   | refine LeO.ite ?_ ?_
   | refine LeO.bind ?_ (fun _ => ?_)
theorem entaillaw3_RowsTells.mono : ∀ a0 a1 a2 a3 k, LeO (entaillaw3_RowsTells.f k a0 a1 a2 a3) (entaillaw3_RowsTells.f (k + 1) a0 a1 a2 a3) := by
 intro a0 a1 a2 a3 k
 obtain ⟨ih0, ih1⟩ := entaillaw3_RowsTells.mono_l k
 unfold entaillaw3_RowsTells.f
 repeat' first
   | (with_reducible exact ih0 _ _ _ _ _ _)
   | (with_reducible exact ih1 _ _ _ _ _ _)
   | (with_reducible exact entaillaw2_Tames.mono _ _)
   | (with_reducible exact entaillaw3_awake.mono _)
   | (with_reducible exact entailref1_Has.mono _ _ _ _ _ _ _ _)
   | (with_reducible exact entailref1_Is.mono _ _)
   | (with_reducible exact entailref1_Minus.mono _ _ _)
   | (with_reducible exact entailref1_Of.mono _ _)
   | (with_reducible exact entailref1_Plus.mono _ _ _)
   | (with_reducible exact entailref1_Same.mono _ _ _)
   | (with_reducible exact rows_Diff.mono _ _ _)
   | (with_reducible exact rows_Is.mono _ _)
   | (with_reducible exact rows_Minus.mono _ _ _)
   | (with_reducible exact LeO.refl _)
   | (with_reducible exact LeO.none _)
   | (with_reducible refine LeO.ite ?_ ?_)
   | (with_reducible refine LeO.bind ?_ (fun _ => ?_))
   | exact ih0 _ _ _ _ _ _
   | exact ih1 _ _ _ _ _ _
   | exact entaillaw2_Tames.mono _ _
   | exact entaillaw3_awake.mono _
   | exact entailref1_Has.mono _ _ _ _ _ _ _ _
   | exact entailref1_Is.mono _ _
   | exact entailref1_Minus.mono _ _ _
   | exact entailref1_Of.mono _ _
   | exact entailref1_Plus.mono _ _ _
   | exact entailref1_Same.mono _ _ _
   | exact rows_Diff.mono _ _ _
   | exact rows_Is.mono _ _
   | exact rows_Minus.mono _ _ _
   | exact LeO.none _
   | refine LeO.ite ?_ ?_
   | refine LeO.bind ?_ (fun _ => ?_)
def entaillaw3_RowsTells.T13 : Bool × List (List Nat × List Nat) := (true, [([], []), ([], []), ([], []), ([1, 2], [1, 2]), ([3], [3]), ([0, 4], [0, 4]), ([], []), ([], []), ([], []), ([7, 8], [7, 8]), ([9], [9]), ([6, 10, 5], [6, 10]), ([5, 11], [5, 11])])
def entaillaw3_RowsTells.B13 : List Nat := [0, 0, 0, 6, 14, 31, 0, 0, 0, 384, 896, 2047, 4095]
theorem entaillaw3_RowsTells.tab13 : rtab .any (opsOf Try.f4 13) = entaillaw3_RowsTells.T13 := by kernel_rfl
theorem entaillaw3_RowsTells.bits13 : waitsOk entaillaw3_RowsTells.T13.2 entaillaw3_RowsTells.B13 = true := by kernel_rfl
set_option maxHeartbeats 8000000 in
set_option maxRecDepth 100000 in
theorem entaillaw3_RowsTells.calls (k : Nat) (A0 : Option Addr) (c0 : Nat) (l0 : List (S41)) (A1 : Option Addr) (c1 : Nat) (l1 : List (S41)) (A2 : Option Addr) (c2 : Nat) (l2 : List Int) (A3 : Option Addr) (c3 : Nat) (l3 : List Int) (r : Bool) (w : World) (hr0 : Kd.C k41 w A0 l0.length l0) (hc0 : l0.length ≤ c0) (hr1 : Kd.C k41 w A1 l1.length l1) (hc1 : l1.length ≤ c1) (hr2 : Kd.C (Kd.int .i64) w A2 l2.length l2) (hc2 : l2.length ≤ c2) (hr3 : Kd.C (Kd.int .i64) w A3 l3.length l3) (hc3 : l3.length ≤ c3) (h : entaillaw3_RowsTells.f k l0 l1 l2 l3 = some r) :
  Calls Try.prog 4 #[.slice A0 l0.length c0, .slice A1 l1.length c1, .slice A2 l2.length c2, .slice A3 l3.length c3] w fun e w' => e = .returned (.bool r) ∧ Below w.heap.size w w' := by
 have hu41 := Try.underlying41
 have HR0 := Aside0.mk hr0
 have HC0 := Aside0.mk hc0
 clear hr0 hc0
 have HR1 := Aside0.mk hr1
 have HC1 := Aside0.mk hc1
 clear hr1 hc1
 have HR2 := Aside0.mk hr2
 have HC2 := Aside0.mk hc2
 clear hr2 hc2
 have HR3 := Aside0.mk hr3
 have HC3 := Aside0.mk hc3
 clear hr3 hc3
 have HB := Aside0.mk (Below.refl w.heap.size w)
 have H : (if (l0.length : Int) > 60 then ((entaillaw3_awake.f k).bind fun t384 => (some t384)) else (if (l1.length : Int) > 60 then ((entaillaw3_awake.f k).bind fun t385 => (some t385)) else (if 0 < 2 then ((rows_Diff.f k l0 l1).bind fun bt386 => ((rows_Of.f l0).bind fun t392 => ((entailref1_Of.f k l0).bind fun t395 => ((entailref1_Same.f k t392 t395).bind fun t398 => (if t398 = true then ((rows_Is.f k l0).bind fun t399 => ((entailref1_Is.f k l0).bind fun t400 => (if (t399 != t400) = true then (none) else ((rows_Plus.f l0 l1).bind fun t401 => ((entailref1_Plus.f k l0 l1).bind fun t404 => ((entailref1_Same.f k t401 t404).bind fun t407 => (if t407 = true then ((rows_Minus.f k l0 l1).bind fun t408 => ((entailref1_Minus.f k l0 l1).bind fun t411 => ((entailref1_Same.f k t408 t411).bind fun t414 => (if t414 = true then ((entailref1_Minus.f k l1 l0).bind fun t415 => ((entailref1_Same.f k bt386.1 t415).bind fun t418 => (if t418 = true then ((entailref1_Minus.f k l0 l1).bind fun t419 => ((entailref1_Same.f k bt386.2 t419).bind fun t422 => (if t422 = true then ((entailref1_Of.f k l0).bind fun t423 => (entaillaw3_RowsTells.l2 k l1 l2 l3 0 t423 0)) else (none)))) else (none)))) else (none))))) else (none)))))))) else (none)))))) else (none)))) = some r := h
 clear h
 by_cases c5 : (l0.length : Int) > 60
 ·rw [if_pos c5] at H
  have c5b0 : decide (60 < (l0.length : Int)) = true := decide_eq_true c5
  have c5b1 : decide (60 < l0.length) = true := decide_eq_true (by omega)
  clear c5
  replace H := Option.bind_eq_some_iff.mp H
  obtain ⟨t384, A60, H⟩ := H
  replace H : (some t384) = some r := H
  have A6 := Aside0.mk A60
  clear A60
  obtain rfl := Option.some.inj H
  go_enter Try.func4, Try.ntmps4
  go_wp2_with (first | ((with_reducible refine gate_callee (f := 16) rfl ?_); refine goesL_ (some 22) rfl rfl Try.func16 (by kernel_rfl) rfl #[] rfl (by (try simp only [List.map_toArray, List.map_cons, List.map_nil]); first | done | rfl | (simp only [List.length_drop, List.length_take]; rfl)) ?_; (with_reducible refine (entaillaw3_awake.calls k  t384 _ A6.out).mono ?_); rintro e w7 ⟨rfl, hb⟩; refine ⟨_, rfl, ?_⟩; have n0_ := Aside0.mk (below_step (by repeat (first | (with_reducible first | exact HB.out | apply below_alloc | apply pw_below_drewN | apply below_drew1) | exact HB.out)) hb); clear HB; have HB := n0_; clear n0_; (try clear hb); (try clear hb2); (try clear hk); (try clear hi)))
  go_ret
  exact ⟨by first | rfl | (simp [errW_none, errW_some] <;> rfl) | (simp [*, errW_none, errW_some] <;> rfl), by repeat (first | (with_reducible first | exact HB.out | apply below_alloc | apply pw_below_drewN | apply below_drew1) | exact HB.out)⟩
 ·rw [if_neg c5] at H
  have c5b0 : decide (60 < (l0.length : Int)) = false := decide_eq_false c5
  have c5b1 : decide (60 < l0.length) = false := decide_eq_false (by omega)
  clear c5
  by_cases c8 : (l1.length : Int) > 60
  ·rw [if_pos c8] at H
   have c8b0 : decide (60 < (l1.length : Int)) = true := decide_eq_true c8
   have c8b1 : decide (60 < l1.length) = true := decide_eq_true (by omega)
   clear c8
   replace H := Option.bind_eq_some_iff.mp H
   obtain ⟨t385, A90, H⟩ := H
   replace H : (some t385) = some r := H
   have A9 := Aside0.mk A90
   clear A90
   obtain rfl := Option.some.inj H
   go_enter Try.func4, Try.ntmps4
   go_wp2_with (first | ((with_reducible refine gate_callee (f := 16) rfl ?_); refine goesL_ (some 22) rfl rfl Try.func16 (by kernel_rfl) rfl #[] rfl (by (try simp only [List.map_toArray, List.map_cons, List.map_nil]); first | done | rfl | (simp only [List.length_drop, List.length_take]; rfl)) ?_; (with_reducible refine (entaillaw3_awake.calls k  t385 _ A9.out).mono ?_); rintro e w10 ⟨rfl, hb⟩; refine ⟨_, rfl, ?_⟩; have n0_ := Aside0.mk (below_step (by repeat (first | (with_reducible first | exact HB.out | apply below_alloc | apply pw_below_drewN | apply below_drew1) | exact HB.out)) hb); clear HB; have HB := n0_; clear n0_; (try clear hb); (try clear hb2); (try clear hk); (try clear hi)))
   go_ret
   exact ⟨by first | rfl | (simp [errW_none, errW_some] <;> rfl) | (simp [*, errW_none, errW_some] <;> rfl), by repeat (first | (with_reducible first | exact HB.out | apply below_alloc | apply pw_below_drewN | apply below_drew1) | exact HB.out)⟩
  ·rw [if_neg c8] at H
   have c8b0 : decide (60 < (l1.length : Int)) = false := decide_eq_false c8
   have c8b1 : decide (60 < l1.length) = false := decide_eq_false (by omega)
   clear c8
   by_cases c11 : 0 < 2
   ·rw [if_pos c11] at H
    have c11b0 : decide (0 < 2) = true := decide_eq_true c11
    clear c11
    replace H := Option.bind_eq_some_iff.mp H
    obtain ⟨⟨t386, t387⟩, A120, H⟩ := H
    replace H : ((rows_Of.f l0).bind fun t392 => ((entailref1_Of.f k l0).bind fun t395 => ((entailref1_Same.f k t392 t395).bind fun t398 => (if t398 = true then ((rows_Is.f k l0).bind fun t399 => ((entailref1_Is.f k l0).bind fun t400 => (if (t399 != t400) = true then (none) else ((rows_Plus.f l0 l1).bind fun t401 => ((entailref1_Plus.f k l0 l1).bind fun t404 => ((entailref1_Same.f k t401 t404).bind fun t407 => (if t407 = true then ((rows_Minus.f k l0 l1).bind fun t408 => ((entailref1_Minus.f k l0 l1).bind fun t411 => ((entailref1_Same.f k t408 t411).bind fun t414 => (if t414 = true then ((entailref1_Minus.f k l1 l0).bind fun t415 => ((entailref1_Same.f k t386 t415).bind fun t418 => (if t418 = true then ((entailref1_Minus.f k l0 l1).bind fun t419 => ((entailref1_Same.f k t387 t419).bind fun t422 => (if t422 = true then ((entailref1_Of.f k l0).bind fun t423 => (entaillaw3_RowsTells.l2 k l1 l2 l3 0 t423 0)) else (none)))) else (none)))) else (none))))) else (none)))))))) else (none))))) = some r := H
    have A12 := Aside0.mk A120
    clear A120
    replace H := Option.bind_eq_some_iff.mp H
    obtain ⟨t392, A130, H⟩ := H
    replace H : ((entailref1_Of.f k l0).bind fun t395 => ((entailref1_Same.f k t392 t395).bind fun t398 => (if t398 = true then ((rows_Is.f k l0).bind fun t399 => ((entailref1_Is.f k l0).bind fun t400 => (if (t399 != t400) = true then (none) else ((rows_Plus.f l0 l1).bind fun t401 => ((entailref1_Plus.f k l0 l1).bind fun t404 => ((entailref1_Same.f k t401 t404).bind fun t407 => (if t407 = true then ((rows_Minus.f k l0 l1).bind fun t408 => ((entailref1_Minus.f k l0 l1).bind fun t411 => ((entailref1_Same.f k t408 t411).bind fun t414 => (if t414 = true then ((entailref1_Minus.f k l1 l0).bind fun t415 => ((entailref1_Same.f k t386 t415).bind fun t418 => (if t418 = true then ((entailref1_Minus.f k l0 l1).bind fun t419 => ((entailref1_Same.f k t387 t419).bind fun t422 => (if t422 = true then ((entailref1_Of.f k l0).bind fun t423 => (entaillaw3_RowsTells.l2 k l1 l2 l3 0 t423 0)) else (none)))) else (none)))) else (none))))) else (none)))))))) else (none)))) = some r := H
    have A13 := Aside0.mk A130
    clear A130
    replace H := Option.bind_eq_some_iff.mp H
    obtain ⟨t395, A140, H⟩ := H
    replace H : ((entailref1_Same.f k t392 t395).bind fun t398 => (if t398 = true then ((rows_Is.f k l0).bind fun t399 => ((entailref1_Is.f k l0).bind fun t400 => (if (t399 != t400) = true then (none) else ((rows_Plus.f l0 l1).bind fun t401 => ((entailref1_Plus.f k l0 l1).bind fun t404 => ((entailref1_Same.f k t401 t404).bind fun t407 => (if t407 = true then ((rows_Minus.f k l0 l1).bind fun t408 => ((entailref1_Minus.f k l0 l1).bind fun t411 => ((entailref1_Same.f k t408 t411).bind fun t414 => (if t414 = true then ((entailref1_Minus.f k l1 l0).bind fun t415 => ((entailref1_Same.f k t386 t415).bind fun t418 => (if t418 = true then ((entailref1_Minus.f k l0 l1).bind fun t419 => ((entailref1_Same.f k t387 t419).bind fun t422 => (if t422 = true then ((entailref1_Of.f k l0).bind fun t423 => (entaillaw3_RowsTells.l2 k l1 l2 l3 0 t423 0)) else (none)))) else (none)))) else (none))))) else (none)))))))) else (none))) = some r := H
    have A14 := Aside0.mk A140
    clear A140
    replace H := Option.bind_eq_some_iff.mp H
    obtain ⟨t398, A150, H⟩ := H
    replace H : (if t398 = true then ((rows_Is.f k l0).bind fun t399 => ((entailref1_Is.f k l0).bind fun t400 => (if (t399 != t400) = true then (none) else ((rows_Plus.f l0 l1).bind fun t401 => ((entailref1_Plus.f k l0 l1).bind fun t404 => ((entailref1_Same.f k t401 t404).bind fun t407 => (if t407 = true then ((rows_Minus.f k l0 l1).bind fun t408 => ((entailref1_Minus.f k l0 l1).bind fun t411 => ((entailref1_Same.f k t408 t411).bind fun t414 => (if t414 = true then ((entailref1_Minus.f k l1 l0).bind fun t415 => ((entailref1_Same.f k t386 t415).bind fun t418 => (if t418 = true then ((entailref1_Minus.f k l0 l1).bind fun t419 => ((entailref1_Same.f k t387 t419).bind fun t422 => (if t422 = true then ((entailref1_Of.f k l0).bind fun t423 => (entaillaw3_RowsTells.l2 k l1 l2 l3 0 t423 0)) else (none)))) else (none)))) else (none))))) else (none)))))))) else (none)) = some r := H
    have A15 := Aside0.mk A150
    clear A150
    by_cases c16 : t398 = true
    rotate_left
    ·replace c16 := Bool.eq_false_iff.mpr c16
     subst c16
     have H1 : (none) = some r := by rw [if_neg (show ¬ (false = true) by decide)] at H; exact H
     clear H
     have H := H1
     clear H1
     exact absurd H (by simp)
    subst c16
    have H1 : ((rows_Is.f k l0).bind fun t399 => ((entailref1_Is.f k l0).bind fun t400 => (if (t399 != t400) = true then (none) else ((rows_Plus.f l0 l1).bind fun t401 => ((entailref1_Plus.f k l0 l1).bind fun t404 => ((entailref1_Same.f k t401 t404).bind fun t407 => (if t407 = true then ((rows_Minus.f k l0 l1).bind fun t408 => ((entailref1_Minus.f k l0 l1).bind fun t411 => ((entailref1_Same.f k t408 t411).bind fun t414 => (if t414 = true then ((entailref1_Minus.f k l1 l0).bind fun t415 => ((entailref1_Same.f k t386 t415).bind fun t418 => (if t418 = true then ((entailref1_Minus.f k l0 l1).bind fun t419 => ((entailref1_Same.f k t387 t419).bind fun t422 => (if t422 = true then ((entailref1_Of.f k l0).bind fun t423 => (entaillaw3_RowsTells.l2 k l1 l2 l3 0 t423 0)) else (none)))) else (none)))) else (none))))) else (none)))))))) = some r := by rw [if_pos rfl] at H; exact H
    clear H
    have H := H1
    clear H1
    replace H := Option.bind_eq_some_iff.mp H
    obtain ⟨t399, A170, H⟩ := H
    replace H : ((entailref1_Is.f k l0).bind fun t400 => (if (t399 != t400) = true then (none) else ((rows_Plus.f l0 l1).bind fun t401 => ((entailref1_Plus.f k l0 l1).bind fun t404 => ((entailref1_Same.f k t401 t404).bind fun t407 => (if t407 = true then ((rows_Minus.f k l0 l1).bind fun t408 => ((entailref1_Minus.f k l0 l1).bind fun t411 => ((entailref1_Same.f k t408 t411).bind fun t414 => (if t414 = true then ((entailref1_Minus.f k l1 l0).bind fun t415 => ((entailref1_Same.f k t386 t415).bind fun t418 => (if t418 = true then ((entailref1_Minus.f k l0 l1).bind fun t419 => ((entailref1_Same.f k t387 t419).bind fun t422 => (if t422 = true then ((entailref1_Of.f k l0).bind fun t423 => (entaillaw3_RowsTells.l2 k l1 l2 l3 0 t423 0)) else (none)))) else (none)))) else (none))))) else (none))))))) = some r := H
    have A17 := Aside0.mk A170
    clear A170
    replace H := Option.bind_eq_some_iff.mp H
    obtain ⟨t400, A180, H⟩ := H
    replace H : (if (t399 != t400) = true then (none) else ((rows_Plus.f l0 l1).bind fun t401 => ((entailref1_Plus.f k l0 l1).bind fun t404 => ((entailref1_Same.f k t401 t404).bind fun t407 => (if t407 = true then ((rows_Minus.f k l0 l1).bind fun t408 => ((entailref1_Minus.f k l0 l1).bind fun t411 => ((entailref1_Same.f k t408 t411).bind fun t414 => (if t414 = true then ((entailref1_Minus.f k l1 l0).bind fun t415 => ((entailref1_Same.f k t386 t415).bind fun t418 => (if t418 = true then ((entailref1_Minus.f k l0 l1).bind fun t419 => ((entailref1_Same.f k t387 t419).bind fun t422 => (if t422 = true then ((entailref1_Of.f k l0).bind fun t423 => (entaillaw3_RowsTells.l2 k l1 l2 l3 0 t423 0)) else (none)))) else (none)))) else (none))))) else (none)))))) = some r := H
    have A18 := Aside0.mk A180
    clear A180
    by_cases c19 : (t399 != t400) = true
    ·rw [if_pos c19] at H
     exact absurd H (by simp)
    rw [if_neg c19] at H
    have c19b0 : (t399 != t400) = false := by simpa using c19
    (try (have c19b1 : decide (t399 = t400) = true := by simpa using c19))
    (try (have c19b2 : (t399 == t400) = true := by simpa using c19))
    clear c19
    replace H := Option.bind_eq_some_iff.mp H
    obtain ⟨t401, A200, H⟩ := H
    replace H : ((entailref1_Plus.f k l0 l1).bind fun t404 => ((entailref1_Same.f k t401 t404).bind fun t407 => (if t407 = true then ((rows_Minus.f k l0 l1).bind fun t408 => ((entailref1_Minus.f k l0 l1).bind fun t411 => ((entailref1_Same.f k t408 t411).bind fun t414 => (if t414 = true then ((entailref1_Minus.f k l1 l0).bind fun t415 => ((entailref1_Same.f k t386 t415).bind fun t418 => (if t418 = true then ((entailref1_Minus.f k l0 l1).bind fun t419 => ((entailref1_Same.f k t387 t419).bind fun t422 => (if t422 = true then ((entailref1_Of.f k l0).bind fun t423 => (entaillaw3_RowsTells.l2 k l1 l2 l3 0 t423 0)) else (none)))) else (none)))) else (none))))) else (none)))) = some r := H
    have A20 := Aside0.mk A200
    clear A200
    replace H := Option.bind_eq_some_iff.mp H
    obtain ⟨t404, A210, H⟩ := H
    replace H : ((entailref1_Same.f k t401 t404).bind fun t407 => (if t407 = true then ((rows_Minus.f k l0 l1).bind fun t408 => ((entailref1_Minus.f k l0 l1).bind fun t411 => ((entailref1_Same.f k t408 t411).bind fun t414 => (if t414 = true then ((entailref1_Minus.f k l1 l0).bind fun t415 => ((entailref1_Same.f k t386 t415).bind fun t418 => (if t418 = true then ((entailref1_Minus.f k l0 l1).bind fun t419 => ((entailref1_Same.f k t387 t419).bind fun t422 => (if t422 = true then ((entailref1_Of.f k l0).bind fun t423 => (entaillaw3_RowsTells.l2 k l1 l2 l3 0 t423 0)) else (none)))) else (none)))) else (none))))) else (none))) = some r := H
    have A21 := Aside0.mk A210
    clear A210
    replace H := Option.bind_eq_some_iff.mp H
    obtain ⟨t407, A220, H⟩ := H
    replace H : (if t407 = true then ((rows_Minus.f k l0 l1).bind fun t408 => ((entailref1_Minus.f k l0 l1).bind fun t411 => ((entailref1_Same.f k t408 t411).bind fun t414 => (if t414 = true then ((entailref1_Minus.f k l1 l0).bind fun t415 => ((entailref1_Same.f k t386 t415).bind fun t418 => (if t418 = true then ((entailref1_Minus.f k l0 l1).bind fun t419 => ((entailref1_Same.f k t387 t419).bind fun t422 => (if t422 = true then ((entailref1_Of.f k l0).bind fun t423 => (entaillaw3_RowsTells.l2 k l1 l2 l3 0 t423 0)) else (none)))) else (none)))) else (none))))) else (none)) = some r := H
    have A22 := Aside0.mk A220
    clear A220
    by_cases c23 : t407 = true
    rotate_left
    ·replace c23 := Bool.eq_false_iff.mpr c23
     subst c23
     have H1 : (none) = some r := by rw [if_neg (show ¬ (false = true) by decide)] at H; exact H
     clear H
     have H := H1
     clear H1
     exact absurd H (by simp)
    subst c23
    have H1 : ((rows_Minus.f k l0 l1).bind fun t408 => ((entailref1_Minus.f k l0 l1).bind fun t411 => ((entailref1_Same.f k t408 t411).bind fun t414 => (if t414 = true then ((entailref1_Minus.f k l1 l0).bind fun t415 => ((entailref1_Same.f k t386 t415).bind fun t418 => (if t418 = true then ((entailref1_Minus.f k l0 l1).bind fun t419 => ((entailref1_Same.f k t387 t419).bind fun t422 => (if t422 = true then ((entailref1_Of.f k l0).bind fun t423 => (entaillaw3_RowsTells.l2 k l1 l2 l3 0 t423 0)) else (none)))) else (none)))) else (none))))) = some r := by rw [if_pos rfl] at H; exact H
    clear H
    have H := H1
    clear H1
    replace H := Option.bind_eq_some_iff.mp H
    obtain ⟨t408, A240, H⟩ := H
    replace H : ((entailref1_Minus.f k l0 l1).bind fun t411 => ((entailref1_Same.f k t408 t411).bind fun t414 => (if t414 = true then ((entailref1_Minus.f k l1 l0).bind fun t415 => ((entailref1_Same.f k t386 t415).bind fun t418 => (if t418 = true then ((entailref1_Minus.f k l0 l1).bind fun t419 => ((entailref1_Same.f k t387 t419).bind fun t422 => (if t422 = true then ((entailref1_Of.f k l0).bind fun t423 => (entaillaw3_RowsTells.l2 k l1 l2 l3 0 t423 0)) else (none)))) else (none)))) else (none)))) = some r := H
    have A24 := Aside0.mk A240
    clear A240
    replace H := Option.bind_eq_some_iff.mp H
    obtain ⟨t411, A250, H⟩ := H
    replace H : ((entailref1_Same.f k t408 t411).bind fun t414 => (if t414 = true then ((entailref1_Minus.f k l1 l0).bind fun t415 => ((entailref1_Same.f k t386 t415).bind fun t418 => (if t418 = true then ((entailref1_Minus.f k l0 l1).bind fun t419 => ((entailref1_Same.f k t387 t419).bind fun t422 => (if t422 = true then ((entailref1_Of.f k l0).bind fun t423 => (entaillaw3_RowsTells.l2 k l1 l2 l3 0 t423 0)) else (none)))) else (none)))) else (none))) = some r := H
    have A25 := Aside0.mk A250
    clear A250
    replace H := Option.bind_eq_some_iff.mp H
    obtain ⟨t414, A260, H⟩ := H
    replace H : (if t414 = true then ((entailref1_Minus.f k l1 l0).bind fun t415 => ((entailref1_Same.f k t386 t415).bind fun t418 => (if t418 = true then ((entailref1_Minus.f k l0 l1).bind fun t419 => ((entailref1_Same.f k t387 t419).bind fun t422 => (if t422 = true then ((entailref1_Of.f k l0).bind fun t423 => (entaillaw3_RowsTells.l2 k l1 l2 l3 0 t423 0)) else (none)))) else (none)))) else (none)) = some r := H
    have A26 := Aside0.mk A260
    clear A260
    by_cases c27 : t414 = true
    rotate_left
    ·replace c27 := Bool.eq_false_iff.mpr c27
     subst c27
     have H1 : (none) = some r := by rw [if_neg (show ¬ (false = true) by decide)] at H; exact H
     clear H
     have H := H1
     clear H1
     exact absurd H (by simp)
    subst c27
    have H1 : ((entailref1_Minus.f k l1 l0).bind fun t415 => ((entailref1_Same.f k t386 t415).bind fun t418 => (if t418 = true then ((entailref1_Minus.f k l0 l1).bind fun t419 => ((entailref1_Same.f k t387 t419).bind fun t422 => (if t422 = true then ((entailref1_Of.f k l0).bind fun t423 => (entaillaw3_RowsTells.l2 k l1 l2 l3 0 t423 0)) else (none)))) else (none)))) = some r := by rw [if_pos rfl] at H; exact H
    clear H
    have H := H1
    clear H1
    replace H := Option.bind_eq_some_iff.mp H
    obtain ⟨t415, A280, H⟩ := H
    replace H : ((entailref1_Same.f k t386 t415).bind fun t418 => (if t418 = true then ((entailref1_Minus.f k l0 l1).bind fun t419 => ((entailref1_Same.f k t387 t419).bind fun t422 => (if t422 = true then ((entailref1_Of.f k l0).bind fun t423 => (entaillaw3_RowsTells.l2 k l1 l2 l3 0 t423 0)) else (none)))) else (none))) = some r := H
    have A28 := Aside0.mk A280
    clear A280
    replace H := Option.bind_eq_some_iff.mp H
    obtain ⟨t418, A290, H⟩ := H
    replace H : (if t418 = true then ((entailref1_Minus.f k l0 l1).bind fun t419 => ((entailref1_Same.f k t387 t419).bind fun t422 => (if t422 = true then ((entailref1_Of.f k l0).bind fun t423 => (entaillaw3_RowsTells.l2 k l1 l2 l3 0 t423 0)) else (none)))) else (none)) = some r := H
    have A29 := Aside0.mk A290
    clear A290
    by_cases c30 : t418 = true
    rotate_left
    ·replace c30 := Bool.eq_false_iff.mpr c30
     subst c30
     have H1 : (none) = some r := by rw [if_neg (show ¬ (false = true) by decide)] at H; exact H
     clear H
     have H := H1
     clear H1
     exact absurd H (by simp)
    subst c30
    have H1 : ((entailref1_Minus.f k l0 l1).bind fun t419 => ((entailref1_Same.f k t387 t419).bind fun t422 => (if t422 = true then ((entailref1_Of.f k l0).bind fun t423 => (entaillaw3_RowsTells.l2 k l1 l2 l3 0 t423 0)) else (none)))) = some r := by rw [if_pos rfl] at H; exact H
    clear H
    have H := H1
    clear H1
    replace H := Option.bind_eq_some_iff.mp H
    obtain ⟨t419, A310, H⟩ := H
    replace H : ((entailref1_Same.f k t387 t419).bind fun t422 => (if t422 = true then ((entailref1_Of.f k l0).bind fun t423 => (entaillaw3_RowsTells.l2 k l1 l2 l3 0 t423 0)) else (none))) = some r := H
    have A31 := Aside0.mk A310
    clear A310
    replace H := Option.bind_eq_some_iff.mp H
    obtain ⟨t422, A320, H⟩ := H
    replace H : (if t422 = true then ((entailref1_Of.f k l0).bind fun t423 => (entaillaw3_RowsTells.l2 k l1 l2 l3 0 t423 0)) else (none)) = some r := H
    have A32 := Aside0.mk A320
    clear A320
    by_cases c33 : t422 = true
    rotate_left
    ·replace c33 := Bool.eq_false_iff.mpr c33
     subst c33
     have H1 : (none) = some r := by rw [if_neg (show ¬ (false = true) by decide)] at H; exact H
     clear H
     have H := H1
     clear H1
     exact absurd H (by simp)
    subst c33
    have H1 : ((entailref1_Of.f k l0).bind fun t423 => (entaillaw3_RowsTells.l2 k l1 l2 l3 0 t423 0)) = some r := by rw [if_pos rfl] at H; exact H
    clear H
    have H := H1
    clear H1
    replace H := Option.bind_eq_some_iff.mp H
    obtain ⟨t423, A340, H⟩ := H
    replace H : (entaillaw3_RowsTells.l2 k l1 l2 l3 0 t423 0) = some r := H
    have A34 := Aside0.mk A340
    clear A340
    have H' := Aside0.mk H
    clear H
    go_enter Try.func4, Try.ntmps4
    try go_wp2
    refine wp_loop_rounds 3 ?_
    rw [rounds_succ]
    try go_wp2_with (first | ((with_reducible refine gate_callee (f := 17) rfl ?_); refine goesL_ (some 30) rfl rfl Try.func17 (by kernel_rfl) rfl #[.slice A0 l0.length c0, .slice A1 l1.length c1] rfl (by (try simp only [List.map_toArray, List.map_cons, List.map_nil]); first | done | rfl | (simp only [List.length_drop, List.length_take]; rfl)) ?_; (with_reducible refine (rows_Diff.calls k _ _ l0 _ _ l1 t386 t387 _ ?side1 ?side2 ?side3 ?side4 A12.out).mono ?_); (case side1 => repeat (first | exact HR0.out | (with_reducible refine Kd.C_alloc ?_ _) | (with_reducible refine Kd.C_drewN ?_ _) | (with_reducible refine Kd.C_drew ?_))); (case side2 => exact HC0.out); (case side3 => repeat (first | exact HR1.out | (with_reducible refine Kd.C_alloc ?_ _) | (with_reducible refine Kd.C_drewN ?_ _) | (with_reducible refine Kd.C_drew ?_))); (case side4 => exact HC1.out); rintro e w35 ⟨v388, v390, rfl, ho0, ho1, hb⟩; refine ⟨_, rfl, ?_⟩; have n0_ := Aside0.mk (Kd.R_lower ho0 (below_size (by repeat (first | (with_reducible first | exact HB.out | apply below_alloc | apply pw_below_drewN | apply below_drew1) | exact HB.out)))); have n1_ := Aside0.mk (Kd.R_lower ho1 (below_size (by repeat (first | (with_reducible first | exact HB.out | apply below_alloc | apply pw_below_drewN | apply below_drew1) | exact HB.out)))); have n2_ := Aside0.mk (below_step (by repeat (first | (with_reducible first | exact HB.out | apply below_alloc | apply pw_below_drewN | apply below_drew1) | exact HB.out)) hb); clear HB; have HO389 := n0_; have HO391 := n1_; have HB := n2_; clear n0_ n1_ n2_; (try clear hb); (try clear hb2); (try clear hk); (try clear hi); (try clear ho0); (try clear ho1)) | ((with_reducible refine gate_callee (f := 12) rfl ?_); refine goesL_ (some 34) rfl rfl Try.func12 (by kernel_rfl) rfl #[.slice A0 l0.length c0] rfl (by (try simp only [List.map_toArray, List.map_cons, List.map_nil]); first | done | rfl | (simp only [List.length_drop, List.length_take]; rfl)) ?_; (with_reducible refine (rows_Of.calls _ _ l0 t392 _ ?side1 ?side2 A13.out).mono ?_); (case side1 => repeat (first | exact (Kd.C_below HR0.out HB.out) | (with_reducible refine Kd.C_alloc ?_ _) | (with_reducible refine Kd.C_drewN ?_ _) | (with_reducible refine Kd.C_drew ?_))); (case side2 => exact HC0.out); rintro e w36 ⟨v393, rfl, ho0, hb⟩; refine ⟨_, rfl, ?_⟩; have n0_ := Aside0.mk (Kd.R_elder' (by (with_reducible repeat (first | apply Kd.R_alloc | apply Kd.R_drewN | apply Kd.R_drew)); exact HO389.out) (Kd.R_base ho0) hb); have n1_ := Aside0.mk (Kd.R_elder' (by (with_reducible repeat (first | apply Kd.R_alloc | apply Kd.R_drewN | apply Kd.R_drew)); exact HO391.out) (Kd.R_base ho0) hb); have n2_ := Aside0.mk (Kd.R_lower (Kd.R_new' (Kd.R_new' ho0 (Kd.R_lt (by (with_reducible repeat (first | apply Kd.R_alloc | apply Kd.R_drewN | apply Kd.R_drew)); exact HO389.out))) (Kd.R_lt (by (with_reducible repeat (first | apply Kd.R_alloc | apply Kd.R_drewN | apply Kd.R_drew)); exact HO391.out))) (below_size (by repeat (first | (with_reducible first | exact HB.out | apply below_alloc | apply pw_below_drewN | apply below_drew1) | exact HB.out)))); have n3_ := Aside0.mk (below_step (by repeat (first | (with_reducible first | exact HB.out | apply below_alloc | apply pw_below_drewN | apply below_drew1) | exact HB.out)) hb); clear HO389; clear HO391; clear HB; have HO389 := n0_; have HO391 := n1_; have HO394 := n2_; have HB := n3_; clear n0_ n1_ n2_ n3_; (try clear hb); (try clear hb2); (try clear hk); (try clear hi); (try clear ho0)) | ((with_reducible refine gate_callee (f := 18) rfl ?_); refine goesL_ (some 36) rfl rfl Try.func18 (by kernel_rfl) rfl #[.slice A0 l0.length c0] rfl (by (try simp only [List.map_toArray, List.map_cons, List.map_nil]); first | done | rfl | (simp only [List.length_drop, List.length_take]; rfl)) ?_; (with_reducible refine (entailref1_Of.calls k _ _ l0 t395 _ ?side1 ?side2 A14.out).mono ?_); (case side1 => repeat (first | exact (Kd.C_below HR0.out HB.out) | (with_reducible refine Kd.C_alloc ?_ _) | (with_reducible refine Kd.C_drewN ?_ _) | (with_reducible refine Kd.C_drew ?_))); (case side2 => exact HC0.out); rintro e w37 ⟨v396, rfl, ho0, hb⟩; refine ⟨_, rfl, ?_⟩; have n0_ := Aside0.mk (Kd.R_elder' (by (with_reducible repeat (first | apply Kd.R_alloc | apply Kd.R_drewN | apply Kd.R_drew)); exact HO389.out) (Kd.R_base ho0) hb); have n1_ := Aside0.mk (Kd.R_elder' (by (with_reducible repeat (first | apply Kd.R_alloc | apply Kd.R_drewN | apply Kd.R_drew)); exact HO391.out) (Kd.R_base ho0) hb); have n2_ := Aside0.mk (Kd.R_elder' (by (with_reducible repeat (first | apply Kd.R_alloc | apply Kd.R_drewN | apply Kd.R_drew)); exact HO394.out) (Kd.R_base ho0) hb); have n3_ := Aside0.mk (Kd.R_lower (Kd.R_new' (Kd.R_new' (Kd.R_new' ho0 (Kd.R_lt (by (with_reducible repeat (first | apply Kd.R_alloc | apply Kd.R_drewN | apply Kd.R_drew)); exact HO389.out))) (Kd.R_lt (by (with_reducible repeat (first | apply Kd.R_alloc | apply Kd.R_drewN | apply Kd.R_drew)); exact HO391.out))) (Kd.R_lt (by (with_reducible repeat (first | apply Kd.R_alloc | apply Kd.R_drewN | apply Kd.R_drew)); exact HO394.out))) (below_size (by repeat (first | (with_reducible first | exact HB.out | apply below_alloc | apply pw_below_drewN | apply below_drew1) | exact HB.out)))); have n4_ := Aside0.mk (below_step (by repeat (first | (with_reducible first | exact HB.out | apply below_alloc | apply pw_below_drewN | apply below_drew1) | exact HB.out)) hb); clear HO389; clear HO391; clear HO394; clear HB; have HO389 := n0_; have HO391 := n1_; have HO394 := n2_; have HO397 := n3_; have HB := n4_; clear n0_ n1_ n2_ n3_ n4_; (try clear hb); (try clear hb2); (try clear hk); (try clear hi); (try clear ho0); obtain ⟨Ao38, co38, eo38⟩ := Kd.R_slice HO394.out; subst eo38; obtain ⟨Ao39, co39, eo39⟩ := Kd.R_slice HO397.out; subst eo39) | ((with_reducible refine gate_callee (f := 14) rfl ?_); refine goesL_ (some 37) rfl rfl Try.func14 (by kernel_rfl) rfl #[.slice Ao38 t392.length co38, .slice Ao39 t395.length co39] rfl (by (try simp only [List.map_toArray, List.map_cons, List.map_nil]); first | done | rfl | (simp only [List.length_drop, List.length_take]; rfl)) ?_; (with_reducible refine (entailref1_Same.calls k _ _ t392 _ _ t395 true _ ?side1 ?side2 ?side3 ?side4 A15.out).mono ?_); (case side1 => repeat (first | exact (Kd.R_reads' HO394.out).2.2 | (with_reducible refine Kd.C_alloc ?_ _) | (with_reducible refine Kd.C_drewN ?_ _) | (with_reducible refine Kd.C_drew ?_))); (case side2 => exact (Kd.R_reads' HO394.out).2.1); (case side3 => repeat (first | exact (Kd.R_reads' HO397.out).2.2 | (with_reducible refine Kd.C_alloc ?_ _) | (with_reducible refine Kd.C_drewN ?_ _) | (with_reducible refine Kd.C_drew ?_))); (case side4 => exact (Kd.R_reads' HO397.out).2.1); rintro e w' ⟨rfl, ⟨nd, rfl⟩⟩; refine ⟨_, rfl, ?_⟩) | (go_at_call 19; (with_reducible refine (rows_Is.calls k _ _ l0 t399 _ ?side1 ?side2 A17.out).mono ?_); (case side1 => repeat (first | exact (Kd.C_below HR0.out (by repeat (first | (with_reducible first | exact HB.out | apply below_alloc | apply pw_below_drewN | apply below_drew1) | exact HB.out))) | (with_reducible refine Kd.C_alloc ?_ _) | (with_reducible refine Kd.C_drewN ?_ _) | (with_reducible refine Kd.C_drew ?_))); (case side2 => exact HC0.out); rintro e w40 ⟨rfl, hb⟩; have n0_ := Aside0.mk (Kd.R_below (by (with_reducible repeat (first | apply Kd.R_alloc | apply Kd.R_drewN | apply Kd.R_drew)); exact HO389.out) hb); have n1_ := Aside0.mk (Kd.R_below (by (with_reducible repeat (first | apply Kd.R_alloc | apply Kd.R_drewN | apply Kd.R_drew)); exact HO391.out) hb); have n2_ := Aside0.mk (Kd.R_below (by (with_reducible repeat (first | apply Kd.R_alloc | apply Kd.R_drewN | apply Kd.R_drew)); exact HO394.out) hb); have n3_ := Aside0.mk (Kd.R_below (by (with_reducible repeat (first | apply Kd.R_alloc | apply Kd.R_drewN | apply Kd.R_drew)); exact HO397.out) hb); have n4_ := Aside0.mk (below_step (by repeat (first | (with_reducible first | exact HB.out | apply below_alloc | apply pw_below_drewN | apply below_drew1) | exact HB.out)) hb); clear HO389; clear HO391; clear HO394; clear HO397; clear HB; have HO389 := n0_; have HO391 := n1_; have HO394 := n2_; have HO397 := n3_; have HB := n4_; clear n0_ n1_ n2_ n3_ n4_; (try clear hb); (try clear hb2); (try clear hk); (try clear hi)) | (go_at_call 20; (with_reducible refine (entailref1_Is.calls k _ _ l0 t400 _ ?side1 ?side2 A18.out).mono ?_); (case side1 => repeat (first | exact (Kd.C_below HR0.out HB.out) | (with_reducible refine Kd.C_alloc ?_ _) | (with_reducible refine Kd.C_drewN ?_ _) | (with_reducible refine Kd.C_drew ?_))); (case side2 => exact HC0.out); rintro e w41 ⟨rfl, hb⟩; have n0_ := Aside0.mk (Kd.R_below (by (with_reducible repeat (first | apply Kd.R_alloc | apply Kd.R_drewN | apply Kd.R_drew)); exact HO389.out) hb); have n1_ := Aside0.mk (Kd.R_below (by (with_reducible repeat (first | apply Kd.R_alloc | apply Kd.R_drewN | apply Kd.R_drew)); exact HO391.out) hb); have n2_ := Aside0.mk (Kd.R_below (by (with_reducible repeat (first | apply Kd.R_alloc | apply Kd.R_drewN | apply Kd.R_drew)); exact HO394.out) hb); have n3_ := Aside0.mk (Kd.R_below (by (with_reducible repeat (first | apply Kd.R_alloc | apply Kd.R_drewN | apply Kd.R_drew)); exact HO397.out) hb); have n4_ := Aside0.mk (below_step (by repeat (first | (with_reducible first | exact HB.out | apply below_alloc | apply pw_below_drewN | apply below_drew1) | exact HB.out)) hb); clear HO389; clear HO391; clear HO394; clear HO397; clear HB; have HO389 := n0_; have HO391 := n1_; have HO394 := n2_; have HO397 := n3_; have HB := n4_; clear n0_ n1_ n2_ n3_ n4_; (try clear hb); (try clear hb2); (try clear hk); (try clear hi)) | (go_at_call 15; (with_reducible refine (rows_Plus.calls _ _ l0 _ _ l1 t401 _ ?side1 ?side2 ?side3 ?side4 A20.out).mono ?_); (case side1 => repeat (first | exact (Kd.C_below HR0.out HB.out) | (with_reducible refine Kd.C_alloc ?_ _) | (with_reducible refine Kd.C_drewN ?_ _) | (with_reducible refine Kd.C_drew ?_))); (case side2 => exact HC0.out); (case side3 => repeat (first | exact (Kd.C_below HR1.out HB.out) | (with_reducible refine Kd.C_alloc ?_ _) | (with_reducible refine Kd.C_drewN ?_ _) | (with_reducible refine Kd.C_drew ?_))); (case side4 => exact HC1.out); rintro e w42 ⟨v402, rfl, ho0, hb⟩; have n0_ := Aside0.mk (Kd.R_elder' (by (with_reducible repeat (first | apply Kd.R_alloc | apply Kd.R_drewN | apply Kd.R_drew)); exact HO389.out) (Kd.R_base ho0) hb); have n1_ := Aside0.mk (Kd.R_elder' (by (with_reducible repeat (first | apply Kd.R_alloc | apply Kd.R_drewN | apply Kd.R_drew)); exact HO391.out) (Kd.R_base ho0) hb); have n2_ := Aside0.mk (Kd.R_elder' (by (with_reducible repeat (first | apply Kd.R_alloc | apply Kd.R_drewN | apply Kd.R_drew)); exact HO394.out) (Kd.R_base ho0) hb); have n3_ := Aside0.mk (Kd.R_elder' (by (with_reducible repeat (first | apply Kd.R_alloc | apply Kd.R_drewN | apply Kd.R_drew)); exact HO397.out) (Kd.R_base ho0) hb); have n4_ := Aside0.mk (Kd.R_lower (Kd.R_new' (Kd.R_new' (Kd.R_new' (Kd.R_new' ho0 (Kd.R_lt (by (with_reducible repeat (first | apply Kd.R_alloc | apply Kd.R_drewN | apply Kd.R_drew)); exact HO389.out))) (Kd.R_lt (by (with_reducible repeat (first | apply Kd.R_alloc | apply Kd.R_drewN | apply Kd.R_drew)); exact HO391.out))) (Kd.R_lt (by (with_reducible repeat (first | apply Kd.R_alloc | apply Kd.R_drewN | apply Kd.R_drew)); exact HO394.out))) (Kd.R_lt (by (with_reducible repeat (first | apply Kd.R_alloc | apply Kd.R_drewN | apply Kd.R_drew)); exact HO397.out))) (below_size (by repeat (first | (with_reducible first | exact HB.out | apply below_alloc | apply pw_below_drewN | apply below_drew1) | exact HB.out)))); have n5_ := Aside0.mk (below_step (by repeat (first | (with_reducible first | exact HB.out | apply below_alloc | apply pw_below_drewN | apply below_drew1) | exact HB.out)) hb); clear HO389; clear HO391; clear HO394; clear HO397; clear HB; have HO389 := n0_; have HO391 := n1_; have HO394 := n2_; have HO397 := n3_; have HO403 := n4_; have HB := n5_; clear n0_ n1_ n2_ n3_ n4_ n5_; (try clear hb); (try clear hb2); (try clear hk); (try clear hi); (try clear ho0)) | (go_at_call 21; (with_reducible refine (entailref1_Plus.calls k _ _ l0 _ _ l1 t404 _ ?side1 ?side2 ?side3 ?side4 A21.out).mono ?_); (case side1 => repeat (first | exact (Kd.C_below HR0.out HB.out) | (with_reducible refine Kd.C_alloc ?_ _) | (with_reducible refine Kd.C_drewN ?_ _) | (with_reducible refine Kd.C_drew ?_))); (case side2 => exact HC0.out); (case side3 => repeat (first | exact (Kd.C_below HR1.out HB.out) | (with_reducible refine Kd.C_alloc ?_ _) | (with_reducible refine Kd.C_drewN ?_ _) | (with_reducible refine Kd.C_drew ?_))); (case side4 => exact HC1.out); rintro e w43 ⟨v405, rfl, ho0, hb⟩; have n0_ := Aside0.mk (Kd.R_elder' (by (with_reducible repeat (first | apply Kd.R_alloc | apply Kd.R_drewN | apply Kd.R_drew)); exact HO389.out) (Kd.R_base ho0) hb); have n1_ := Aside0.mk (Kd.R_elder' (by (with_reducible repeat (first | apply Kd.R_alloc | apply Kd.R_drewN | apply Kd.R_drew)); exact HO391.out) (Kd.R_base ho0) hb); have n2_ := Aside0.mk (Kd.R_elder' (by (with_reducible repeat (first | apply Kd.R_alloc | apply Kd.R_drewN | apply Kd.R_drew)); exact HO394.out) (Kd.R_base ho0) hb); have n3_ := Aside0.mk (Kd.R_elder' (by (with_reducible repeat (first | apply Kd.R_alloc | apply Kd.R_drewN | apply Kd.R_drew)); exact HO397.out) (Kd.R_base ho0) hb); have n4_ := Aside0.mk (Kd.R_elder' (by (with_reducible repeat (first | apply Kd.R_alloc | apply Kd.R_drewN | apply Kd.R_drew)); exact HO403.out) (Kd.R_base ho0) hb); have n5_ := Aside0.mk (Kd.R_lower (Kd.R_new' (Kd.R_new' (Kd.R_new' (Kd.R_new' (Kd.R_new' ho0 (Kd.R_lt (by (with_reducible repeat (first | apply Kd.R_alloc | apply Kd.R_drewN | apply Kd.R_drew)); exact HO389.out))) (Kd.R_lt (by (with_reducible repeat (first | apply Kd.R_alloc | apply Kd.R_drewN | apply Kd.R_drew)); exact HO391.out))) (Kd.R_lt (by (with_reducible repeat (first | apply Kd.R_alloc | apply Kd.R_drewN | apply Kd.R_drew)); exact HO394.out))) (Kd.R_lt (by (with_reducible repeat (first | apply Kd.R_alloc | apply Kd.R_drewN | apply Kd.R_drew)); exact HO397.out))) (Kd.R_lt (by (with_reducible repeat (first | apply Kd.R_alloc | apply Kd.R_drewN | apply Kd.R_drew)); exact HO403.out))) (below_size (by repeat (first | (with_reducible first | exact HB.out | apply below_alloc | apply pw_below_drewN | apply below_drew1) | exact HB.out)))); have n6_ := Aside0.mk (below_step (by repeat (first | (with_reducible first | exact HB.out | apply below_alloc | apply pw_below_drewN | apply below_drew1) | exact HB.out)) hb); clear HO389; clear HO391; clear HO394; clear HO397; clear HO403; clear HB; have HO389 := n0_; have HO391 := n1_; have HO394 := n2_; have HO397 := n3_; have HO403 := n4_; have HO406 := n5_; have HB := n6_; clear n0_ n1_ n2_ n3_ n4_ n5_ n6_; (try clear hb); (try clear hb2); (try clear hk); (try clear hi); (try clear ho0); obtain ⟨Ao44, co44, eo44⟩ := Kd.R_slice HO403.out; subst eo44; obtain ⟨Ao45, co45, eo45⟩ := Kd.R_slice HO406.out; subst eo45) | (go_at_call 14; (with_reducible refine (entailref1_Same.calls k _ _ t401 _ _ t404 true _ ?side1 ?side2 ?side3 ?side4 A22.out).mono ?_); (case side1 => repeat (first | exact (Kd.R_reads' HO403.out).2.2 | (with_reducible refine Kd.C_alloc ?_ _) | (with_reducible refine Kd.C_drewN ?_ _) | (with_reducible refine Kd.C_drew ?_))); (case side2 => exact (Kd.R_reads' HO403.out).2.1); (case side3 => repeat (first | exact (Kd.R_reads' HO406.out).2.2 | (with_reducible refine Kd.C_alloc ?_ _) | (with_reducible refine Kd.C_drewN ?_ _) | (with_reducible refine Kd.C_drew ?_))); (case side4 => exact (Kd.R_reads' HO406.out).2.1); rintro e w' ⟨rfl, ⟨nd, rfl⟩⟩) | (go_at_call 13; (with_reducible refine (rows_Minus.calls k _ _ l0 _ _ l1 t408 _ ?side1 ?side2 ?side3 ?side4 A24.out).mono ?_); (case side1 => repeat (first | exact (Kd.C_below HR0.out (by repeat (first | (with_reducible first | exact HB.out | apply below_alloc | apply pw_below_drewN | apply below_drew1) | exact HB.out))) | (with_reducible refine Kd.C_alloc ?_ _) | (with_reducible refine Kd.C_drewN ?_ _) | (with_reducible refine Kd.C_drew ?_))); (case side2 => exact HC0.out); (case side3 => repeat (first | exact (Kd.C_below HR1.out (by repeat (first | (with_reducible first | exact HB.out | apply below_alloc | apply pw_below_drewN | apply below_drew1) | exact HB.out))) | (with_reducible refine Kd.C_alloc ?_ _) | (with_reducible refine Kd.C_drewN ?_ _) | (with_reducible refine Kd.C_drew ?_))); (case side4 => exact HC1.out); rintro e w46 ⟨v409, rfl, ho0, hb⟩; have n0_ := Aside0.mk (Kd.R_elder' (by (with_reducible repeat (first | apply Kd.R_alloc | apply Kd.R_drewN | apply Kd.R_drew)); exact HO389.out) (Kd.R_base ho0) hb); have n1_ := Aside0.mk (Kd.R_elder' (by (with_reducible repeat (first | apply Kd.R_alloc | apply Kd.R_drewN | apply Kd.R_drew)); exact HO391.out) (Kd.R_base ho0) hb); have n2_ := Aside0.mk (Kd.R_elder' (by (with_reducible repeat (first | apply Kd.R_alloc | apply Kd.R_drewN | apply Kd.R_drew)); exact HO394.out) (Kd.R_base ho0) hb); have n3_ := Aside0.mk (Kd.R_elder' (by (with_reducible repeat (first | apply Kd.R_alloc | apply Kd.R_drewN | apply Kd.R_drew)); exact HO397.out) (Kd.R_base ho0) hb); have n4_ := Aside0.mk (Kd.R_elder' (by (with_reducible repeat (first | apply Kd.R_alloc | apply Kd.R_drewN | apply Kd.R_drew)); exact HO403.out) (Kd.R_base ho0) hb); have n5_ := Aside0.mk (Kd.R_elder' (by (with_reducible repeat (first | apply Kd.R_alloc | apply Kd.R_drewN | apply Kd.R_drew)); exact HO406.out) (Kd.R_base ho0) hb); have n6_ := Aside0.mk (Kd.R_lower (Kd.R_new' (Kd.R_new' (Kd.R_new' (Kd.R_new' (Kd.R_new' (Kd.R_new' ho0 (Kd.R_lt (by (with_reducible repeat (first | apply Kd.R_alloc | apply Kd.R_drewN | apply Kd.R_drew)); exact HO389.out))) (Kd.R_lt (by (with_reducible repeat (first | apply Kd.R_alloc | apply Kd.R_drewN | apply Kd.R_drew)); exact HO391.out))) (Kd.R_lt (by (with_reducible repeat (first | apply Kd.R_alloc | apply Kd.R_drewN | apply Kd.R_drew)); exact HO394.out))) (Kd.R_lt (by (with_reducible repeat (first | apply Kd.R_alloc | apply Kd.R_drewN | apply Kd.R_drew)); exact HO397.out))) (Kd.R_lt (by (with_reducible repeat (first | apply Kd.R_alloc | apply Kd.R_drewN | apply Kd.R_drew)); exact HO403.out))) (Kd.R_lt (by (with_reducible repeat (first | apply Kd.R_alloc | apply Kd.R_drewN | apply Kd.R_drew)); exact HO406.out))) (below_size (by repeat (first | (with_reducible first | exact HB.out | apply below_alloc | apply pw_below_drewN | apply below_drew1) | exact HB.out)))); have n7_ := Aside0.mk (below_step (by repeat (first | (with_reducible first | exact HB.out | apply below_alloc | apply pw_below_drewN | apply below_drew1) | exact HB.out)) hb); clear HO389; clear HO391; clear HO394; clear HO397; clear HO403; clear HO406; clear HB; have HO389 := n0_; have HO391 := n1_; have HO394 := n2_; have HO397 := n3_; have HO403 := n4_; have HO406 := n5_; have HO410 := n6_; have HB := n7_; clear n0_ n1_ n2_ n3_ n4_ n5_ n6_ n7_; (try clear hb); (try clear hb2); (try clear hk); (try clear hi); (try clear ho0)) | (go_at_call 22; (with_reducible refine (entailref1_Minus.calls k _ _ l0 _ _ l1 t411 _ ?side1 ?side2 ?side3 ?side4 A25.out).mono ?_); (case side1 => repeat (first | exact (Kd.C_below HR0.out HB.out) | (with_reducible refine Kd.C_alloc ?_ _) | (with_reducible refine Kd.C_drewN ?_ _) | (with_reducible refine Kd.C_drew ?_))); (case side2 => exact HC0.out); (case side3 => repeat (first | exact (Kd.C_below HR1.out HB.out) | (with_reducible refine Kd.C_alloc ?_ _) | (with_reducible refine Kd.C_drewN ?_ _) | (with_reducible refine Kd.C_drew ?_))); (case side4 => exact HC1.out); rintro e w47 ⟨v412, rfl, ho0, hb⟩; have n0_ := Aside0.mk (Kd.R_elder' (by (with_reducible repeat (first | apply Kd.R_alloc | apply Kd.R_drewN | apply Kd.R_drew)); exact HO389.out) (Kd.R_base ho0) hb); have n1_ := Aside0.mk (Kd.R_elder' (by (with_reducible repeat (first | apply Kd.R_alloc | apply Kd.R_drewN | apply Kd.R_drew)); exact HO391.out) (Kd.R_base ho0) hb); have n2_ := Aside0.mk (Kd.R_elder' (by (with_reducible repeat (first | apply Kd.R_alloc | apply Kd.R_drewN | apply Kd.R_drew)); exact HO394.out) (Kd.R_base ho0) hb); have n3_ := Aside0.mk (Kd.R_elder' (by (with_reducible repeat (first | apply Kd.R_alloc | apply Kd.R_drewN | apply Kd.R_drew)); exact HO397.out) (Kd.R_base ho0) hb); have n4_ := Aside0.mk (Kd.R_elder' (by (with_reducible repeat (first | apply Kd.R_alloc | apply Kd.R_drewN | apply Kd.R_drew)); exact HO403.out) (Kd.R_base ho0) hb); have n5_ := Aside0.mk (Kd.R_elder' (by (with_reducible repeat (first | apply Kd.R_alloc | apply Kd.R_drewN | apply Kd.R_drew)); exact HO406.out) (Kd.R_base ho0) hb); have n6_ := Aside0.mk (Kd.R_elder' (by (with_reducible repeat (first | apply Kd.R_alloc | apply Kd.R_drewN | apply Kd.R_drew)); exact HO410.out) (Kd.R_base ho0) hb); have n7_ := Aside0.mk (Kd.R_lower (Kd.R_new' (Kd.R_new' (Kd.R_new' (Kd.R_new' (Kd.R_new' (Kd.R_new' (Kd.R_new' ho0 (Kd.R_lt (by (with_reducible repeat (first | apply Kd.R_alloc | apply Kd.R_drewN | apply Kd.R_drew)); exact HO389.out))) (Kd.R_lt (by (with_reducible repeat (first | apply Kd.R_alloc | apply Kd.R_drewN | apply Kd.R_drew)); exact HO391.out))) (Kd.R_lt (by (with_reducible repeat (first | apply Kd.R_alloc | apply Kd.R_drewN | apply Kd.R_drew)); exact HO394.out))) (Kd.R_lt (by (with_reducible repeat (first | apply Kd.R_alloc | apply Kd.R_drewN | apply Kd.R_drew)); exact HO397.out))) (Kd.R_lt (by (with_reducible repeat (first | apply Kd.R_alloc | apply Kd.R_drewN | apply Kd.R_drew)); exact HO403.out))) (Kd.R_lt (by (with_reducible repeat (first | apply Kd.R_alloc | apply Kd.R_drewN | apply Kd.R_drew)); exact HO406.out))) (Kd.R_lt (by (with_reducible repeat (first | apply Kd.R_alloc | apply Kd.R_drewN | apply Kd.R_drew)); exact HO410.out))) (below_size (by repeat (first | (with_reducible first | exact HB.out | apply below_alloc | apply pw_below_drewN | apply below_drew1) | exact HB.out)))); have n8_ := Aside0.mk (below_step (by repeat (first | (with_reducible first | exact HB.out | apply below_alloc | apply pw_below_drewN | apply below_drew1) | exact HB.out)) hb); clear HO389; clear HO391; clear HO394; clear HO397; clear HO403; clear HO406; clear HO410; clear HB; have HO389 := n0_; have HO391 := n1_; have HO394 := n2_; have HO397 := n3_; have HO403 := n4_; have HO406 := n5_; have HO410 := n6_; have HO413 := n7_; have HB := n8_; clear n0_ n1_ n2_ n3_ n4_ n5_ n6_ n7_ n8_; (try clear hb); (try clear hb2); (try clear hk); (try clear hi); (try clear ho0); obtain ⟨Ao48, co48, eo48⟩ := Kd.R_slice HO410.out; subst eo48; obtain ⟨Ao49, co49, eo49⟩ := Kd.R_slice HO413.out; subst eo49) | (go_at_call 14; (with_reducible refine (entailref1_Same.calls k _ _ t408 _ _ t411 true _ ?side1 ?side2 ?side3 ?side4 A26.out).mono ?_); (case side1 => repeat (first | exact (Kd.R_reads' HO410.out).2.2 | (with_reducible refine Kd.C_alloc ?_ _) | (with_reducible refine Kd.C_drewN ?_ _) | (with_reducible refine Kd.C_drew ?_))); (case side2 => exact (Kd.R_reads' HO410.out).2.1); (case side3 => repeat (first | exact (Kd.R_reads' HO413.out).2.2 | (with_reducible refine Kd.C_alloc ?_ _) | (with_reducible refine Kd.C_drewN ?_ _) | (with_reducible refine Kd.C_drew ?_))); (case side4 => exact (Kd.R_reads' HO413.out).2.1); rintro e w' ⟨rfl, ⟨nd, rfl⟩⟩) | (go_at_call 22; (with_reducible refine (entailref1_Minus.calls k _ _ l1 _ _ l0 t415 _ ?side1 ?side2 ?side3 ?side4 A28.out).mono ?_); (case side1 => repeat (first | exact (Kd.C_below HR1.out (by repeat (first | (with_reducible first | exact HB.out | apply below_alloc | apply pw_below_drewN | apply below_drew1) | exact HB.out))) | (with_reducible refine Kd.C_alloc ?_ _) | (with_reducible refine Kd.C_drewN ?_ _) | (with_reducible refine Kd.C_drew ?_))); (case side2 => exact HC1.out); (case side3 => repeat (first | exact (Kd.C_below HR0.out (by repeat (first | (with_reducible first | exact HB.out | apply below_alloc | apply pw_below_drewN | apply below_drew1) | exact HB.out))) | (with_reducible refine Kd.C_alloc ?_ _) | (with_reducible refine Kd.C_drewN ?_ _) | (with_reducible refine Kd.C_drew ?_))); (case side4 => exact HC0.out); rintro e w50 ⟨v416, rfl, ho0, hb⟩; have n0_ := Aside0.mk (Kd.R_elder' (by (with_reducible repeat (first | apply Kd.R_alloc | apply Kd.R_drewN | apply Kd.R_drew)); exact HO389.out) (Kd.R_base ho0) hb); have n1_ := Aside0.mk (Kd.R_elder' (by (with_reducible repeat (first | apply Kd.R_alloc | apply Kd.R_drewN | apply Kd.R_drew)); exact HO391.out) (Kd.R_base ho0) hb); have n2_ := Aside0.mk (Kd.R_elder' (by (with_reducible repeat (first | apply Kd.R_alloc | apply Kd.R_drewN | apply Kd.R_drew)); exact HO394.out) (Kd.R_base ho0) hb); have n3_ := Aside0.mk (Kd.R_elder' (by (with_reducible repeat (first | apply Kd.R_alloc | apply Kd.R_drewN | apply Kd.R_drew)); exact HO397.out) (Kd.R_base ho0) hb); have n4_ := Aside0.mk (Kd.R_elder' (by (with_reducible repeat (first | apply Kd.R_alloc | apply Kd.R_drewN | apply Kd.R_drew)); exact HO403.out) (Kd.R_base ho0) hb); have n5_ := Aside0.mk (Kd.R_elder' (by (with_reducible repeat (first | apply Kd.R_alloc | apply Kd.R_drewN | apply Kd.R_drew)); exact HO406.out) (Kd.R_base ho0) hb); have n6_ := Aside0.mk (Kd.R_elder' (by (with_reducible repeat (first | apply Kd.R_alloc | apply Kd.R_drewN | apply Kd.R_drew)); exact HO410.out) (Kd.R_base ho0) hb); have n7_ := Aside0.mk (Kd.R_elder' (by (with_reducible repeat (first | apply Kd.R_alloc | apply Kd.R_drewN | apply Kd.R_drew)); exact HO413.out) (Kd.R_base ho0) hb); have n8_ := Aside0.mk (Kd.R_lower (Kd.R_new' (Kd.R_new' (Kd.R_new' (Kd.R_new' (Kd.R_new' (Kd.R_new' (Kd.R_new' (Kd.R_new' ho0 (Kd.R_lt (by (with_reducible repeat (first | apply Kd.R_alloc | apply Kd.R_drewN | apply Kd.R_drew)); exact HO389.out))) (Kd.R_lt (by (with_reducible repeat (first | apply Kd.R_alloc | apply Kd.R_drewN | apply Kd.R_drew)); exact HO391.out))) (Kd.R_lt (by (with_reducible repeat (first | apply Kd.R_alloc | apply Kd.R_drewN | apply Kd.R_drew)); exact HO394.out))) (Kd.R_lt (by (with_reducible repeat (first | apply Kd.R_alloc | apply Kd.R_drewN | apply Kd.R_drew)); exact HO397.out))) (Kd.R_lt (by (with_reducible repeat (first | apply Kd.R_alloc | apply Kd.R_drewN | apply Kd.R_drew)); exact HO403.out))) (Kd.R_lt (by (with_reducible repeat (first | apply Kd.R_alloc | apply Kd.R_drewN | apply Kd.R_drew)); exact HO406.out))) (Kd.R_lt (by (with_reducible repeat (first | apply Kd.R_alloc | apply Kd.R_drewN | apply Kd.R_drew)); exact HO410.out))) (Kd.R_lt (by (with_reducible repeat (first | apply Kd.R_alloc | apply Kd.R_drewN | apply Kd.R_drew)); exact HO413.out))) (below_size (by repeat (first | (with_reducible first | exact HB.out | apply below_alloc | apply pw_below_drewN | apply below_drew1) | exact HB.out)))); have n9_ := Aside0.mk (below_step (by repeat (first | (with_reducible first | exact HB.out | apply below_alloc | apply pw_below_drewN | apply below_drew1) | exact HB.out)) hb); clear HO389; clear HO391; clear HO394; clear HO397; clear HO403; clear HO406; clear HO410; clear HO413; clear HB; have HO389 := n0_; have HO391 := n1_; have HO394 := n2_; have HO397 := n3_; have HO403 := n4_; have HO406 := n5_; have HO410 := n6_; have HO413 := n7_; have HO417 := n8_; have HB := n9_; clear n0_ n1_ n2_ n3_ n4_ n5_ n6_ n7_ n8_ n9_; (try clear hb); (try clear hb2); (try clear hk); (try clear hi); (try clear ho0); obtain ⟨Ao51, co51, eo51⟩ := Kd.R_slice HO389.out; subst eo51; obtain ⟨Ao52, co52, eo52⟩ := Kd.R_slice HO417.out; subst eo52) | (go_at_call 14; (with_reducible refine (entailref1_Same.calls k _ _ t386 _ _ t415 true _ ?side1 ?side2 ?side3 ?side4 A29.out).mono ?_); (case side1 => repeat (first | exact (Kd.R_reads' HO389.out).2.2 | (with_reducible refine Kd.C_alloc ?_ _) | (with_reducible refine Kd.C_drewN ?_ _) | (with_reducible refine Kd.C_drew ?_))); (case side2 => exact (Kd.R_reads' HO389.out).2.1); (case side3 => repeat (first | exact (Kd.R_reads' HO417.out).2.2 | (with_reducible refine Kd.C_alloc ?_ _) | (with_reducible refine Kd.C_drewN ?_ _) | (with_reducible refine Kd.C_drew ?_))); (case side4 => exact (Kd.R_reads' HO417.out).2.1); rintro e w' ⟨rfl, ⟨nd, rfl⟩⟩) | (go_at_call 22; (with_reducible refine (entailref1_Minus.calls k _ _ l0 _ _ l1 t419 _ ?side1 ?side2 ?side3 ?side4 A31.out).mono ?_); (case side1 => repeat (first | exact (Kd.C_below HR0.out (by repeat (first | (with_reducible first | exact HB.out | apply below_alloc | apply pw_below_drewN | apply below_drew1) | exact HB.out))) | (with_reducible refine Kd.C_alloc ?_ _) | (with_reducible refine Kd.C_drewN ?_ _) | (with_reducible refine Kd.C_drew ?_))); (case side2 => exact HC0.out); (case side3 => repeat (first | exact (Kd.C_below HR1.out (by repeat (first | (with_reducible first | exact HB.out | apply below_alloc | apply pw_below_drewN | apply below_drew1) | exact HB.out))) | (with_reducible refine Kd.C_alloc ?_ _) | (with_reducible refine Kd.C_drewN ?_ _) | (with_reducible refine Kd.C_drew ?_))); (case side4 => exact HC1.out); rintro e w53 ⟨v420, rfl, ho0, hb⟩; have n0_ := Aside0.mk (Kd.R_elder' (by (with_reducible repeat (first | apply Kd.R_alloc | apply Kd.R_drewN | apply Kd.R_drew)); exact HO389.out) (Kd.R_base ho0) hb); have n1_ := Aside0.mk (Kd.R_elder' (by (with_reducible repeat (first | apply Kd.R_alloc | apply Kd.R_drewN | apply Kd.R_drew)); exact HO391.out) (Kd.R_base ho0) hb); have n2_ := Aside0.mk (Kd.R_elder' (by (with_reducible repeat (first | apply Kd.R_alloc | apply Kd.R_drewN | apply Kd.R_drew)); exact HO394.out) (Kd.R_base ho0) hb); have n3_ := Aside0.mk (Kd.R_elder' (by (with_reducible repeat (first | apply Kd.R_alloc | apply Kd.R_drewN | apply Kd.R_drew)); exact HO397.out) (Kd.R_base ho0) hb); have n4_ := Aside0.mk (Kd.R_elder' (by (with_reducible repeat (first | apply Kd.R_alloc | apply Kd.R_drewN | apply Kd.R_drew)); exact HO403.out) (Kd.R_base ho0) hb); have n5_ := Aside0.mk (Kd.R_elder' (by (with_reducible repeat (first | apply Kd.R_alloc | apply Kd.R_drewN | apply Kd.R_drew)); exact HO406.out) (Kd.R_base ho0) hb); have n6_ := Aside0.mk (Kd.R_elder' (by (with_reducible repeat (first | apply Kd.R_alloc | apply Kd.R_drewN | apply Kd.R_drew)); exact HO410.out) (Kd.R_base ho0) hb); have n7_ := Aside0.mk (Kd.R_elder' (by (with_reducible repeat (first | apply Kd.R_alloc | apply Kd.R_drewN | apply Kd.R_drew)); exact HO413.out) (Kd.R_base ho0) hb); have n8_ := Aside0.mk (Kd.R_elder' (by (with_reducible repeat (first | apply Kd.R_alloc | apply Kd.R_drewN | apply Kd.R_drew)); exact HO417.out) (Kd.R_base ho0) hb); have n9_ := Aside0.mk (Kd.R_lower (Kd.R_new' (Kd.R_new' (Kd.R_new' (Kd.R_new' (Kd.R_new' (Kd.R_new' (Kd.R_new' (Kd.R_new' (Kd.R_new' ho0 (Kd.R_lt (by (with_reducible repeat (first | apply Kd.R_alloc | apply Kd.R_drewN | apply Kd.R_drew)); exact HO389.out))) (Kd.R_lt (by (with_reducible repeat (first | apply Kd.R_alloc | apply Kd.R_drewN | apply Kd.R_drew)); exact HO391.out))) (Kd.R_lt (by (with_reducible repeat (first | apply Kd.R_alloc | apply Kd.R_drewN | apply Kd.R_drew)); exact HO394.out))) (Kd.R_lt (by (with_reducible repeat (first | apply Kd.R_alloc | apply Kd.R_drewN | apply Kd.R_drew)); exact HO397.out))) (Kd.R_lt (by (with_reducible repeat (first | apply Kd.R_alloc | apply Kd.R_drewN | apply Kd.R_drew)); exact HO403.out))) (Kd.R_lt (by (with_reducible repeat (first | apply Kd.R_alloc | apply Kd.R_drewN | apply Kd.R_drew)); exact HO406.out))) (Kd.R_lt (by (with_reducible repeat (first | apply Kd.R_alloc | apply Kd.R_drewN | apply Kd.R_drew)); exact HO410.out))) (Kd.R_lt (by (with_reducible repeat (first | apply Kd.R_alloc | apply Kd.R_drewN | apply Kd.R_drew)); exact HO413.out))) (Kd.R_lt (by (with_reducible repeat (first | apply Kd.R_alloc | apply Kd.R_drewN | apply Kd.R_drew)); exact HO417.out))) (below_size (by repeat (first | (with_reducible first | exact HB.out | apply below_alloc | apply pw_below_drewN | apply below_drew1) | exact HB.out)))); have n10_ := Aside0.mk (below_step (by repeat (first | (with_reducible first | exact HB.out | apply below_alloc | apply pw_below_drewN | apply below_drew1) | exact HB.out)) hb); clear HO389; clear HO391; clear HO394; clear HO397; clear HO403; clear HO406; clear HO410; clear HO413; clear HO417; clear HB; have HO389 := n0_; have HO391 := n1_; have HO394 := n2_; have HO397 := n3_; have HO403 := n4_; have HO406 := n5_; have HO410 := n6_; have HO413 := n7_; have HO417 := n8_; have HO421 := n9_; have HB := n10_; clear n0_ n1_ n2_ n3_ n4_ n5_ n6_ n7_ n8_ n9_ n10_; (try clear hb); (try clear hb2); (try clear hk); (try clear hi); (try clear ho0); obtain ⟨Ao54, co54, eo54⟩ := Kd.R_slice HO391.out; subst eo54; obtain ⟨Ao55, co55, eo55⟩ := Kd.R_slice HO421.out; subst eo55) | (go_at_call 14; (with_reducible refine (entailref1_Same.calls k _ _ t387 _ _ t419 true _ ?side1 ?side2 ?side3 ?side4 A32.out).mono ?_); (case side1 => repeat (first | exact (Kd.R_reads' HO391.out).2.2 | (with_reducible refine Kd.C_alloc ?_ _) | (with_reducible refine Kd.C_drewN ?_ _) | (with_reducible refine Kd.C_drew ?_))); (case side2 => exact (Kd.R_reads' HO391.out).2.1); (case side3 => repeat (first | exact (Kd.R_reads' HO421.out).2.2 | (with_reducible refine Kd.C_alloc ?_ _) | (with_reducible refine Kd.C_drewN ?_ _) | (with_reducible refine Kd.C_drew ?_))); (case side4 => exact (Kd.R_reads' HO421.out).2.1); rintro e w' ⟨rfl, ⟨nd, rfl⟩⟩) | ((with_reducible refine gate_callee (f := 18) rfl ?_); refine goesL_ (some 83) rfl rfl Try.func18 (by kernel_rfl) rfl #[.slice A0 l0.length c0] rfl (by (try simp only [List.map_toArray, List.map_cons, List.map_nil]); first | done | rfl | (simp only [List.length_drop, List.length_take]; rfl)) ?_; (with_reducible refine (entailref1_Of.calls k _ _ l0 t423 _ ?side1 ?side2 A34.out).mono ?_); (case side1 => repeat (first | exact (Kd.C_below HR0.out (by repeat (first | (with_reducible first | exact HB.out | apply below_alloc | apply pw_below_drewN | apply below_drew1) | exact HB.out))) | (with_reducible refine Kd.C_alloc ?_ _) | (with_reducible refine Kd.C_drewN ?_ _) | (with_reducible refine Kd.C_drew ?_))); (case side2 => exact HC0.out); rintro e w56 ⟨v424, rfl, ho0, hb⟩; refine ⟨_, rfl, ?_⟩; have n0_ := Aside0.mk (Kd.R_elder' (by (with_reducible repeat (first | apply Kd.R_alloc | apply Kd.R_drewN | apply Kd.R_drew)); exact HO389.out) (Kd.R_base ho0) hb); have n1_ := Aside0.mk (Kd.R_elder' (by (with_reducible repeat (first | apply Kd.R_alloc | apply Kd.R_drewN | apply Kd.R_drew)); exact HO391.out) (Kd.R_base ho0) hb); have n2_ := Aside0.mk (Kd.R_elder' (by (with_reducible repeat (first | apply Kd.R_alloc | apply Kd.R_drewN | apply Kd.R_drew)); exact HO394.out) (Kd.R_base ho0) hb); have n3_ := Aside0.mk (Kd.R_elder' (by (with_reducible repeat (first | apply Kd.R_alloc | apply Kd.R_drewN | apply Kd.R_drew)); exact HO397.out) (Kd.R_base ho0) hb); have n4_ := Aside0.mk (Kd.R_elder' (by (with_reducible repeat (first | apply Kd.R_alloc | apply Kd.R_drewN | apply Kd.R_drew)); exact HO403.out) (Kd.R_base ho0) hb); have n5_ := Aside0.mk (Kd.R_elder' (by (with_reducible repeat (first | apply Kd.R_alloc | apply Kd.R_drewN | apply Kd.R_drew)); exact HO406.out) (Kd.R_base ho0) hb); have n6_ := Aside0.mk (Kd.R_elder' (by (with_reducible repeat (first | apply Kd.R_alloc | apply Kd.R_drewN | apply Kd.R_drew)); exact HO410.out) (Kd.R_base ho0) hb); have n7_ := Aside0.mk (Kd.R_elder' (by (with_reducible repeat (first | apply Kd.R_alloc | apply Kd.R_drewN | apply Kd.R_drew)); exact HO413.out) (Kd.R_base ho0) hb); have n8_ := Aside0.mk (Kd.R_elder' (by (with_reducible repeat (first | apply Kd.R_alloc | apply Kd.R_drewN | apply Kd.R_drew)); exact HO417.out) (Kd.R_base ho0) hb); have n9_ := Aside0.mk (Kd.R_elder' (by (with_reducible repeat (first | apply Kd.R_alloc | apply Kd.R_drewN | apply Kd.R_drew)); exact HO421.out) (Kd.R_base ho0) hb); have n10_ := Aside0.mk (Kd.R_lower (Kd.R_new' (Kd.R_new' (Kd.R_new' (Kd.R_new' (Kd.R_new' (Kd.R_new' (Kd.R_new' (Kd.R_new' (Kd.R_new' (Kd.R_new' ho0 (Kd.R_lt (by (with_reducible repeat (first | apply Kd.R_alloc | apply Kd.R_drewN | apply Kd.R_drew)); exact HO389.out))) (Kd.R_lt (by (with_reducible repeat (first | apply Kd.R_alloc | apply Kd.R_drewN | apply Kd.R_drew)); exact HO391.out))) (Kd.R_lt (by (with_reducible repeat (first | apply Kd.R_alloc | apply Kd.R_drewN | apply Kd.R_drew)); exact HO394.out))) (Kd.R_lt (by (with_reducible repeat (first | apply Kd.R_alloc | apply Kd.R_drewN | apply Kd.R_drew)); exact HO397.out))) (Kd.R_lt (by (with_reducible repeat (first | apply Kd.R_alloc | apply Kd.R_drewN | apply Kd.R_drew)); exact HO403.out))) (Kd.R_lt (by (with_reducible repeat (first | apply Kd.R_alloc | apply Kd.R_drewN | apply Kd.R_drew)); exact HO406.out))) (Kd.R_lt (by (with_reducible repeat (first | apply Kd.R_alloc | apply Kd.R_drewN | apply Kd.R_drew)); exact HO410.out))) (Kd.R_lt (by (with_reducible repeat (first | apply Kd.R_alloc | apply Kd.R_drewN | apply Kd.R_drew)); exact HO413.out))) (Kd.R_lt (by (with_reducible repeat (first | apply Kd.R_alloc | apply Kd.R_drewN | apply Kd.R_drew)); exact HO417.out))) (Kd.R_lt (by (with_reducible repeat (first | apply Kd.R_alloc | apply Kd.R_drewN | apply Kd.R_drew)); exact HO421.out))) (below_size (by repeat (first | (with_reducible first | exact HB.out | apply below_alloc | apply pw_below_drewN | apply below_drew1) | exact HB.out)))); have n11_ := Aside0.mk (below_step (by repeat (first | (with_reducible first | exact HB.out | apply below_alloc | apply pw_below_drewN | apply below_drew1) | exact HB.out)) hb); clear HO389; clear HO391; clear HO394; clear HO397; clear HO403; clear HO406; clear HO410; clear HO413; clear HO417; clear HO421; clear HB; have HO389 := n0_; have HO391 := n1_; have HO394 := n2_; have HO397 := n3_; have HO403 := n4_; have HO406 := n5_; have HO410 := n6_; have HO413 := n7_; have HO417 := n8_; have HO421 := n9_; have HO425 := n10_; have HB := n11_; clear n0_ n1_ n2_ n3_ n4_ n5_ n6_ n7_ n8_ n9_ n10_ n11_; (try clear hb); (try clear hb2); (try clear hk); (try clear hi); (try clear ho0)))
    go_loopg [13] k (fun kq v13 w' => ∃ (x13_1 : Int), v13 = .int .i64 x13_1 ∧ Aside0 (entaillaw3_RowsTells.l2 kq l1 l2 l3 0 t423 x13_1 = some r) ∧ Aside0 (kq ≤ k) ∧ Aside0 (Kd.R k41 41 w' w.heap.size (fun _ => True) v424 t423) ∧ Aside0 (Below w.heap.size w w'))
    case atStart => exact ⟨(0), (by first | rfl | (simp; done) | (simp [*]; done)), H', ⟨Nat.le_refl _⟩, ⟨by (with_reducible repeat (first | apply Kd.R_alloc | apply Kd.R_drewN | apply Kd.R_drew)); exact Kd.R_mono HO425.out (fun _ hk => trivial)⟩, ⟨by repeat (first | (with_reducible first | exact HB.out | apply below_alloc | apply pw_below_drewN | apply below_drew1) | exact HB.out)⟩⟩
    case round =>
     clear H'
     try clear c1
     try clear c2
     try clear p2
     try clear c3
     try clear c4
     try clear c5
     try clear c5b0
     try clear c5b1
     try clear c8
     try clear c8b0
     try clear c8b1
     try clear c11
     try clear c11b0
     try clear c12
     try clear c14
     try clear c16
     try clear c17
     try clear c18
     try clear c19
     try clear c19b0
     try clear c19b1
     try clear c19b2
     try clear c23
     try clear c27
     try clear c30
     try clear c33
     obtain ⟨x13_1, rfl, HA, HK1, HO_12, HB⟩ := hrel
     cases gk with
     | zero => exact absurd HA.out (by simp [entaillaw3_RowsTells.l2])
     | succ k1 =>
      have H := HA.out
      clear HA
      simp only [entaillaw3_RowsTells.l2] at H
      by_cases c57 : x13_1 < (l1.length : Int)
      ·rw [if_pos c57] at H
       have c57b0 : decide (x13_1 < (l1.length : Int)) = true := decide_eq_true c57
       clear c57
       by_cases c58 : 0 ≤ x13_1
       rotate_left
       ·rw [if_neg c58] at H
        exact absurd H (by simp)
       rw [if_pos c58] at H
       have c58b0 : decide (0 ≤ x13_1) = true := decide_eq_true c58
       clear c58
       replace H := Option.bind_eq_some_iff.mp H
       obtain ⟨t427, A590, H⟩ := H
       replace H : ((entailref1_Has.f k1 t423 ((rd_T41 l1 x13_1).f0.f0) ((rd_T41 l1 x13_1).f0.f1) ((rd_T41 l1 x13_1).f1) ((rd_T41 l1 x13_1).f2.f0) ((rd_T41 l1 x13_1).f2.f1) ((rd_T41 l1 x13_1).f2.f2)).bind fun t429 => (if (t427 != t429) = true then (none) else (entaillaw3_RowsTells.l2 k1 l1 l2 l3 0 t423 (wrap64 (x13_1 + 1))))) = some r := H
       have A59 := Aside0.mk A590
       clear A590
       replace H := Option.bind_eq_some_iff.mp H
       obtain ⟨t429, A600, H⟩ := H
       replace H : (if (t427 != t429) = true then (none) else (entaillaw3_RowsTells.l2 k1 l1 l2 l3 0 t423 (wrap64 (x13_1 + 1)))) = some r := H
       have A60 := Aside0.mk A600
       clear A600
       by_cases c61 : (t427 != t429) = true
       ·rw [if_pos c61] at H
        exact absurd H (by simp)
       rw [if_neg c61] at H
       have c61b0 : (t427 != t429) = false := by simpa using c61
       (try (have c61b1 : decide (t427 = t429) = true := by simpa using c61))
       (try (have c61b2 : (t427 == t429) = true := by simpa using c61))
       clear c61
       have H' := Aside0.mk H
       clear H
       try go_wp2
       have n0_ := Aside0.mk (Kd.R_drew HO_12.out)
       have n1_ := Aside0.mk (below_drew1 HB.out)
       clear HO_12
       clear HB
       have HO_12 := n0_
       have HB := n1_
       clear n0_ n1_
       have p426 : 0 ≤ (x13_1 : Int) := of_decide_eq_true (by first | (with_reducible assumption) | assumption)
       have q426 : x13_1 < (l1.length : Int) := of_decide_eq_true (by first | (with_reducible assumption) | assumption)
       obtain ⟨ad426, e426, hx426_0, hx426_1, hx426_2, hx426_3, hx426_4, hx426_5⟩ := at_T41 HR1.out x13_1 p426 q426
       have hw426_5 := hx426_5
       have hw426_4 := hx426_4
       have hw426_3 := hx426_3
       have hw426_2 := hx426_2
       have hw426_1 := hx426_1
       have hw426_0 := hx426_0
       cases e426
       replace hx426_0 := (HB.out.cell (World.block_lt_of_cell? w _ hx426_0)).trans hx426_0
       replace hx426_1 := (HB.out.cell (World.block_lt_of_cell? w _ hx426_1)).trans hx426_1
       replace hx426_2 := (HB.out.cell (World.block_lt_of_cell? w _ hx426_2)).trans hx426_2
       replace hx426_3 := (HB.out.cell (World.block_lt_of_cell? w _ hx426_3)).trans hx426_3
       replace hx426_4 := (HB.out.cell (World.block_lt_of_cell? w _ hx426_4)).trans hx426_4
       replace hx426_5 := (HB.out.cell (World.block_lt_of_cell? w _ hx426_5)).trans hx426_5
       replace p426 := eq_true p426
       replace q426 := eq_true q426
       have p428 : 0 ≤ (x13_1 : Int) := of_decide_eq_true (by first | (with_reducible assumption) | assumption)
       have q428 : x13_1 < (l1.length : Int) := of_decide_eq_true (by first | (with_reducible assumption) | assumption)
       obtain ⟨ad428, e428, hx428_0, hx428_1, hx428_2, hx428_3, hx428_4, hx428_5⟩ := at_T41 HR1.out x13_1 p428 q428
       have hw428_5 := hx428_5
       have hw428_4 := hx428_4
       have hw428_3 := hx428_3
       have hw428_2 := hx428_2
       have hw428_1 := hx428_1
       have hw428_0 := hx428_0
       obtain rfl : ad426 = ad428 := (by injection e428)
       replace hx428_0 := (HB.out.cell (World.block_lt_of_cell? w _ hx428_0)).trans hx428_0
       replace hx428_1 := (HB.out.cell (World.block_lt_of_cell? w _ hx428_1)).trans hx428_1
       replace hx428_2 := (HB.out.cell (World.block_lt_of_cell? w _ hx428_2)).trans hx428_2
       replace hx428_3 := (HB.out.cell (World.block_lt_of_cell? w _ hx428_3)).trans hx428_3
       replace hx428_4 := (HB.out.cell (World.block_lt_of_cell? w _ hx428_4)).trans hx428_4
       replace hx428_5 := (HB.out.cell (World.block_lt_of_cell? w _ hx428_5)).trans hx428_5
       replace p428 := eq_true p428
       replace q428 := eq_true q428
       obtain ⟨Ao63, co63, eo63⟩ := Kd.R_slice HO_12.out
       (first | subst eo63 | (injection eo63 with f1_ f2_ f3_; have f4_ := f1_.symm; have f5_ := f3_.symm; clear f1_ f2_ f3_; subst f4_; subst f5_))
       refine start_ (n := 13) (S := fun w' => w'.cell? (ad426.add ((x13_1).toNat * 6)) = some (.string ((rd_T41 l1 x13_1).f0.f0)) ∧ w'.cell? ⟨(ad426.add ((x13_1).toNat * 6)).block, (ad426.add ((x13_1).toNat * 6)).off + 1, none⟩ = some (.string ((rd_T41 l1 x13_1).f0.f1)) ∧ w'.cell? ⟨(ad426.add ((x13_1).toNat * 6)).block, (ad426.add ((x13_1).toNat * 6)).off + 2, none⟩ = some (.string ((rd_T41 l1 x13_1).f1)) ∧ w'.cell? ⟨(ad426.add ((x13_1).toNat * 6)).block, (ad426.add ((x13_1).toNat * 6)).off + 3, none⟩ = some (.string ((rd_T41 l1 x13_1).f2.f0)) ∧ w'.cell? ⟨(ad426.add ((x13_1).toNat * 6)).block, (ad426.add ((x13_1).toNat * 6)).off + 4, none⟩ = some (.string ((rd_T41 l1 x13_1).f2.f1)) ∧ w'.cell? ⟨(ad426.add ((x13_1).toNat * 6)).block, (ad426.add ((x13_1).toNat * 6)).off + 5, none⟩ = some (.string ((rd_T41 l1 x13_1).f2.f2)) ∧ w'.cell? (ad426.add ((x13_1).toNat * 6)) = some (.string ((rd_T41 l1 x13_1).f0.f0)) ∧ w'.cell? ⟨(ad426.add ((x13_1).toNat * 6)).block, (ad426.add ((x13_1).toNat * 6)).off + 1, none⟩ = some (.string ((rd_T41 l1 x13_1).f0.f1)) ∧ w'.cell? ⟨(ad426.add ((x13_1).toNat * 6)).block, (ad426.add ((x13_1).toNat * 6)).off + 2, none⟩ = some (.string ((rd_T41 l1 x13_1).f1)) ∧ w'.cell? ⟨(ad426.add ((x13_1).toNat * 6)).block, (ad426.add ((x13_1).toNat * 6)).off + 3, none⟩ = some (.string ((rd_T41 l1 x13_1).f2.f0)) ∧ w'.cell? ⟨(ad426.add ((x13_1).toNat * 6)).block, (ad426.add ((x13_1).toNat * 6)).off + 4, none⟩ = some (.string ((rd_T41 l1 x13_1).f2.f1)) ∧ w'.cell? ⟨(ad426.add ((x13_1).toNat * 6)).block, (ad426.add ((x13_1).toNat * 6)).off + 5, none⟩ = some (.string ((rd_T41 l1 x13_1).f2.f2))) (ds := []) #[F,F,F,F,F,F,F,F,F,F,F,F,F] (by kernel_rfl) rfl rfl ⟨((HB.out.cell (World.block_lt_of_cell? w _ hw426_0)).trans hw426_0), ((HB.out.cell (World.block_lt_of_cell? w _ hw426_1)).trans hw426_1), ((HB.out.cell (World.block_lt_of_cell? w _ hw426_2)).trans hw426_2), ((HB.out.cell (World.block_lt_of_cell? w _ hw426_3)).trans hw426_3), ((HB.out.cell (World.block_lt_of_cell? w _ hw426_4)).trans hw426_4), ((HB.out.cell (World.block_lt_of_cell? w _ hw426_5)).trans hw426_5), ((HB.out.cell (World.block_lt_of_cell? w _ hw428_0)).trans hw428_0), ((HB.out.cell (World.block_lt_of_cell? w _ hw428_1)).trans hw428_1), ((HB.out.cell (World.block_lt_of_cell? w _ hw428_2)).trans hw428_2), ((HB.out.cell (World.block_lt_of_cell? w _ hw428_3)).trans hw428_3), ((HB.out.cell (World.block_lt_of_cell? w _ hw428_4)).trans hw428_4), ((HB.out.cell (World.block_lt_of_cell? w _ hw428_5)).trans hw428_5)⟩ (fun hHeld => ?_); refine with_tabW entaillaw3_RowsTells.tab13 entaillaw3_RowsTells.bits13 (fun HT_ HW_ => ?_)
       generalize wr.drew = w62 at HO_12 HB hx426_0 hx426_1 hx426_2 hx426_3 hx426_4 hx426_5 hx428_0 hx428_1 hx428_2 hx428_3 hx428_4 hx428_5 hHeld ⊢
       refine pure_ (i := 0) (N := some 90) (v := ?_) (a' := ?_) #[T,F,F,F,F,F,F,F,F,F,F,F,F] rfl rfl (any_of HT_.out (by kernel_rfl)) (fun _ _ _ h => h) (Or.inl ⟨by rfl, ?_⟩) ?_ ?_
       rotate_left
       ·intro w'
        go_simp
        with_reducible rfl
       rotate_left
       ·simp only [Act.put, sa_, sz_, ss_, i64_w, i32_w]
        rfl
       refine pure_ (i := 1) (N := some 91) (v := ?_) (a' := ?_) #[T,T,F,F,F,F,F,F,F,F,F,F,F] rfl rfl (any_of HT_.out (by kernel_rfl)) (fun _ _ _ h => h) (Or.inl ⟨by rfl, ?_⟩) ?_ ?_
       rotate_left
       ·intro w'
        go_simp
        with_reducible rfl
       rotate_left
       ·simp only [Act.put, sa_, sz_, ss_, i64_w, i32_w]
        rfl
       refine pure_ (i := 2) (N := some 92) (v := ?_) (a' := ?_) #[T,T,T,F,F,F,F,F,F,F,F,F,F] rfl rfl (any_of HT_.out (by kernel_rfl)) (fun _ _ _ h => h) (Or.inl ⟨by rfl, ?_⟩) ?_ ?_
       rotate_left
       ·intro w'
        go_simp
        with_reducible rfl
       rotate_left
       ·simp only [Act.put, sa_, sz_, ss_, i64_w, i32_w]
        rfl
       refine pure_ (i := 3) (N := some 93) (v := ?_) (a' := ?_) #[T,T,T,T,F,F,F,F,F,F,F,F,F] rfl rfl (any_of HT_.out (by kernel_rfl)) (fun _ _ _ h => h) (Or.inl ⟨by rfl, ?_⟩) ?_ ?_
       rotate_left
       ·intro w'
        go_simp
        with_reducible rfl
       rotate_left
       ·simp only [Act.put, sa_, sz_, ss_, i64_w, i32_w]
        rfl
       refine pure_ (i := 6) (N := some 96) (v := ?_) (a' := ?_) #[T,T,T,T,F,F,T,F,F,F,F,F,F] rfl rfl (any_of HT_.out (by kernel_rfl)) (fun _ _ _ h => h) (Or.inl ⟨by rfl, ?_⟩) ?_ ?_
       rotate_left
       ·intro w'
        go_simp
        with_reducible rfl
       rotate_left
       ·simp only [Act.put, sa_, sz_, ss_, i64_w, i32_w]
        rfl
       refine pure_ (i := 7) (N := some 97) (v := ?_) (a' := ?_) #[T,T,T,T,F,F,T,T,F,F,F,F,F] rfl rfl (any_of HT_.out (by kernel_rfl)) (fun _ _ _ h => h) (Or.inl ⟨by rfl, ?_⟩) ?_ ?_
       rotate_left
       ·intro w'
        go_simp
        with_reducible rfl
       rotate_left
       ·simp only [Act.put, sa_, sz_, ss_, i64_w, i32_w]
        rfl
       refine pure_ (i := 8) (N := some 98) (v := ?_) (a' := ?_) #[T,T,T,T,F,F,T,T,T,F,F,F,F] rfl rfl (any_of HT_.out (by kernel_rfl)) (fun _ _ _ h => h) (Or.inl ⟨by rfl, ?_⟩) ?_ ?_
       rotate_left
       ·intro w'
        go_simp
        with_reducible rfl
       rotate_left
       ·simp only [Act.put, sa_, sz_, ss_, i64_w, i32_w]
        rfl
       refine pure_ (i := 9) (N := some 99) (v := ?_) (a' := ?_) #[T,T,T,T,F,F,T,T,T,T,F,F,F] rfl rfl (any_of HT_.out (by kernel_rfl)) (fun _ _ _ h => h) (Or.inl ⟨by rfl, ?_⟩) ?_ ?_
       rotate_left
       ·intro w'
        go_simp
        with_reducible rfl
       rotate_left
       ·simp only [Act.put, sa_, sz_, ss_, i64_w, i32_w]
        rfl
       refine take_ (i := 4) (N := some 94) (v := ?_) (a' := ?_) #[T,T,T,T,T,F,T,T,T,T,F,F,F] rfl rfl (take_ofW HT_.out HW_.out (by kernel_rfl)) (fun _ _ _ h => h) (Or.inl ⟨by rfl, ?_⟩) hHeld ?_ ?_
       rotate_left
       ·rintro w' ⟨s0, s1, s2, s3, s4, s5, s6, s7, s8, s9, s10, s11⟩
        go_simp
        with_reducible rfl
       rotate_left
       ·simp only [Act.put, sa_, sz_, ss_, i64_w, i32_w]
        rfl
       refine take_ (i := 10) (N := some 100) (v := ?_) (a' := ?_) #[T,T,T,T,T,F,T,T,T,T,T,F,F] rfl rfl (take_ofW HT_.out HW_.out (by kernel_rfl)) (fun _ _ _ h => h) (Or.inl ⟨by rfl, ?_⟩) hHeld ?_ ?_
       rotate_left
       ·rintro w' ⟨s0, s1, s2, s3, s4, s5, s6, s7, s8, s9, s10, s11⟩
        go_simp
        with_reducible rfl
       rotate_left
       ·simp only [Act.put, sa_, sz_, ss_, i64_w, i32_w]
        rfl
       refine one_ (i := 5) (N := some 95) #[T,T,T,T,T,T,T,T,T,T,T,F,F] rfl rfl (one_of HT_.out (by kernel_rfl)) (by decide) (fun K hK => ?_)
       refine goes_ Try.func23 (by kernel_rfl) rfl #[.slice Ao63 t423.length co63, .agg #[.string ((rd_T41 l1 x13_1).f0.f0), .string ((rd_T41 l1 x13_1).f0.f1), .string ((rd_T41 l1 x13_1).f1), .string ((rd_T41 l1 x13_1).f2.f0), .string ((rd_T41 l1 x13_1).f2.f1), .string ((rd_T41 l1 x13_1).f2.f2)]] (by rfl) rfl rfl (by (try simp only [List.map_toArray, List.map_cons, List.map_nil]); first | done | rfl | (simp only [List.length_drop, List.length_take]; rfl)) ?_
       with_reducible refine (rows_Has.calls _ _ t423 ((rd_T41 l1 x13_1).f0.f0) ((rd_T41 l1 x13_1).f0.f1) ((rd_T41 l1 x13_1).f1) ((rd_T41 l1 x13_1).f2.f0) ((rd_T41 l1 x13_1).f2.f1) ((rd_T41 l1 x13_1).f2.f2) t427 _ ?side1 ?side2 A59.out).mono ?_
       (case side1 => repeat (first | exact (Kd.R_reads' HO_12.out).2.2 | (with_reducible refine Kd.C_alloc ?_ _) | (with_reducible refine Kd.C_drewN ?_ _) | (with_reducible refine Kd.C_drew ?_)))
       (case side2 => exact (Kd.R_reads' HO_12.out).2.1)
       rintro e w64 ⟨rfl, hb⟩
       refine ⟨_, rfl, ?_⟩
       have n0_ := Aside0.mk (Kd.R_below (by (with_reducible repeat (first | apply Kd.R_alloc | apply Kd.R_drewN | apply Kd.R_drew)); exact HO_12.out) hb)
       have n1_ := Aside0.mk (below_step (by repeat (first | (with_reducible first | exact HB.out | apply below_alloc | apply pw_below_drewN | apply below_drew1) | exact HB.out)) hb)
       clear HO_12
       clear HB
       have HO_12 := n0_
       have HB := n1_
       clear n0_ n1_
       (try clear hb)
       (try clear hb2)
       (try clear hk)
       (try clear hi)
       refine hK.out _ _ ⟨((HB.out.cell (World.block_lt_of_cell? w _ hw426_0)).trans hw426_0), ((HB.out.cell (World.block_lt_of_cell? w _ hw426_1)).trans hw426_1), ((HB.out.cell (World.block_lt_of_cell? w _ hw426_2)).trans hw426_2), ((HB.out.cell (World.block_lt_of_cell? w _ hw426_3)).trans hw426_3), ((HB.out.cell (World.block_lt_of_cell? w _ hw426_4)).trans hw426_4), ((HB.out.cell (World.block_lt_of_cell? w _ hw426_5)).trans hw426_5), ((HB.out.cell (World.block_lt_of_cell? w _ hw428_0)).trans hw428_0), ((HB.out.cell (World.block_lt_of_cell? w _ hw428_1)).trans hw428_1), ((HB.out.cell (World.block_lt_of_cell? w _ hw428_2)).trans hw428_2), ((HB.out.cell (World.block_lt_of_cell? w _ hw428_3)).trans hw428_3), ((HB.out.cell (World.block_lt_of_cell? w _ hw428_4)).trans hw428_4), ((HB.out.cell (World.block_lt_of_cell? w _ hw428_5)).trans hw428_5)⟩ (fun hHeld => ?_)
       clear hK K
       refine norm_ (a' := ?_) ?_ ?_
       rotate_left
       ·show Act.put _ (some 95) _ = _
        simp only [Act.put, sa_, sz_, ss_, i64_w, i32_w]
        rfl
       refine one_ (i := 11) (N := some 101) #[T,T,T,T,T,T,T,T,T,T,T,T,F] rfl rfl (one_of HT_.out (by kernel_rfl)) (by decide) (fun K hK => ?_)
       refine goes_ Try.func24 (by kernel_rfl) rfl #[.slice Ao63 t423.length co63, .agg #[.string ((rd_T41 l1 x13_1).f0.f0), .string ((rd_T41 l1 x13_1).f0.f1), .string ((rd_T41 l1 x13_1).f1), .string ((rd_T41 l1 x13_1).f2.f0), .string ((rd_T41 l1 x13_1).f2.f1), .string ((rd_T41 l1 x13_1).f2.f2)]] (by rfl) rfl rfl (by (try simp only [List.map_toArray, List.map_cons, List.map_nil]); first | done | rfl | (simp only [List.length_drop, List.length_take]; rfl)) ?_
       with_reducible refine (entailref1_Has.calls k1 _ _ t423 ((rd_T41 l1 x13_1).f0.f0) ((rd_T41 l1 x13_1).f0.f1) ((rd_T41 l1 x13_1).f1) ((rd_T41 l1 x13_1).f2.f0) ((rd_T41 l1 x13_1).f2.f1) ((rd_T41 l1 x13_1).f2.f2) t429 _ ?side1 ?side2 A60.out).mono ?_
       (case side1 => repeat (first | exact (Kd.R_reads' HO_12.out).2.2 | (with_reducible refine Kd.C_alloc ?_ _) | (with_reducible refine Kd.C_drewN ?_ _) | (with_reducible refine Kd.C_drew ?_)))
       (case side2 => exact (Kd.R_reads' HO_12.out).2.1)
       rintro e w65 ⟨rfl, hb⟩
       refine ⟨_, rfl, ?_⟩
       have n0_ := Aside0.mk (Kd.R_below (by (with_reducible repeat (first | apply Kd.R_alloc | apply Kd.R_drewN | apply Kd.R_drew)); exact HO_12.out) hb)
       have n1_ := Aside0.mk (below_step (by repeat (first | (with_reducible first | exact HB.out | apply below_alloc | apply pw_below_drewN | apply below_drew1) | exact HB.out)) hb)
       clear HO_12
       clear HB
       have HO_12 := n0_
       have HB := n1_
       clear n0_ n1_
       (try clear hb)
       (try clear hb2)
       (try clear hk)
       (try clear hi)
       refine hK.out _ _ ⟨((HB.out.cell (World.block_lt_of_cell? w _ hw426_0)).trans hw426_0), ((HB.out.cell (World.block_lt_of_cell? w _ hw426_1)).trans hw426_1), ((HB.out.cell (World.block_lt_of_cell? w _ hw426_2)).trans hw426_2), ((HB.out.cell (World.block_lt_of_cell? w _ hw426_3)).trans hw426_3), ((HB.out.cell (World.block_lt_of_cell? w _ hw426_4)).trans hw426_4), ((HB.out.cell (World.block_lt_of_cell? w _ hw426_5)).trans hw426_5), ((HB.out.cell (World.block_lt_of_cell? w _ hw428_0)).trans hw428_0), ((HB.out.cell (World.block_lt_of_cell? w _ hw428_1)).trans hw428_1), ((HB.out.cell (World.block_lt_of_cell? w _ hw428_2)).trans hw428_2), ((HB.out.cell (World.block_lt_of_cell? w _ hw428_3)).trans hw428_3), ((HB.out.cell (World.block_lt_of_cell? w _ hw428_4)).trans hw428_4), ((HB.out.cell (World.block_lt_of_cell? w _ hw428_5)).trans hw428_5)⟩ (fun hHeld => ?_)
       clear hK K
       refine norm_ (a' := ?_) ?_ ?_
       rotate_left
       ·show Act.put _ (some 101) _ = _
        simp only [Act.put, sa_, sz_, ss_, i64_w, i32_w]
        rfl
       refine pure_ (i := 12) (N := some 102) (v := ?_) (a' := ?_) #[T,T,T,T,T,T,T,T,T,T,T,T,T] rfl rfl (any_of HT_.out (by kernel_rfl)) (fun _ _ _ h => h) (Or.inl ⟨by rfl, ?_⟩) ?_ ?_
       rotate_left
       ·intro w'
        go_simp
        with_reducible rfl
       rotate_left
       ·simp only [Act.put, sa_, sz_, ss_, i64_w, i32_w]
        rfl
       refine done_ (done_of HT_.out (by kernel_rfl)) ?_
       try go_wp2
       go_roundg k1
       case measure => have := HK1.out; omega
       case rel => exact ⟨(wrap64 (x13_1 + 1)), (by first | rfl | (simp; done) | (simp [*]; done)), H', ⟨by have := HK1.out; omega⟩, ⟨by (with_reducible repeat (first | apply Kd.R_alloc | apply Kd.R_drewN | apply Kd.R_drew)); exact HO_12.out⟩, ⟨by repeat (first | (with_reducible first | exact HB.out | apply below_alloc | apply pw_below_drewN | apply below_drew1) | exact HB.out)⟩⟩
      ·rw [if_neg c57] at H
       have c57b0 : decide (x13_1 < (l1.length : Int)) = false := decide_eq_false c57
       clear c57
       replace H := Option.bind_eq_some_iff.mp H
       obtain ⟨t430, A660, H⟩ := H
       replace H : ((entaillaw2_Tames.f k1 l3).bind fun t433 => (if (wrap64 (0 + 1)) < 2 then ((rows_Diff.f k1 t430 t433).bind fun bt436 => ((rows_Of.f t430).bind fun t442 => ((entailref1_Of.f k1 t430).bind fun t445 => ((entailref1_Same.f k1 t442 t445).bind fun t448 => (if t448 = true then ((rows_Is.f k1 t430).bind fun t449 => ((entailref1_Is.f k1 t430).bind fun t450 => (if (t449 != t450) = true then (none) else ((rows_Plus.f t430 t433).bind fun t451 => ((entailref1_Plus.f k1 t430 t433).bind fun t454 => ((entailref1_Same.f k1 t451 t454).bind fun t457 => (if t457 = true then ((rows_Minus.f k1 t430 t433).bind fun t458 => ((entailref1_Minus.f k1 t430 t433).bind fun t461 => ((entailref1_Same.f k1 t458 t461).bind fun t464 => (if t464 = true then ((entailref1_Minus.f k1 t433 t430).bind fun t465 => ((entailref1_Same.f k1 bt436.1 t465).bind fun t468 => (if t468 = true then ((entailref1_Minus.f k1 t430 t433).bind fun t469 => ((entailref1_Same.f k1 bt436.2 t469).bind fun t472 => (if t472 = true then ((entailref1_Of.f k1 t430).bind fun t473 => (entaillaw3_RowsTells.l3 k1 t433 l2 l3 (wrap64 (0 + 1)) t473 0)) else (none)))) else (none)))) else (none))))) else (none)))))))) else (none)))))) else (none))) = some r := H
       have A66 := Aside0.mk A660
       clear A660
       replace H := Option.bind_eq_some_iff.mp H
       obtain ⟨t433, A670, H⟩ := H
       replace H : (if (wrap64 (0 + 1)) < 2 then ((rows_Diff.f k1 t430 t433).bind fun bt436 => ((rows_Of.f t430).bind fun t442 => ((entailref1_Of.f k1 t430).bind fun t445 => ((entailref1_Same.f k1 t442 t445).bind fun t448 => (if t448 = true then ((rows_Is.f k1 t430).bind fun t449 => ((entailref1_Is.f k1 t430).bind fun t450 => (if (t449 != t450) = true then (none) else ((rows_Plus.f t430 t433).bind fun t451 => ((entailref1_Plus.f k1 t430 t433).bind fun t454 => ((entailref1_Same.f k1 t451 t454).bind fun t457 => (if t457 = true then ((rows_Minus.f k1 t430 t433).bind fun t458 => ((entailref1_Minus.f k1 t430 t433).bind fun t461 => ((entailref1_Same.f k1 t458 t461).bind fun t464 => (if t464 = true then ((entailref1_Minus.f k1 t433 t430).bind fun t465 => ((entailref1_Same.f k1 bt436.1 t465).bind fun t468 => (if t468 = true then ((entailref1_Minus.f k1 t430 t433).bind fun t469 => ((entailref1_Same.f k1 bt436.2 t469).bind fun t472 => (if t472 = true then ((entailref1_Of.f k1 t430).bind fun t473 => (entaillaw3_RowsTells.l3 k1 t433 l2 l3 (wrap64 (0 + 1)) t473 0)) else (none)))) else (none)))) else (none))))) else (none)))))))) else (none)))))) else (none)) = some r := H
       have A67 := Aside0.mk A670
       clear A670
       by_cases c68 : (wrap64 (0 + 1)) < 2
       rotate_left
       ·rw [if_neg c68] at H
        exact absurd H (by simp)
       rw [if_pos c68] at H
       have c68b0 : decide ((wrap64 (0 + 1)) < 2) = true := decide_eq_true c68
       clear c68
       replace H := Option.bind_eq_some_iff.mp H
       obtain ⟨⟨t436, t437⟩, A690, H⟩ := H
       replace H : ((rows_Of.f t430).bind fun t442 => ((entailref1_Of.f k1 t430).bind fun t445 => ((entailref1_Same.f k1 t442 t445).bind fun t448 => (if t448 = true then ((rows_Is.f k1 t430).bind fun t449 => ((entailref1_Is.f k1 t430).bind fun t450 => (if (t449 != t450) = true then (none) else ((rows_Plus.f t430 t433).bind fun t451 => ((entailref1_Plus.f k1 t430 t433).bind fun t454 => ((entailref1_Same.f k1 t451 t454).bind fun t457 => (if t457 = true then ((rows_Minus.f k1 t430 t433).bind fun t458 => ((entailref1_Minus.f k1 t430 t433).bind fun t461 => ((entailref1_Same.f k1 t458 t461).bind fun t464 => (if t464 = true then ((entailref1_Minus.f k1 t433 t430).bind fun t465 => ((entailref1_Same.f k1 t436 t465).bind fun t468 => (if t468 = true then ((entailref1_Minus.f k1 t430 t433).bind fun t469 => ((entailref1_Same.f k1 t437 t469).bind fun t472 => (if t472 = true then ((entailref1_Of.f k1 t430).bind fun t473 => (entaillaw3_RowsTells.l3 k1 t433 l2 l3 (wrap64 (0 + 1)) t473 0)) else (none)))) else (none)))) else (none))))) else (none)))))))) else (none))))) = some r := H
       have A69 := Aside0.mk A690
       clear A690
       replace H := Option.bind_eq_some_iff.mp H
       obtain ⟨t442, A700, H⟩ := H
       replace H : ((entailref1_Of.f k1 t430).bind fun t445 => ((entailref1_Same.f k1 t442 t445).bind fun t448 => (if t448 = true then ((rows_Is.f k1 t430).bind fun t449 => ((entailref1_Is.f k1 t430).bind fun t450 => (if (t449 != t450) = true then (none) else ((rows_Plus.f t430 t433).bind fun t451 => ((entailref1_Plus.f k1 t430 t433).bind fun t454 => ((entailref1_Same.f k1 t451 t454).bind fun t457 => (if t457 = true then ((rows_Minus.f k1 t430 t433).bind fun t458 => ((entailref1_Minus.f k1 t430 t433).bind fun t461 => ((entailref1_Same.f k1 t458 t461).bind fun t464 => (if t464 = true then ((entailref1_Minus.f k1 t433 t430).bind fun t465 => ((entailref1_Same.f k1 t436 t465).bind fun t468 => (if t468 = true then ((entailref1_Minus.f k1 t430 t433).bind fun t469 => ((entailref1_Same.f k1 t437 t469).bind fun t472 => (if t472 = true then ((entailref1_Of.f k1 t430).bind fun t473 => (entaillaw3_RowsTells.l3 k1 t433 l2 l3 (wrap64 (0 + 1)) t473 0)) else (none)))) else (none)))) else (none))))) else (none)))))))) else (none)))) = some r := H
       have A70 := Aside0.mk A700
       clear A700
       replace H := Option.bind_eq_some_iff.mp H
       obtain ⟨t445, A710, H⟩ := H
       replace H : ((entailref1_Same.f k1 t442 t445).bind fun t448 => (if t448 = true then ((rows_Is.f k1 t430).bind fun t449 => ((entailref1_Is.f k1 t430).bind fun t450 => (if (t449 != t450) = true then (none) else ((rows_Plus.f t430 t433).bind fun t451 => ((entailref1_Plus.f k1 t430 t433).bind fun t454 => ((entailref1_Same.f k1 t451 t454).bind fun t457 => (if t457 = true then ((rows_Minus.f k1 t430 t433).bind fun t458 => ((entailref1_Minus.f k1 t430 t433).bind fun t461 => ((entailref1_Same.f k1 t458 t461).bind fun t464 => (if t464 = true then ((entailref1_Minus.f k1 t433 t430).bind fun t465 => ((entailref1_Same.f k1 t436 t465).bind fun t468 => (if t468 = true then ((entailref1_Minus.f k1 t430 t433).bind fun t469 => ((entailref1_Same.f k1 t437 t469).bind fun t472 => (if t472 = true then ((entailref1_Of.f k1 t430).bind fun t473 => (entaillaw3_RowsTells.l3 k1 t433 l2 l3 (wrap64 (0 + 1)) t473 0)) else (none)))) else (none)))) else (none))))) else (none)))))))) else (none))) = some r := H
       have A71 := Aside0.mk A710
       clear A710
       replace H := Option.bind_eq_some_iff.mp H
       obtain ⟨t448, A720, H⟩ := H
       replace H : (if t448 = true then ((rows_Is.f k1 t430).bind fun t449 => ((entailref1_Is.f k1 t430).bind fun t450 => (if (t449 != t450) = true then (none) else ((rows_Plus.f t430 t433).bind fun t451 => ((entailref1_Plus.f k1 t430 t433).bind fun t454 => ((entailref1_Same.f k1 t451 t454).bind fun t457 => (if t457 = true then ((rows_Minus.f k1 t430 t433).bind fun t458 => ((entailref1_Minus.f k1 t430 t433).bind fun t461 => ((entailref1_Same.f k1 t458 t461).bind fun t464 => (if t464 = true then ((entailref1_Minus.f k1 t433 t430).bind fun t465 => ((entailref1_Same.f k1 t436 t465).bind fun t468 => (if t468 = true then ((entailref1_Minus.f k1 t430 t433).bind fun t469 => ((entailref1_Same.f k1 t437 t469).bind fun t472 => (if t472 = true then ((entailref1_Of.f k1 t430).bind fun t473 => (entaillaw3_RowsTells.l3 k1 t433 l2 l3 (wrap64 (0 + 1)) t473 0)) else (none)))) else (none)))) else (none))))) else (none)))))))) else (none)) = some r := H
       have A72 := Aside0.mk A720
       clear A720
       by_cases c73 : t448 = true
       rotate_left
       ·replace c73 := Bool.eq_false_iff.mpr c73
        subst c73
        have H1 : (none) = some r := by rw [if_neg (show ¬ (false = true) by decide)] at H; exact H
        clear H
        have H := H1
        clear H1
        exact absurd H (by simp)
       subst c73
       have H1 : ((rows_Is.f k1 t430).bind fun t449 => ((entailref1_Is.f k1 t430).bind fun t450 => (if (t449 != t450) = true then (none) else ((rows_Plus.f t430 t433).bind fun t451 => ((entailref1_Plus.f k1 t430 t433).bind fun t454 => ((entailref1_Same.f k1 t451 t454).bind fun t457 => (if t457 = true then ((rows_Minus.f k1 t430 t433).bind fun t458 => ((entailref1_Minus.f k1 t430 t433).bind fun t461 => ((entailref1_Same.f k1 t458 t461).bind fun t464 => (if t464 = true then ((entailref1_Minus.f k1 t433 t430).bind fun t465 => ((entailref1_Same.f k1 t436 t465).bind fun t468 => (if t468 = true then ((entailref1_Minus.f k1 t430 t433).bind fun t469 => ((entailref1_Same.f k1 t437 t469).bind fun t472 => (if t472 = true then ((entailref1_Of.f k1 t430).bind fun t473 => (entaillaw3_RowsTells.l3 k1 t433 l2 l3 (wrap64 (0 + 1)) t473 0)) else (none)))) else (none)))) else (none))))) else (none)))))))) = some r := by rw [if_pos rfl] at H; exact H
       clear H
       have H := H1
       clear H1
       replace H := Option.bind_eq_some_iff.mp H
       obtain ⟨t449, A740, H⟩ := H
       replace H : ((entailref1_Is.f k1 t430).bind fun t450 => (if (t449 != t450) = true then (none) else ((rows_Plus.f t430 t433).bind fun t451 => ((entailref1_Plus.f k1 t430 t433).bind fun t454 => ((entailref1_Same.f k1 t451 t454).bind fun t457 => (if t457 = true then ((rows_Minus.f k1 t430 t433).bind fun t458 => ((entailref1_Minus.f k1 t430 t433).bind fun t461 => ((entailref1_Same.f k1 t458 t461).bind fun t464 => (if t464 = true then ((entailref1_Minus.f k1 t433 t430).bind fun t465 => ((entailref1_Same.f k1 t436 t465).bind fun t468 => (if t468 = true then ((entailref1_Minus.f k1 t430 t433).bind fun t469 => ((entailref1_Same.f k1 t437 t469).bind fun t472 => (if t472 = true then ((entailref1_Of.f k1 t430).bind fun t473 => (entaillaw3_RowsTells.l3 k1 t433 l2 l3 (wrap64 (0 + 1)) t473 0)) else (none)))) else (none)))) else (none))))) else (none))))))) = some r := H
       have A74 := Aside0.mk A740
       clear A740
       replace H := Option.bind_eq_some_iff.mp H
       obtain ⟨t450, A750, H⟩ := H
       replace H : (if (t449 != t450) = true then (none) else ((rows_Plus.f t430 t433).bind fun t451 => ((entailref1_Plus.f k1 t430 t433).bind fun t454 => ((entailref1_Same.f k1 t451 t454).bind fun t457 => (if t457 = true then ((rows_Minus.f k1 t430 t433).bind fun t458 => ((entailref1_Minus.f k1 t430 t433).bind fun t461 => ((entailref1_Same.f k1 t458 t461).bind fun t464 => (if t464 = true then ((entailref1_Minus.f k1 t433 t430).bind fun t465 => ((entailref1_Same.f k1 t436 t465).bind fun t468 => (if t468 = true then ((entailref1_Minus.f k1 t430 t433).bind fun t469 => ((entailref1_Same.f k1 t437 t469).bind fun t472 => (if t472 = true then ((entailref1_Of.f k1 t430).bind fun t473 => (entaillaw3_RowsTells.l3 k1 t433 l2 l3 (wrap64 (0 + 1)) t473 0)) else (none)))) else (none)))) else (none))))) else (none)))))) = some r := H
       have A75 := Aside0.mk A750
       clear A750
       by_cases c76 : (t449 != t450) = true
       ·rw [if_pos c76] at H
        exact absurd H (by simp)
       rw [if_neg c76] at H
       have c76b0 : (t449 != t450) = false := by simpa using c76
       (try (have c76b1 : decide (t449 = t450) = true := by simpa using c76))
       (try (have c76b2 : (t449 == t450) = true := by simpa using c76))
       clear c76
       replace H := Option.bind_eq_some_iff.mp H
       obtain ⟨t451, A770, H⟩ := H
       replace H : ((entailref1_Plus.f k1 t430 t433).bind fun t454 => ((entailref1_Same.f k1 t451 t454).bind fun t457 => (if t457 = true then ((rows_Minus.f k1 t430 t433).bind fun t458 => ((entailref1_Minus.f k1 t430 t433).bind fun t461 => ((entailref1_Same.f k1 t458 t461).bind fun t464 => (if t464 = true then ((entailref1_Minus.f k1 t433 t430).bind fun t465 => ((entailref1_Same.f k1 t436 t465).bind fun t468 => (if t468 = true then ((entailref1_Minus.f k1 t430 t433).bind fun t469 => ((entailref1_Same.f k1 t437 t469).bind fun t472 => (if t472 = true then ((entailref1_Of.f k1 t430).bind fun t473 => (entaillaw3_RowsTells.l3 k1 t433 l2 l3 (wrap64 (0 + 1)) t473 0)) else (none)))) else (none)))) else (none))))) else (none)))) = some r := H
       have A77 := Aside0.mk A770
       clear A770
       replace H := Option.bind_eq_some_iff.mp H
       obtain ⟨t454, A780, H⟩ := H
       replace H : ((entailref1_Same.f k1 t451 t454).bind fun t457 => (if t457 = true then ((rows_Minus.f k1 t430 t433).bind fun t458 => ((entailref1_Minus.f k1 t430 t433).bind fun t461 => ((entailref1_Same.f k1 t458 t461).bind fun t464 => (if t464 = true then ((entailref1_Minus.f k1 t433 t430).bind fun t465 => ((entailref1_Same.f k1 t436 t465).bind fun t468 => (if t468 = true then ((entailref1_Minus.f k1 t430 t433).bind fun t469 => ((entailref1_Same.f k1 t437 t469).bind fun t472 => (if t472 = true then ((entailref1_Of.f k1 t430).bind fun t473 => (entaillaw3_RowsTells.l3 k1 t433 l2 l3 (wrap64 (0 + 1)) t473 0)) else (none)))) else (none)))) else (none))))) else (none))) = some r := H
       have A78 := Aside0.mk A780
       clear A780
       replace H := Option.bind_eq_some_iff.mp H
       obtain ⟨t457, A790, H⟩ := H
       replace H : (if t457 = true then ((rows_Minus.f k1 t430 t433).bind fun t458 => ((entailref1_Minus.f k1 t430 t433).bind fun t461 => ((entailref1_Same.f k1 t458 t461).bind fun t464 => (if t464 = true then ((entailref1_Minus.f k1 t433 t430).bind fun t465 => ((entailref1_Same.f k1 t436 t465).bind fun t468 => (if t468 = true then ((entailref1_Minus.f k1 t430 t433).bind fun t469 => ((entailref1_Same.f k1 t437 t469).bind fun t472 => (if t472 = true then ((entailref1_Of.f k1 t430).bind fun t473 => (entaillaw3_RowsTells.l3 k1 t433 l2 l3 (wrap64 (0 + 1)) t473 0)) else (none)))) else (none)))) else (none))))) else (none)) = some r := H
       have A79 := Aside0.mk A790
       clear A790
       by_cases c80 : t457 = true
       rotate_left
       ·replace c80 := Bool.eq_false_iff.mpr c80
        subst c80
        have H1 : (none) = some r := by rw [if_neg (show ¬ (false = true) by decide)] at H; exact H
        clear H
        have H := H1
        clear H1
        exact absurd H (by simp)
       subst c80
       have H1 : ((rows_Minus.f k1 t430 t433).bind fun t458 => ((entailref1_Minus.f k1 t430 t433).bind fun t461 => ((entailref1_Same.f k1 t458 t461).bind fun t464 => (if t464 = true then ((entailref1_Minus.f k1 t433 t430).bind fun t465 => ((entailref1_Same.f k1 t436 t465).bind fun t468 => (if t468 = true then ((entailref1_Minus.f k1 t430 t433).bind fun t469 => ((entailref1_Same.f k1 t437 t469).bind fun t472 => (if t472 = true then ((entailref1_Of.f k1 t430).bind fun t473 => (entaillaw3_RowsTells.l3 k1 t433 l2 l3 (wrap64 (0 + 1)) t473 0)) else (none)))) else (none)))) else (none))))) = some r := by rw [if_pos rfl] at H; exact H
       clear H
       have H := H1
       clear H1
       replace H := Option.bind_eq_some_iff.mp H
       obtain ⟨t458, A810, H⟩ := H
       replace H : ((entailref1_Minus.f k1 t430 t433).bind fun t461 => ((entailref1_Same.f k1 t458 t461).bind fun t464 => (if t464 = true then ((entailref1_Minus.f k1 t433 t430).bind fun t465 => ((entailref1_Same.f k1 t436 t465).bind fun t468 => (if t468 = true then ((entailref1_Minus.f k1 t430 t433).bind fun t469 => ((entailref1_Same.f k1 t437 t469).bind fun t472 => (if t472 = true then ((entailref1_Of.f k1 t430).bind fun t473 => (entaillaw3_RowsTells.l3 k1 t433 l2 l3 (wrap64 (0 + 1)) t473 0)) else (none)))) else (none)))) else (none)))) = some r := H
       have A81 := Aside0.mk A810
       clear A810
       replace H := Option.bind_eq_some_iff.mp H
       obtain ⟨t461, A820, H⟩ := H
       replace H : ((entailref1_Same.f k1 t458 t461).bind fun t464 => (if t464 = true then ((entailref1_Minus.f k1 t433 t430).bind fun t465 => ((entailref1_Same.f k1 t436 t465).bind fun t468 => (if t468 = true then ((entailref1_Minus.f k1 t430 t433).bind fun t469 => ((entailref1_Same.f k1 t437 t469).bind fun t472 => (if t472 = true then ((entailref1_Of.f k1 t430).bind fun t473 => (entaillaw3_RowsTells.l3 k1 t433 l2 l3 (wrap64 (0 + 1)) t473 0)) else (none)))) else (none)))) else (none))) = some r := H
       have A82 := Aside0.mk A820
       clear A820
       replace H := Option.bind_eq_some_iff.mp H
       obtain ⟨t464, A830, H⟩ := H
       replace H : (if t464 = true then ((entailref1_Minus.f k1 t433 t430).bind fun t465 => ((entailref1_Same.f k1 t436 t465).bind fun t468 => (if t468 = true then ((entailref1_Minus.f k1 t430 t433).bind fun t469 => ((entailref1_Same.f k1 t437 t469).bind fun t472 => (if t472 = true then ((entailref1_Of.f k1 t430).bind fun t473 => (entaillaw3_RowsTells.l3 k1 t433 l2 l3 (wrap64 (0 + 1)) t473 0)) else (none)))) else (none)))) else (none)) = some r := H
       have A83 := Aside0.mk A830
       clear A830
       by_cases c84 : t464 = true
       rotate_left
       ·replace c84 := Bool.eq_false_iff.mpr c84
        subst c84
        have H1 : (none) = some r := by rw [if_neg (show ¬ (false = true) by decide)] at H; exact H
        clear H
        have H := H1
        clear H1
        exact absurd H (by simp)
       subst c84
       have H1 : ((entailref1_Minus.f k1 t433 t430).bind fun t465 => ((entailref1_Same.f k1 t436 t465).bind fun t468 => (if t468 = true then ((entailref1_Minus.f k1 t430 t433).bind fun t469 => ((entailref1_Same.f k1 t437 t469).bind fun t472 => (if t472 = true then ((entailref1_Of.f k1 t430).bind fun t473 => (entaillaw3_RowsTells.l3 k1 t433 l2 l3 (wrap64 (0 + 1)) t473 0)) else (none)))) else (none)))) = some r := by rw [if_pos rfl] at H; exact H
       clear H
       have H := H1
       clear H1
       replace H := Option.bind_eq_some_iff.mp H
       obtain ⟨t465, A850, H⟩ := H
       replace H : ((entailref1_Same.f k1 t436 t465).bind fun t468 => (if t468 = true then ((entailref1_Minus.f k1 t430 t433).bind fun t469 => ((entailref1_Same.f k1 t437 t469).bind fun t472 => (if t472 = true then ((entailref1_Of.f k1 t430).bind fun t473 => (entaillaw3_RowsTells.l3 k1 t433 l2 l3 (wrap64 (0 + 1)) t473 0)) else (none)))) else (none))) = some r := H
       have A85 := Aside0.mk A850
       clear A850
       replace H := Option.bind_eq_some_iff.mp H
       obtain ⟨t468, A860, H⟩ := H
       replace H : (if t468 = true then ((entailref1_Minus.f k1 t430 t433).bind fun t469 => ((entailref1_Same.f k1 t437 t469).bind fun t472 => (if t472 = true then ((entailref1_Of.f k1 t430).bind fun t473 => (entaillaw3_RowsTells.l3 k1 t433 l2 l3 (wrap64 (0 + 1)) t473 0)) else (none)))) else (none)) = some r := H
       have A86 := Aside0.mk A860
       clear A860
       by_cases c87 : t468 = true
       rotate_left
       ·replace c87 := Bool.eq_false_iff.mpr c87
        subst c87
        have H1 : (none) = some r := by rw [if_neg (show ¬ (false = true) by decide)] at H; exact H
        clear H
        have H := H1
        clear H1
        exact absurd H (by simp)
       subst c87
       have H1 : ((entailref1_Minus.f k1 t430 t433).bind fun t469 => ((entailref1_Same.f k1 t437 t469).bind fun t472 => (if t472 = true then ((entailref1_Of.f k1 t430).bind fun t473 => (entaillaw3_RowsTells.l3 k1 t433 l2 l3 (wrap64 (0 + 1)) t473 0)) else (none)))) = some r := by rw [if_pos rfl] at H; exact H
       clear H
       have H := H1
       clear H1
       replace H := Option.bind_eq_some_iff.mp H
       obtain ⟨t469, A880, H⟩ := H
       replace H : ((entailref1_Same.f k1 t437 t469).bind fun t472 => (if t472 = true then ((entailref1_Of.f k1 t430).bind fun t473 => (entaillaw3_RowsTells.l3 k1 t433 l2 l3 (wrap64 (0 + 1)) t473 0)) else (none))) = some r := H
       have A88 := Aside0.mk A880
       clear A880
       replace H := Option.bind_eq_some_iff.mp H
       obtain ⟨t472, A890, H⟩ := H
       replace H : (if t472 = true then ((entailref1_Of.f k1 t430).bind fun t473 => (entaillaw3_RowsTells.l3 k1 t433 l2 l3 (wrap64 (0 + 1)) t473 0)) else (none)) = some r := H
       have A89 := Aside0.mk A890
       clear A890
       by_cases c90 : t472 = true
       rotate_left
       ·replace c90 := Bool.eq_false_iff.mpr c90
        subst c90
        have H1 : (none) = some r := by rw [if_neg (show ¬ (false = true) by decide)] at H; exact H
        clear H
        have H := H1
        clear H1
        exact absurd H (by simp)
       subst c90
       have H1 : ((entailref1_Of.f k1 t430).bind fun t473 => (entaillaw3_RowsTells.l3 k1 t433 l2 l3 (wrap64 (0 + 1)) t473 0)) = some r := by rw [if_pos rfl] at H; exact H
       clear H
       have H := H1
       clear H1
       replace H := Option.bind_eq_some_iff.mp H
       obtain ⟨t473, A910, H⟩ := H
       replace H : (entaillaw3_RowsTells.l3 k1 t433 l2 l3 (wrap64 (0 + 1)) t473 0) = some r := H
       have A91 := Aside0.mk A910
       clear A910
       have H' := Aside0.mk H
       clear H
       try go_wp2_with (first | ((with_reducible refine gate_callee (f := 11) rfl ?_); refine goesL_ (some 104) rfl rfl Try.func11 (by kernel_rfl) rfl #[.slice A2 l2.length c2] rfl (by (try simp only [List.map_toArray, List.map_cons, List.map_nil]); first | done | rfl | (simp only [List.length_drop, List.length_take]; rfl)) ?_; (with_reducible refine (entaillaw2_Tames.calls k1 _ _ l2 t430 _ ?side1 ?side2 A66.out).mono ?_); (case side1 => repeat (first | exact (Kd.C_below HR2.out HB.out) | (with_reducible refine Kd.C_alloc ?_ _) | (with_reducible refine Kd.C_drewN ?_ _) | (with_reducible refine Kd.C_drew ?_))); (case side2 => exact HC2.out); rintro e w92 ⟨v431, rfl, ho0, hb⟩; refine ⟨_, rfl, ?_⟩; have n0_ := Aside0.mk (Kd.R_elder' (by (with_reducible repeat (first | apply Kd.R_alloc | apply Kd.R_drewN | apply Kd.R_drew)); exact HO_12.out) (Kd.R_base ho0) hb); have n1_ := Aside0.mk (Kd.R_lower (Kd.R_new' ho0 (Kd.R_lt (by (with_reducible repeat (first | apply Kd.R_alloc | apply Kd.R_drewN | apply Kd.R_drew)); exact HO_12.out))) (below_size (by repeat (first | (with_reducible first | exact HB.out | apply below_alloc | apply pw_below_drewN | apply below_drew1) | exact HB.out)))); have n2_ := Aside0.mk (below_step (by repeat (first | (with_reducible first | exact HB.out | apply below_alloc | apply pw_below_drewN | apply below_drew1) | exact HB.out)) hb); clear HO_12; clear HB; have HO_12 := n0_; have HO432 := n1_; have HB := n2_; clear n0_ n1_ n2_; (try clear hb); (try clear hb2); (try clear hk); (try clear hi); (try clear ho0)) | ((with_reducible refine gate_callee (f := 11) rfl ?_); refine goesL_ (some 106) rfl rfl Try.func11 (by kernel_rfl) rfl #[.slice A3 l3.length c3] rfl (by (try simp only [List.map_toArray, List.map_cons, List.map_nil]); first | done | rfl | (simp only [List.length_drop, List.length_take]; rfl)) ?_; (with_reducible refine (entaillaw2_Tames.calls k1 _ _ l3 t433 _ ?side1 ?side2 A67.out).mono ?_); (case side1 => repeat (first | exact (Kd.C_below HR3.out HB.out) | (with_reducible refine Kd.C_alloc ?_ _) | (with_reducible refine Kd.C_drewN ?_ _) | (with_reducible refine Kd.C_drew ?_))); (case side2 => exact HC3.out); rintro e w93 ⟨v434, rfl, ho0, hb⟩; refine ⟨_, rfl, ?_⟩; have n0_ := Aside0.mk (Kd.R_elder' (by (with_reducible repeat (first | apply Kd.R_alloc | apply Kd.R_drewN | apply Kd.R_drew)); exact HO_12.out) (Kd.R_base ho0) hb); have n1_ := Aside0.mk (Kd.R_elder' (by (with_reducible repeat (first | apply Kd.R_alloc | apply Kd.R_drewN | apply Kd.R_drew)); exact HO432.out) (Kd.R_base ho0) hb); have n2_ := Aside0.mk (Kd.R_lower (Kd.R_new' (Kd.R_new' ho0 (Kd.R_lt (by (with_reducible repeat (first | apply Kd.R_alloc | apply Kd.R_drewN | apply Kd.R_drew)); exact HO_12.out))) (Kd.R_lt (by (with_reducible repeat (first | apply Kd.R_alloc | apply Kd.R_drewN | apply Kd.R_drew)); exact HO432.out))) (below_size (by repeat (first | (with_reducible first | exact HB.out | apply below_alloc | apply pw_below_drewN | apply below_drew1) | exact HB.out)))); have n3_ := Aside0.mk (below_step (by repeat (first | (with_reducible first | exact HB.out | apply below_alloc | apply pw_below_drewN | apply below_drew1) | exact HB.out)) hb); clear HO_12; clear HO432; clear HB; have HO_12 := n0_; have HO432 := n1_; have HO435 := n2_; have HB := n3_; clear n0_ n1_ n2_ n3_; (try clear hb); (try clear hb2); (try clear hk); (try clear hi); (try clear ho0)))
       rw [rounds_succ]
       obtain ⟨Ao94, co94, eo94⟩ := Kd.R_slice HO432.out
       subst eo94
       obtain ⟨Ao95, co95, eo95⟩ := Kd.R_slice HO435.out
       subst eo95
       try go_wp2_with (first | ((with_reducible refine gate_callee (f := 17) rfl ?_); refine goesL_ (some 30) rfl rfl Try.func17 (by kernel_rfl) rfl #[.slice Ao94 t430.length co94, .slice Ao95 t433.length co95] rfl (by (try simp only [List.map_toArray, List.map_cons, List.map_nil]); first | done | rfl | (simp only [List.length_drop, List.length_take]; rfl)) ?_; (with_reducible refine (rows_Diff.calls k1 _ _ t430 _ _ t433 t436 t437 _ ?side1 ?side2 ?side3 ?side4 A69.out).mono ?_); (case side1 => repeat (first | exact (Kd.R_reads' HO432.out).2.2 | (with_reducible refine Kd.C_alloc ?_ _) | (with_reducible refine Kd.C_drewN ?_ _) | (with_reducible refine Kd.C_drew ?_))); (case side2 => exact (Kd.R_reads' HO432.out).2.1); (case side3 => repeat (first | exact (Kd.R_reads' HO435.out).2.2 | (with_reducible refine Kd.C_alloc ?_ _) | (with_reducible refine Kd.C_drewN ?_ _) | (with_reducible refine Kd.C_drew ?_))); (case side4 => exact (Kd.R_reads' HO435.out).2.1); rintro e w96 ⟨v438, v440, rfl, ho0, ho1, hb⟩; refine ⟨_, rfl, ?_⟩; have n0_ := Aside0.mk (Kd.R_mono (Kd.R_told (Kd.R_told (Kd.R_old (by (with_reducible repeat (first | apply Kd.R_alloc | apply Kd.R_drewN | apply Kd.R_drew)); exact HO_12.out) hb) (Kd.R_base ho0)) (Kd.R_base ho1)) (fun _ h_ => h_.1)); have n1_ := Aside0.mk (Kd.R_mono (Kd.R_told (Kd.R_told (Kd.R_old (by (with_reducible repeat (first | apply Kd.R_alloc | apply Kd.R_drewN | apply Kd.R_drew)); exact HO432.out) hb) (Kd.R_base ho0)) (Kd.R_base ho1)) (fun _ h_ => h_.1)); have n2_ := Aside0.mk (Kd.R_mono (Kd.R_told (Kd.R_told (Kd.R_old (by (with_reducible repeat (first | apply Kd.R_alloc | apply Kd.R_drewN | apply Kd.R_drew)); exact HO435.out) hb) (Kd.R_base ho0)) (Kd.R_base ho1)) (fun _ h_ => h_.1)); have n3_ := Aside0.mk (Kd.R_lower (Kd.R_new' (Kd.R_new' (Kd.R_new' ho0 (Kd.R_lt (by (with_reducible repeat (first | apply Kd.R_alloc | apply Kd.R_drewN | apply Kd.R_drew)); exact HO_12.out))) (Kd.R_lt (by (with_reducible repeat (first | apply Kd.R_alloc | apply Kd.R_drewN | apply Kd.R_drew)); exact HO432.out))) (Kd.R_lt (by (with_reducible repeat (first | apply Kd.R_alloc | apply Kd.R_drewN | apply Kd.R_drew)); exact HO435.out))) (below_size (by repeat (first | (with_reducible first | exact HB.out | apply below_alloc | apply pw_below_drewN | apply below_drew1) | exact HB.out)))); have n4_ := Aside0.mk (Kd.R_lower (Kd.R_new' (Kd.R_new' (Kd.R_new' ho1 (Kd.R_lt (by (with_reducible repeat (first | apply Kd.R_alloc | apply Kd.R_drewN | apply Kd.R_drew)); exact HO_12.out))) (Kd.R_lt (by (with_reducible repeat (first | apply Kd.R_alloc | apply Kd.R_drewN | apply Kd.R_drew)); exact HO432.out))) (Kd.R_lt (by (with_reducible repeat (first | apply Kd.R_alloc | apply Kd.R_drewN | apply Kd.R_drew)); exact HO435.out))) (below_size (by repeat (first | (with_reducible first | exact HB.out | apply below_alloc | apply pw_below_drewN | apply below_drew1) | exact HB.out)))); have n5_ := Aside0.mk (below_step (by repeat (first | (with_reducible first | exact HB.out | apply below_alloc | apply pw_below_drewN | apply below_drew1) | exact HB.out)) hb); clear HO_12; clear HO432; clear HO435; clear HB; have HO_12 := n0_; have HO432 := n1_; have HO435 := n2_; have HO439 := n3_; have HO441 := n4_; have HB := n5_; clear n0_ n1_ n2_ n3_ n4_ n5_; (try clear hb); (try clear hb2); (try clear hk); (try clear hi); (try clear ho0); (try clear ho1)) | ((with_reducible refine gate_callee (f := 12) rfl ?_); refine goesL_ (some 34) rfl rfl Try.func12 (by kernel_rfl) rfl #[.slice Ao94 t430.length co94] rfl (by (try simp only [List.map_toArray, List.map_cons, List.map_nil]); first | done | rfl | (simp only [List.length_drop, List.length_take]; rfl)) ?_; (with_reducible refine (rows_Of.calls _ _ t430 t442 _ ?side1 ?side2 A70.out).mono ?_); (case side1 => repeat (first | exact (Kd.R_reads' HO432.out).2.2 | (with_reducible refine Kd.C_alloc ?_ _) | (with_reducible refine Kd.C_drewN ?_ _) | (with_reducible refine Kd.C_drew ?_))); (case side2 => exact (Kd.R_reads' HO432.out).2.1); rintro e w97 ⟨v443, rfl, ho0, hb⟩; refine ⟨_, rfl, ?_⟩; have n0_ := Aside0.mk (Kd.R_elder' (by (with_reducible repeat (first | apply Kd.R_alloc | apply Kd.R_drewN | apply Kd.R_drew)); exact HO_12.out) (Kd.R_base ho0) hb); have n1_ := Aside0.mk (Kd.R_elder' (by (with_reducible repeat (first | apply Kd.R_alloc | apply Kd.R_drewN | apply Kd.R_drew)); exact HO432.out) (Kd.R_base ho0) hb); have n2_ := Aside0.mk (Kd.R_elder' (by (with_reducible repeat (first | apply Kd.R_alloc | apply Kd.R_drewN | apply Kd.R_drew)); exact HO435.out) (Kd.R_base ho0) hb); have n3_ := Aside0.mk (Kd.R_elder' (by (with_reducible repeat (first | apply Kd.R_alloc | apply Kd.R_drewN | apply Kd.R_drew)); exact HO439.out) (Kd.R_base ho0) hb); have n4_ := Aside0.mk (Kd.R_elder' (by (with_reducible repeat (first | apply Kd.R_alloc | apply Kd.R_drewN | apply Kd.R_drew)); exact HO441.out) (Kd.R_base ho0) hb); have n5_ := Aside0.mk (Kd.R_lower (Kd.R_new' (Kd.R_new' (Kd.R_new' (Kd.R_new' (Kd.R_new' ho0 (Kd.R_lt (by (with_reducible repeat (first | apply Kd.R_alloc | apply Kd.R_drewN | apply Kd.R_drew)); exact HO_12.out))) (Kd.R_lt (by (with_reducible repeat (first | apply Kd.R_alloc | apply Kd.R_drewN | apply Kd.R_drew)); exact HO432.out))) (Kd.R_lt (by (with_reducible repeat (first | apply Kd.R_alloc | apply Kd.R_drewN | apply Kd.R_drew)); exact HO435.out))) (Kd.R_lt (by (with_reducible repeat (first | apply Kd.R_alloc | apply Kd.R_drewN | apply Kd.R_drew)); exact HO439.out))) (Kd.R_lt (by (with_reducible repeat (first | apply Kd.R_alloc | apply Kd.R_drewN | apply Kd.R_drew)); exact HO441.out))) (below_size (by repeat (first | (with_reducible first | exact HB.out | apply below_alloc | apply pw_below_drewN | apply below_drew1) | exact HB.out)))); have n6_ := Aside0.mk (below_step (by repeat (first | (with_reducible first | exact HB.out | apply below_alloc | apply pw_below_drewN | apply below_drew1) | exact HB.out)) hb); clear HO_12; clear HO432; clear HO435; clear HO439; clear HO441; clear HB; have HO_12 := n0_; have HO432 := n1_; have HO435 := n2_; have HO439 := n3_; have HO441 := n4_; have HO444 := n5_; have HB := n6_; clear n0_ n1_ n2_ n3_ n4_ n5_ n6_; (try clear hb); (try clear hb2); (try clear hk); (try clear hi); (try clear ho0)) | ((with_reducible refine gate_callee (f := 18) rfl ?_); refine goesL_ (some 36) rfl rfl Try.func18 (by kernel_rfl) rfl #[.slice Ao94 t430.length co94] rfl (by (try simp only [List.map_toArray, List.map_cons, List.map_nil]); first | done | rfl | (simp only [List.length_drop, List.length_take]; rfl)) ?_; (with_reducible refine (entailref1_Of.calls k1 _ _ t430 t445 _ ?side1 ?side2 A71.out).mono ?_); (case side1 => repeat (first | exact (Kd.R_reads' HO432.out).2.2 | (with_reducible refine Kd.C_alloc ?_ _) | (with_reducible refine Kd.C_drewN ?_ _) | (with_reducible refine Kd.C_drew ?_))); (case side2 => exact (Kd.R_reads' HO432.out).2.1); rintro e w98 ⟨v446, rfl, ho0, hb⟩; refine ⟨_, rfl, ?_⟩; have n0_ := Aside0.mk (Kd.R_elder' (by (with_reducible repeat (first | apply Kd.R_alloc | apply Kd.R_drewN | apply Kd.R_drew)); exact HO_12.out) (Kd.R_base ho0) hb); have n1_ := Aside0.mk (Kd.R_elder' (by (with_reducible repeat (first | apply Kd.R_alloc | apply Kd.R_drewN | apply Kd.R_drew)); exact HO432.out) (Kd.R_base ho0) hb); have n2_ := Aside0.mk (Kd.R_elder' (by (with_reducible repeat (first | apply Kd.R_alloc | apply Kd.R_drewN | apply Kd.R_drew)); exact HO435.out) (Kd.R_base ho0) hb); have n3_ := Aside0.mk (Kd.R_elder' (by (with_reducible repeat (first | apply Kd.R_alloc | apply Kd.R_drewN | apply Kd.R_drew)); exact HO439.out) (Kd.R_base ho0) hb); have n4_ := Aside0.mk (Kd.R_elder' (by (with_reducible repeat (first | apply Kd.R_alloc | apply Kd.R_drewN | apply Kd.R_drew)); exact HO441.out) (Kd.R_base ho0) hb); have n5_ := Aside0.mk (Kd.R_elder' (by (with_reducible repeat (first | apply Kd.R_alloc | apply Kd.R_drewN | apply Kd.R_drew)); exact HO444.out) (Kd.R_base ho0) hb); have n6_ := Aside0.mk (Kd.R_lower (Kd.R_new' (Kd.R_new' (Kd.R_new' (Kd.R_new' (Kd.R_new' (Kd.R_new' ho0 (Kd.R_lt (by (with_reducible repeat (first | apply Kd.R_alloc | apply Kd.R_drewN | apply Kd.R_drew)); exact HO_12.out))) (Kd.R_lt (by (with_reducible repeat (first | apply Kd.R_alloc | apply Kd.R_drewN | apply Kd.R_drew)); exact HO432.out))) (Kd.R_lt (by (with_reducible repeat (first | apply Kd.R_alloc | apply Kd.R_drewN | apply Kd.R_drew)); exact HO435.out))) (Kd.R_lt (by (with_reducible repeat (first | apply Kd.R_alloc | apply Kd.R_drewN | apply Kd.R_drew)); exact HO439.out))) (Kd.R_lt (by (with_reducible repeat (first | apply Kd.R_alloc | apply Kd.R_drewN | apply Kd.R_drew)); exact HO441.out))) (Kd.R_lt (by (with_reducible repeat (first | apply Kd.R_alloc | apply Kd.R_drewN | apply Kd.R_drew)); exact HO444.out))) (below_size (by repeat (first | (with_reducible first | exact HB.out | apply below_alloc | apply pw_below_drewN | apply below_drew1) | exact HB.out)))); have n7_ := Aside0.mk (below_step (by repeat (first | (with_reducible first | exact HB.out | apply below_alloc | apply pw_below_drewN | apply below_drew1) | exact HB.out)) hb); clear HO_12; clear HO432; clear HO435; clear HO439; clear HO441; clear HO444; clear HB; have HO_12 := n0_; have HO432 := n1_; have HO435 := n2_; have HO439 := n3_; have HO441 := n4_; have HO444 := n5_; have HO447 := n6_; have HB := n7_; clear n0_ n1_ n2_ n3_ n4_ n5_ n6_ n7_; (try clear hb); (try clear hb2); (try clear hk); (try clear hi); (try clear ho0); obtain ⟨Ao99, co99, eo99⟩ := Kd.R_slice HO444.out; subst eo99; obtain ⟨Ao100, co100, eo100⟩ := Kd.R_slice HO447.out; subst eo100) | ((with_reducible refine gate_callee (f := 14) rfl ?_); refine goesL_ (some 37) rfl rfl Try.func14 (by kernel_rfl) rfl #[.slice Ao99 t442.length co99, .slice Ao100 t445.length co100] rfl (by (try simp only [List.map_toArray, List.map_cons, List.map_nil]); first | done | rfl | (simp only [List.length_drop, List.length_take]; rfl)) ?_; (with_reducible refine (entailref1_Same.calls k1 _ _ t442 _ _ t445 true _ ?side1 ?side2 ?side3 ?side4 A72.out).mono ?_); (case side1 => repeat (first | exact (Kd.R_reads' HO444.out).2.2 | (with_reducible refine Kd.C_alloc ?_ _) | (with_reducible refine Kd.C_drewN ?_ _) | (with_reducible refine Kd.C_drew ?_))); (case side2 => exact (Kd.R_reads' HO444.out).2.1); (case side3 => repeat (first | exact (Kd.R_reads' HO447.out).2.2 | (with_reducible refine Kd.C_alloc ?_ _) | (with_reducible refine Kd.C_drewN ?_ _) | (with_reducible refine Kd.C_drew ?_))); (case side4 => exact (Kd.R_reads' HO447.out).2.1); rintro e w' ⟨rfl, ⟨nd, rfl⟩⟩; refine ⟨_, rfl, ?_⟩) | (go_at_call 19; (with_reducible refine (rows_Is.calls k1 _ _ t430 t449 _ ?side1 ?side2 A74.out).mono ?_); (case side1 => repeat (first | exact (Kd.R_reads' HO432.out).2.2 | (with_reducible refine Kd.C_alloc ?_ _) | (with_reducible refine Kd.C_drewN ?_ _) | (with_reducible refine Kd.C_drew ?_))); (case side2 => exact (Kd.R_reads' HO432.out).2.1); rintro e w101 ⟨rfl, hb⟩; have n0_ := Aside0.mk (Kd.R_below (by (with_reducible repeat (first | apply Kd.R_alloc | apply Kd.R_drewN | apply Kd.R_drew)); exact HO_12.out) hb); have n1_ := Aside0.mk (Kd.R_below (by (with_reducible repeat (first | apply Kd.R_alloc | apply Kd.R_drewN | apply Kd.R_drew)); exact HO432.out) hb); have n2_ := Aside0.mk (Kd.R_below (by (with_reducible repeat (first | apply Kd.R_alloc | apply Kd.R_drewN | apply Kd.R_drew)); exact HO435.out) hb); have n3_ := Aside0.mk (Kd.R_below (by (with_reducible repeat (first | apply Kd.R_alloc | apply Kd.R_drewN | apply Kd.R_drew)); exact HO439.out) hb); have n4_ := Aside0.mk (Kd.R_below (by (with_reducible repeat (first | apply Kd.R_alloc | apply Kd.R_drewN | apply Kd.R_drew)); exact HO441.out) hb); have n5_ := Aside0.mk (Kd.R_below (by (with_reducible repeat (first | apply Kd.R_alloc | apply Kd.R_drewN | apply Kd.R_drew)); exact HO444.out) hb); have n6_ := Aside0.mk (Kd.R_below (by (with_reducible repeat (first | apply Kd.R_alloc | apply Kd.R_drewN | apply Kd.R_drew)); exact HO447.out) hb); have n7_ := Aside0.mk (below_step (by repeat (first | (with_reducible first | exact HB.out | apply below_alloc | apply pw_below_drewN | apply below_drew1) | exact HB.out)) hb); clear HO_12; clear HO432; clear HO435; clear HO439; clear HO441; clear HO444; clear HO447; clear HB; have HO_12 := n0_; have HO432 := n1_; have HO435 := n2_; have HO439 := n3_; have HO441 := n4_; have HO444 := n5_; have HO447 := n6_; have HB := n7_; clear n0_ n1_ n2_ n3_ n4_ n5_ n6_ n7_; (try clear hb); (try clear hb2); (try clear hk); (try clear hi)) | (go_at_call 20; (with_reducible refine (entailref1_Is.calls k1 _ _ t430 t450 _ ?side1 ?side2 A75.out).mono ?_); (case side1 => repeat (first | exact (Kd.R_reads' HO432.out).2.2 | (with_reducible refine Kd.C_alloc ?_ _) | (with_reducible refine Kd.C_drewN ?_ _) | (with_reducible refine Kd.C_drew ?_))); (case side2 => exact (Kd.R_reads' HO432.out).2.1); rintro e w102 ⟨rfl, hb⟩; have n0_ := Aside0.mk (Kd.R_below (by (with_reducible repeat (first | apply Kd.R_alloc | apply Kd.R_drewN | apply Kd.R_drew)); exact HO_12.out) hb); have n1_ := Aside0.mk (Kd.R_below (by (with_reducible repeat (first | apply Kd.R_alloc | apply Kd.R_drewN | apply Kd.R_drew)); exact HO432.out) hb); have n2_ := Aside0.mk (Kd.R_below (by (with_reducible repeat (first | apply Kd.R_alloc | apply Kd.R_drewN | apply Kd.R_drew)); exact HO435.out) hb); have n3_ := Aside0.mk (Kd.R_below (by (with_reducible repeat (first | apply Kd.R_alloc | apply Kd.R_drewN | apply Kd.R_drew)); exact HO439.out) hb); have n4_ := Aside0.mk (Kd.R_below (by (with_reducible repeat (first | apply Kd.R_alloc | apply Kd.R_drewN | apply Kd.R_drew)); exact HO441.out) hb); have n5_ := Aside0.mk (Kd.R_below (by (with_reducible repeat (first | apply Kd.R_alloc | apply Kd.R_drewN | apply Kd.R_drew)); exact HO444.out) hb); have n6_ := Aside0.mk (Kd.R_below (by (with_reducible repeat (first | apply Kd.R_alloc | apply Kd.R_drewN | apply Kd.R_drew)); exact HO447.out) hb); have n7_ := Aside0.mk (below_step (by repeat (first | (with_reducible first | exact HB.out | apply below_alloc | apply pw_below_drewN | apply below_drew1) | exact HB.out)) hb); clear HO_12; clear HO432; clear HO435; clear HO439; clear HO441; clear HO444; clear HO447; clear HB; have HO_12 := n0_; have HO432 := n1_; have HO435 := n2_; have HO439 := n3_; have HO441 := n4_; have HO444 := n5_; have HO447 := n6_; have HB := n7_; clear n0_ n1_ n2_ n3_ n4_ n5_ n6_ n7_; (try clear hb); (try clear hb2); (try clear hk); (try clear hi)) | (go_at_call 15; (with_reducible refine (rows_Plus.calls _ _ t430 _ _ t433 t451 _ ?side1 ?side2 ?side3 ?side4 A77.out).mono ?_); (case side1 => repeat (first | exact (Kd.R_reads' HO432.out).2.2 | (with_reducible refine Kd.C_alloc ?_ _) | (with_reducible refine Kd.C_drewN ?_ _) | (with_reducible refine Kd.C_drew ?_))); (case side2 => exact (Kd.R_reads' HO432.out).2.1); (case side3 => repeat (first | exact (Kd.R_reads' HO435.out).2.2 | (with_reducible refine Kd.C_alloc ?_ _) | (with_reducible refine Kd.C_drewN ?_ _) | (with_reducible refine Kd.C_drew ?_))); (case side4 => exact (Kd.R_reads' HO435.out).2.1); rintro e w103 ⟨v452, rfl, ho0, hb⟩; have n0_ := Aside0.mk (Kd.R_elder' (by (with_reducible repeat (first | apply Kd.R_alloc | apply Kd.R_drewN | apply Kd.R_drew)); exact HO_12.out) (Kd.R_base ho0) hb); have n1_ := Aside0.mk (Kd.R_elder' (by (with_reducible repeat (first | apply Kd.R_alloc | apply Kd.R_drewN | apply Kd.R_drew)); exact HO432.out) (Kd.R_base ho0) hb); have n2_ := Aside0.mk (Kd.R_elder' (by (with_reducible repeat (first | apply Kd.R_alloc | apply Kd.R_drewN | apply Kd.R_drew)); exact HO435.out) (Kd.R_base ho0) hb); have n3_ := Aside0.mk (Kd.R_elder' (by (with_reducible repeat (first | apply Kd.R_alloc | apply Kd.R_drewN | apply Kd.R_drew)); exact HO439.out) (Kd.R_base ho0) hb); have n4_ := Aside0.mk (Kd.R_elder' (by (with_reducible repeat (first | apply Kd.R_alloc | apply Kd.R_drewN | apply Kd.R_drew)); exact HO441.out) (Kd.R_base ho0) hb); have n5_ := Aside0.mk (Kd.R_elder' (by (with_reducible repeat (first | apply Kd.R_alloc | apply Kd.R_drewN | apply Kd.R_drew)); exact HO444.out) (Kd.R_base ho0) hb); have n6_ := Aside0.mk (Kd.R_elder' (by (with_reducible repeat (first | apply Kd.R_alloc | apply Kd.R_drewN | apply Kd.R_drew)); exact HO447.out) (Kd.R_base ho0) hb); have n7_ := Aside0.mk (Kd.R_lower (Kd.R_new' (Kd.R_new' (Kd.R_new' (Kd.R_new' (Kd.R_new' (Kd.R_new' (Kd.R_new' ho0 (Kd.R_lt (by (with_reducible repeat (first | apply Kd.R_alloc | apply Kd.R_drewN | apply Kd.R_drew)); exact HO_12.out))) (Kd.R_lt (by (with_reducible repeat (first | apply Kd.R_alloc | apply Kd.R_drewN | apply Kd.R_drew)); exact HO432.out))) (Kd.R_lt (by (with_reducible repeat (first | apply Kd.R_alloc | apply Kd.R_drewN | apply Kd.R_drew)); exact HO435.out))) (Kd.R_lt (by (with_reducible repeat (first | apply Kd.R_alloc | apply Kd.R_drewN | apply Kd.R_drew)); exact HO439.out))) (Kd.R_lt (by (with_reducible repeat (first | apply Kd.R_alloc | apply Kd.R_drewN | apply Kd.R_drew)); exact HO441.out))) (Kd.R_lt (by (with_reducible repeat (first | apply Kd.R_alloc | apply Kd.R_drewN | apply Kd.R_drew)); exact HO444.out))) (Kd.R_lt (by (with_reducible repeat (first | apply Kd.R_alloc | apply Kd.R_drewN | apply Kd.R_drew)); exact HO447.out))) (below_size (by repeat (first | (with_reducible first | exact HB.out | apply below_alloc | apply pw_below_drewN | apply below_drew1) | exact HB.out)))); have n8_ := Aside0.mk (below_step (by repeat (first | (with_reducible first | exact HB.out | apply below_alloc | apply pw_below_drewN | apply below_drew1) | exact HB.out)) hb); clear HO_12; clear HO432; clear HO435; clear HO439; clear HO441; clear HO444; clear HO447; clear HB; have HO_12 := n0_; have HO432 := n1_; have HO435 := n2_; have HO439 := n3_; have HO441 := n4_; have HO444 := n5_; have HO447 := n6_; have HO453 := n7_; have HB := n8_; clear n0_ n1_ n2_ n3_ n4_ n5_ n6_ n7_ n8_; (try clear hb); (try clear hb2); (try clear hk); (try clear hi); (try clear ho0)) | (go_at_call 21; (with_reducible refine (entailref1_Plus.calls k1 _ _ t430 _ _ t433 t454 _ ?side1 ?side2 ?side3 ?side4 A78.out).mono ?_); (case side1 => repeat (first | exact (Kd.R_reads' HO432.out).2.2 | (with_reducible refine Kd.C_alloc ?_ _) | (with_reducible refine Kd.C_drewN ?_ _) | (with_reducible refine Kd.C_drew ?_))); (case side2 => exact (Kd.R_reads' HO432.out).2.1); (case side3 => repeat (first | exact (Kd.R_reads' HO435.out).2.2 | (with_reducible refine Kd.C_alloc ?_ _) | (with_reducible refine Kd.C_drewN ?_ _) | (with_reducible refine Kd.C_drew ?_))); (case side4 => exact (Kd.R_reads' HO435.out).2.1); rintro e w104 ⟨v455, rfl, ho0, hb⟩; have n0_ := Aside0.mk (Kd.R_elder' (by (with_reducible repeat (first | apply Kd.R_alloc | apply Kd.R_drewN | apply Kd.R_drew)); exact HO_12.out) (Kd.R_base ho0) hb); have n1_ := Aside0.mk (Kd.R_elder' (by (with_reducible repeat (first | apply Kd.R_alloc | apply Kd.R_drewN | apply Kd.R_drew)); exact HO432.out) (Kd.R_base ho0) hb); have n2_ := Aside0.mk (Kd.R_elder' (by (with_reducible repeat (first | apply Kd.R_alloc | apply Kd.R_drewN | apply Kd.R_drew)); exact HO435.out) (Kd.R_base ho0) hb); have n3_ := Aside0.mk (Kd.R_elder' (by (with_reducible repeat (first | apply Kd.R_alloc | apply Kd.R_drewN | apply Kd.R_drew)); exact HO439.out) (Kd.R_base ho0) hb); have n4_ := Aside0.mk (Kd.R_elder' (by (with_reducible repeat (first | apply Kd.R_alloc | apply Kd.R_drewN | apply Kd.R_drew)); exact HO441.out) (Kd.R_base ho0) hb); have n5_ := Aside0.mk (Kd.R_elder' (by (with_reducible repeat (first | apply Kd.R_alloc | apply Kd.R_drewN | apply Kd.R_drew)); exact HO444.out) (Kd.R_base ho0) hb); have n6_ := Aside0.mk (Kd.R_elder' (by (with_reducible repeat (first | apply Kd.R_alloc | apply Kd.R_drewN | apply Kd.R_drew)); exact HO447.out) (Kd.R_base ho0) hb); have n7_ := Aside0.mk (Kd.R_elder' (by (with_reducible repeat (first | apply Kd.R_alloc | apply Kd.R_drewN | apply Kd.R_drew)); exact HO453.out) (Kd.R_base ho0) hb); have n8_ := Aside0.mk (Kd.R_lower (Kd.R_new' (Kd.R_new' (Kd.R_new' (Kd.R_new' (Kd.R_new' (Kd.R_new' (Kd.R_new' (Kd.R_new' ho0 (Kd.R_lt (by (with_reducible repeat (first | apply Kd.R_alloc | apply Kd.R_drewN | apply Kd.R_drew)); exact HO_12.out))) (Kd.R_lt (by (with_reducible repeat (first | apply Kd.R_alloc | apply Kd.R_drewN | apply Kd.R_drew)); exact HO432.out))) (Kd.R_lt (by (with_reducible repeat (first | apply Kd.R_alloc | apply Kd.R_drewN | apply Kd.R_drew)); exact HO435.out))) (Kd.R_lt (by (with_reducible repeat (first | apply Kd.R_alloc | apply Kd.R_drewN | apply Kd.R_drew)); exact HO439.out))) (Kd.R_lt (by (with_reducible repeat (first | apply Kd.R_alloc | apply Kd.R_drewN | apply Kd.R_drew)); exact HO441.out))) (Kd.R_lt (by (with_reducible repeat (first | apply Kd.R_alloc | apply Kd.R_drewN | apply Kd.R_drew)); exact HO444.out))) (Kd.R_lt (by (with_reducible repeat (first | apply Kd.R_alloc | apply Kd.R_drewN | apply Kd.R_drew)); exact HO447.out))) (Kd.R_lt (by (with_reducible repeat (first | apply Kd.R_alloc | apply Kd.R_drewN | apply Kd.R_drew)); exact HO453.out))) (below_size (by repeat (first | (with_reducible first | exact HB.out | apply below_alloc | apply pw_below_drewN | apply below_drew1) | exact HB.out)))); have n9_ := Aside0.mk (below_step (by repeat (first | (with_reducible first | exact HB.out | apply below_alloc | apply pw_below_drewN | apply below_drew1) | exact HB.out)) hb); clear HO_12; clear HO432; clear HO435; clear HO439; clear HO441; clear HO444; clear HO447; clear HO453; clear HB; have HO_12 := n0_; have HO432 := n1_; have HO435 := n2_; have HO439 := n3_; have HO441 := n4_; have HO444 := n5_; have HO447 := n6_; have HO453 := n7_; have HO456 := n8_; have HB := n9_; clear n0_ n1_ n2_ n3_ n4_ n5_ n6_ n7_ n8_ n9_; (try clear hb); (try clear hb2); (try clear hk); (try clear hi); (try clear ho0); obtain ⟨Ao105, co105, eo105⟩ := Kd.R_slice HO453.out; subst eo105; obtain ⟨Ao106, co106, eo106⟩ := Kd.R_slice HO456.out; subst eo106) | (go_at_call 14; (with_reducible refine (entailref1_Same.calls k1 _ _ t451 _ _ t454 true _ ?side1 ?side2 ?side3 ?side4 A79.out).mono ?_); (case side1 => repeat (first | exact (Kd.R_reads' HO453.out).2.2 | (with_reducible refine Kd.C_alloc ?_ _) | (with_reducible refine Kd.C_drewN ?_ _) | (with_reducible refine Kd.C_drew ?_))); (case side2 => exact (Kd.R_reads' HO453.out).2.1); (case side3 => repeat (first | exact (Kd.R_reads' HO456.out).2.2 | (with_reducible refine Kd.C_alloc ?_ _) | (with_reducible refine Kd.C_drewN ?_ _) | (with_reducible refine Kd.C_drew ?_))); (case side4 => exact (Kd.R_reads' HO456.out).2.1); rintro e w' ⟨rfl, ⟨nd, rfl⟩⟩) | (go_at_call 13; (with_reducible refine (rows_Minus.calls k1 _ _ t430 _ _ t433 t458 _ ?side1 ?side2 ?side3 ?side4 A81.out).mono ?_); (case side1 => repeat (first | exact (Kd.R_reads' HO432.out).2.2 | (with_reducible refine Kd.C_alloc ?_ _) | (with_reducible refine Kd.C_drewN ?_ _) | (with_reducible refine Kd.C_drew ?_))); (case side2 => exact (Kd.R_reads' HO432.out).2.1); (case side3 => repeat (first | exact (Kd.R_reads' HO435.out).2.2 | (with_reducible refine Kd.C_alloc ?_ _) | (with_reducible refine Kd.C_drewN ?_ _) | (with_reducible refine Kd.C_drew ?_))); (case side4 => exact (Kd.R_reads' HO435.out).2.1); rintro e w107 ⟨v459, rfl, ho0, hb⟩; have n0_ := Aside0.mk (Kd.R_elder' (by (with_reducible repeat (first | apply Kd.R_alloc | apply Kd.R_drewN | apply Kd.R_drew)); exact HO_12.out) (Kd.R_base ho0) hb); have n1_ := Aside0.mk (Kd.R_elder' (by (with_reducible repeat (first | apply Kd.R_alloc | apply Kd.R_drewN | apply Kd.R_drew)); exact HO432.out) (Kd.R_base ho0) hb); have n2_ := Aside0.mk (Kd.R_elder' (by (with_reducible repeat (first | apply Kd.R_alloc | apply Kd.R_drewN | apply Kd.R_drew)); exact HO435.out) (Kd.R_base ho0) hb); have n3_ := Aside0.mk (Kd.R_elder' (by (with_reducible repeat (first | apply Kd.R_alloc | apply Kd.R_drewN | apply Kd.R_drew)); exact HO439.out) (Kd.R_base ho0) hb); have n4_ := Aside0.mk (Kd.R_elder' (by (with_reducible repeat (first | apply Kd.R_alloc | apply Kd.R_drewN | apply Kd.R_drew)); exact HO441.out) (Kd.R_base ho0) hb); have n5_ := Aside0.mk (Kd.R_elder' (by (with_reducible repeat (first | apply Kd.R_alloc | apply Kd.R_drewN | apply Kd.R_drew)); exact HO444.out) (Kd.R_base ho0) hb); have n6_ := Aside0.mk (Kd.R_elder' (by (with_reducible repeat (first | apply Kd.R_alloc | apply Kd.R_drewN | apply Kd.R_drew)); exact HO447.out) (Kd.R_base ho0) hb); have n7_ := Aside0.mk (Kd.R_elder' (by (with_reducible repeat (first | apply Kd.R_alloc | apply Kd.R_drewN | apply Kd.R_drew)); exact HO453.out) (Kd.R_base ho0) hb); have n8_ := Aside0.mk (Kd.R_elder' (by (with_reducible repeat (first | apply Kd.R_alloc | apply Kd.R_drewN | apply Kd.R_drew)); exact HO456.out) (Kd.R_base ho0) hb); have n9_ := Aside0.mk (Kd.R_lower (Kd.R_new' (Kd.R_new' (Kd.R_new' (Kd.R_new' (Kd.R_new' (Kd.R_new' (Kd.R_new' (Kd.R_new' (Kd.R_new' ho0 (Kd.R_lt (by (with_reducible repeat (first | apply Kd.R_alloc | apply Kd.R_drewN | apply Kd.R_drew)); exact HO_12.out))) (Kd.R_lt (by (with_reducible repeat (first | apply Kd.R_alloc | apply Kd.R_drewN | apply Kd.R_drew)); exact HO432.out))) (Kd.R_lt (by (with_reducible repeat (first | apply Kd.R_alloc | apply Kd.R_drewN | apply Kd.R_drew)); exact HO435.out))) (Kd.R_lt (by (with_reducible repeat (first | apply Kd.R_alloc | apply Kd.R_drewN | apply Kd.R_drew)); exact HO439.out))) (Kd.R_lt (by (with_reducible repeat (first | apply Kd.R_alloc | apply Kd.R_drewN | apply Kd.R_drew)); exact HO441.out))) (Kd.R_lt (by (with_reducible repeat (first | apply Kd.R_alloc | apply Kd.R_drewN | apply Kd.R_drew)); exact HO444.out))) (Kd.R_lt (by (with_reducible repeat (first | apply Kd.R_alloc | apply Kd.R_drewN | apply Kd.R_drew)); exact HO447.out))) (Kd.R_lt (by (with_reducible repeat (first | apply Kd.R_alloc | apply Kd.R_drewN | apply Kd.R_drew)); exact HO453.out))) (Kd.R_lt (by (with_reducible repeat (first | apply Kd.R_alloc | apply Kd.R_drewN | apply Kd.R_drew)); exact HO456.out))) (below_size (by repeat (first | (with_reducible first | exact HB.out | apply below_alloc | apply pw_below_drewN | apply below_drew1) | exact HB.out)))); have n10_ := Aside0.mk (below_step (by repeat (first | (with_reducible first | exact HB.out | apply below_alloc | apply pw_below_drewN | apply below_drew1) | exact HB.out)) hb); clear HO_12; clear HO432; clear HO435; clear HO439; clear HO441; clear HO444; clear HO447; clear HO453; clear HO456; clear HB; have HO_12 := n0_; have HO432 := n1_; have HO435 := n2_; have HO439 := n3_; have HO441 := n4_; have HO444 := n5_; have HO447 := n6_; have HO453 := n7_; have HO456 := n8_; have HO460 := n9_; have HB := n10_; clear n0_ n1_ n2_ n3_ n4_ n5_ n6_ n7_ n8_ n9_ n10_; (try clear hb); (try clear hb2); (try clear hk); (try clear hi); (try clear ho0)) | (go_at_call 22; (with_reducible refine (entailref1_Minus.calls k1 _ _ t430 _ _ t433 t461 _ ?side1 ?side2 ?side3 ?side4 A82.out).mono ?_); (case side1 => repeat (first | exact (Kd.R_reads' HO432.out).2.2 | (with_reducible refine Kd.C_alloc ?_ _) | (with_reducible refine Kd.C_drewN ?_ _) | (with_reducible refine Kd.C_drew ?_))); (case side2 => exact (Kd.R_reads' HO432.out).2.1); (case side3 => repeat (first | exact (Kd.R_reads' HO435.out).2.2 | (with_reducible refine Kd.C_alloc ?_ _) | (with_reducible refine Kd.C_drewN ?_ _) | (with_reducible refine Kd.C_drew ?_))); (case side4 => exact (Kd.R_reads' HO435.out).2.1); rintro e w108 ⟨v462, rfl, ho0, hb⟩; have n0_ := Aside0.mk (Kd.R_elder' (by (with_reducible repeat (first | apply Kd.R_alloc | apply Kd.R_drewN | apply Kd.R_drew)); exact HO_12.out) (Kd.R_base ho0) hb); have n1_ := Aside0.mk (Kd.R_elder' (by (with_reducible repeat (first | apply Kd.R_alloc | apply Kd.R_drewN | apply Kd.R_drew)); exact HO432.out) (Kd.R_base ho0) hb); have n2_ := Aside0.mk (Kd.R_elder' (by (with_reducible repeat (first | apply Kd.R_alloc | apply Kd.R_drewN | apply Kd.R_drew)); exact HO435.out) (Kd.R_base ho0) hb); have n3_ := Aside0.mk (Kd.R_elder' (by (with_reducible repeat (first | apply Kd.R_alloc | apply Kd.R_drewN | apply Kd.R_drew)); exact HO439.out) (Kd.R_base ho0) hb); have n4_ := Aside0.mk (Kd.R_elder' (by (with_reducible repeat (first | apply Kd.R_alloc | apply Kd.R_drewN | apply Kd.R_drew)); exact HO441.out) (Kd.R_base ho0) hb); have n5_ := Aside0.mk (Kd.R_elder' (by (with_reducible repeat (first | apply Kd.R_alloc | apply Kd.R_drewN | apply Kd.R_drew)); exact HO444.out) (Kd.R_base ho0) hb); have n6_ := Aside0.mk (Kd.R_elder' (by (with_reducible repeat (first | apply Kd.R_alloc | apply Kd.R_drewN | apply Kd.R_drew)); exact HO447.out) (Kd.R_base ho0) hb); have n7_ := Aside0.mk (Kd.R_elder' (by (with_reducible repeat (first | apply Kd.R_alloc | apply Kd.R_drewN | apply Kd.R_drew)); exact HO453.out) (Kd.R_base ho0) hb); have n8_ := Aside0.mk (Kd.R_elder' (by (with_reducible repeat (first | apply Kd.R_alloc | apply Kd.R_drewN | apply Kd.R_drew)); exact HO456.out) (Kd.R_base ho0) hb); have n9_ := Aside0.mk (Kd.R_elder' (by (with_reducible repeat (first | apply Kd.R_alloc | apply Kd.R_drewN | apply Kd.R_drew)); exact HO460.out) (Kd.R_base ho0) hb); have n10_ := Aside0.mk (Kd.R_lower (Kd.R_new' (Kd.R_new' (Kd.R_new' (Kd.R_new' (Kd.R_new' (Kd.R_new' (Kd.R_new' (Kd.R_new' (Kd.R_new' (Kd.R_new' ho0 (Kd.R_lt (by (with_reducible repeat (first | apply Kd.R_alloc | apply Kd.R_drewN | apply Kd.R_drew)); exact HO_12.out))) (Kd.R_lt (by (with_reducible repeat (first | apply Kd.R_alloc | apply Kd.R_drewN | apply Kd.R_drew)); exact HO432.out))) (Kd.R_lt (by (with_reducible repeat (first | apply Kd.R_alloc | apply Kd.R_drewN | apply Kd.R_drew)); exact HO435.out))) (Kd.R_lt (by (with_reducible repeat (first | apply Kd.R_alloc | apply Kd.R_drewN | apply Kd.R_drew)); exact HO439.out))) (Kd.R_lt (by (with_reducible repeat (first | apply Kd.R_alloc | apply Kd.R_drewN | apply Kd.R_drew)); exact HO441.out))) (Kd.R_lt (by (with_reducible repeat (first | apply Kd.R_alloc | apply Kd.R_drewN | apply Kd.R_drew)); exact HO444.out))) (Kd.R_lt (by (with_reducible repeat (first | apply Kd.R_alloc | apply Kd.R_drewN | apply Kd.R_drew)); exact HO447.out))) (Kd.R_lt (by (with_reducible repeat (first | apply Kd.R_alloc | apply Kd.R_drewN | apply Kd.R_drew)); exact HO453.out))) (Kd.R_lt (by (with_reducible repeat (first | apply Kd.R_alloc | apply Kd.R_drewN | apply Kd.R_drew)); exact HO456.out))) (Kd.R_lt (by (with_reducible repeat (first | apply Kd.R_alloc | apply Kd.R_drewN | apply Kd.R_drew)); exact HO460.out))) (below_size (by repeat (first | (with_reducible first | exact HB.out | apply below_alloc | apply pw_below_drewN | apply below_drew1) | exact HB.out)))); have n11_ := Aside0.mk (below_step (by repeat (first | (with_reducible first | exact HB.out | apply below_alloc | apply pw_below_drewN | apply below_drew1) | exact HB.out)) hb); clear HO_12; clear HO432; clear HO435; clear HO439; clear HO441; clear HO444; clear HO447; clear HO453; clear HO456; clear HO460; clear HB; have HO_12 := n0_; have HO432 := n1_; have HO435 := n2_; have HO439 := n3_; have HO441 := n4_; have HO444 := n5_; have HO447 := n6_; have HO453 := n7_; have HO456 := n8_; have HO460 := n9_; have HO463 := n10_; have HB := n11_; clear n0_ n1_ n2_ n3_ n4_ n5_ n6_ n7_ n8_ n9_ n10_ n11_; (try clear hb); (try clear hb2); (try clear hk); (try clear hi); (try clear ho0); obtain ⟨Ao109, co109, eo109⟩ := Kd.R_slice HO460.out; subst eo109; obtain ⟨Ao110, co110, eo110⟩ := Kd.R_slice HO463.out; subst eo110) | (go_at_call 14; (with_reducible refine (entailref1_Same.calls k1 _ _ t458 _ _ t461 true _ ?side1 ?side2 ?side3 ?side4 A83.out).mono ?_); (case side1 => repeat (first | exact (Kd.R_reads' HO460.out).2.2 | (with_reducible refine Kd.C_alloc ?_ _) | (with_reducible refine Kd.C_drewN ?_ _) | (with_reducible refine Kd.C_drew ?_))); (case side2 => exact (Kd.R_reads' HO460.out).2.1); (case side3 => repeat (first | exact (Kd.R_reads' HO463.out).2.2 | (with_reducible refine Kd.C_alloc ?_ _) | (with_reducible refine Kd.C_drewN ?_ _) | (with_reducible refine Kd.C_drew ?_))); (case side4 => exact (Kd.R_reads' HO463.out).2.1); rintro e w' ⟨rfl, ⟨nd, rfl⟩⟩) | (go_at_call 22; (with_reducible refine (entailref1_Minus.calls k1 _ _ t433 _ _ t430 t465 _ ?side1 ?side2 ?side3 ?side4 A85.out).mono ?_); (case side1 => repeat (first | exact (Kd.R_reads' HO435.out).2.2 | (with_reducible refine Kd.C_alloc ?_ _) | (with_reducible refine Kd.C_drewN ?_ _) | (with_reducible refine Kd.C_drew ?_))); (case side2 => exact (Kd.R_reads' HO435.out).2.1); (case side3 => repeat (first | exact (Kd.R_reads' HO432.out).2.2 | (with_reducible refine Kd.C_alloc ?_ _) | (with_reducible refine Kd.C_drewN ?_ _) | (with_reducible refine Kd.C_drew ?_))); (case side4 => exact (Kd.R_reads' HO432.out).2.1); rintro e w111 ⟨v466, rfl, ho0, hb⟩; have n0_ := Aside0.mk (Kd.R_elder' (by (with_reducible repeat (first | apply Kd.R_alloc | apply Kd.R_drewN | apply Kd.R_drew)); exact HO_12.out) (Kd.R_base ho0) hb); have n1_ := Aside0.mk (Kd.R_elder' (by (with_reducible repeat (first | apply Kd.R_alloc | apply Kd.R_drewN | apply Kd.R_drew)); exact HO432.out) (Kd.R_base ho0) hb); have n2_ := Aside0.mk (Kd.R_elder' (by (with_reducible repeat (first | apply Kd.R_alloc | apply Kd.R_drewN | apply Kd.R_drew)); exact HO435.out) (Kd.R_base ho0) hb); have n3_ := Aside0.mk (Kd.R_elder' (by (with_reducible repeat (first | apply Kd.R_alloc | apply Kd.R_drewN | apply Kd.R_drew)); exact HO439.out) (Kd.R_base ho0) hb); have n4_ := Aside0.mk (Kd.R_elder' (by (with_reducible repeat (first | apply Kd.R_alloc | apply Kd.R_drewN | apply Kd.R_drew)); exact HO441.out) (Kd.R_base ho0) hb); have n5_ := Aside0.mk (Kd.R_elder' (by (with_reducible repeat (first | apply Kd.R_alloc | apply Kd.R_drewN | apply Kd.R_drew)); exact HO444.out) (Kd.R_base ho0) hb); have n6_ := Aside0.mk (Kd.R_elder' (by (with_reducible repeat (first | apply Kd.R_alloc | apply Kd.R_drewN | apply Kd.R_drew)); exact HO447.out) (Kd.R_base ho0) hb); have n7_ := Aside0.mk (Kd.R_elder' (by (with_reducible repeat (first | apply Kd.R_alloc | apply Kd.R_drewN | apply Kd.R_drew)); exact HO453.out) (Kd.R_base ho0) hb); have n8_ := Aside0.mk (Kd.R_elder' (by (with_reducible repeat (first | apply Kd.R_alloc | apply Kd.R_drewN | apply Kd.R_drew)); exact HO456.out) (Kd.R_base ho0) hb); have n9_ := Aside0.mk (Kd.R_elder' (by (with_reducible repeat (first | apply Kd.R_alloc | apply Kd.R_drewN | apply Kd.R_drew)); exact HO460.out) (Kd.R_base ho0) hb); have n10_ := Aside0.mk (Kd.R_elder' (by (with_reducible repeat (first | apply Kd.R_alloc | apply Kd.R_drewN | apply Kd.R_drew)); exact HO463.out) (Kd.R_base ho0) hb); have n11_ := Aside0.mk (Kd.R_lower (Kd.R_new' (Kd.R_new' (Kd.R_new' (Kd.R_new' (Kd.R_new' (Kd.R_new' (Kd.R_new' (Kd.R_new' (Kd.R_new' (Kd.R_new' (Kd.R_new' ho0 (Kd.R_lt (by (with_reducible repeat (first | apply Kd.R_alloc | apply Kd.R_drewN | apply Kd.R_drew)); exact HO_12.out))) (Kd.R_lt (by (with_reducible repeat (first | apply Kd.R_alloc | apply Kd.R_drewN | apply Kd.R_drew)); exact HO432.out))) (Kd.R_lt (by (with_reducible repeat (first | apply Kd.R_alloc | apply Kd.R_drewN | apply Kd.R_drew)); exact HO435.out))) (Kd.R_lt (by (with_reducible repeat (first | apply Kd.R_alloc | apply Kd.R_drewN | apply Kd.R_drew)); exact HO439.out))) (Kd.R_lt (by (with_reducible repeat (first | apply Kd.R_alloc | apply Kd.R_drewN | apply Kd.R_drew)); exact HO441.out))) (Kd.R_lt (by (with_reducible repeat (first | apply Kd.R_alloc | apply Kd.R_drewN | apply Kd.R_drew)); exact HO444.out))) (Kd.R_lt (by (with_reducible repeat (first | apply Kd.R_alloc | apply Kd.R_drewN | apply Kd.R_drew)); exact HO447.out))) (Kd.R_lt (by (with_reducible repeat (first | apply Kd.R_alloc | apply Kd.R_drewN | apply Kd.R_drew)); exact HO453.out))) (Kd.R_lt (by (with_reducible repeat (first | apply Kd.R_alloc | apply Kd.R_drewN | apply Kd.R_drew)); exact HO456.out))) (Kd.R_lt (by (with_reducible repeat (first | apply Kd.R_alloc | apply Kd.R_drewN | apply Kd.R_drew)); exact HO460.out))) (Kd.R_lt (by (with_reducible repeat (first | apply Kd.R_alloc | apply Kd.R_drewN | apply Kd.R_drew)); exact HO463.out))) (below_size (by repeat (first | (with_reducible first | exact HB.out | apply below_alloc | apply pw_below_drewN | apply below_drew1) | exact HB.out)))); have n12_ := Aside0.mk (below_step (by repeat (first | (with_reducible first | exact HB.out | apply below_alloc | apply pw_below_drewN | apply below_drew1) | exact HB.out)) hb); clear HO_12; clear HO432; clear HO435; clear HO439; clear HO441; clear HO444; clear HO447; clear HO453; clear HO456; clear HO460; clear HO463; clear HB; have HO_12 := n0_; have HO432 := n1_; have HO435 := n2_; have HO439 := n3_; have HO441 := n4_; have HO444 := n5_; have HO447 := n6_; have HO453 := n7_; have HO456 := n8_; have HO460 := n9_; have HO463 := n10_; have HO467 := n11_; have HB := n12_; clear n0_ n1_ n2_ n3_ n4_ n5_ n6_ n7_ n8_ n9_ n10_ n11_ n12_; (try clear hb); (try clear hb2); (try clear hk); (try clear hi); (try clear ho0); obtain ⟨Ao112, co112, eo112⟩ := Kd.R_slice HO439.out; subst eo112; obtain ⟨Ao113, co113, eo113⟩ := Kd.R_slice HO467.out; subst eo113) | (go_at_call 14; (with_reducible refine (entailref1_Same.calls k1 _ _ t436 _ _ t465 true _ ?side1 ?side2 ?side3 ?side4 A86.out).mono ?_); (case side1 => repeat (first | exact (Kd.R_reads' HO439.out).2.2 | (with_reducible refine Kd.C_alloc ?_ _) | (with_reducible refine Kd.C_drewN ?_ _) | (with_reducible refine Kd.C_drew ?_))); (case side2 => exact (Kd.R_reads' HO439.out).2.1); (case side3 => repeat (first | exact (Kd.R_reads' HO467.out).2.2 | (with_reducible refine Kd.C_alloc ?_ _) | (with_reducible refine Kd.C_drewN ?_ _) | (with_reducible refine Kd.C_drew ?_))); (case side4 => exact (Kd.R_reads' HO467.out).2.1); rintro e w' ⟨rfl, ⟨nd, rfl⟩⟩) | (go_at_call 22; (with_reducible refine (entailref1_Minus.calls k1 _ _ t430 _ _ t433 t469 _ ?side1 ?side2 ?side3 ?side4 A88.out).mono ?_); (case side1 => repeat (first | exact (Kd.R_reads' HO432.out).2.2 | (with_reducible refine Kd.C_alloc ?_ _) | (with_reducible refine Kd.C_drewN ?_ _) | (with_reducible refine Kd.C_drew ?_))); (case side2 => exact (Kd.R_reads' HO432.out).2.1); (case side3 => repeat (first | exact (Kd.R_reads' HO435.out).2.2 | (with_reducible refine Kd.C_alloc ?_ _) | (with_reducible refine Kd.C_drewN ?_ _) | (with_reducible refine Kd.C_drew ?_))); (case side4 => exact (Kd.R_reads' HO435.out).2.1); rintro e w114 ⟨v470, rfl, ho0, hb⟩; have n0_ := Aside0.mk (Kd.R_elder' (by (with_reducible repeat (first | apply Kd.R_alloc | apply Kd.R_drewN | apply Kd.R_drew)); exact HO_12.out) (Kd.R_base ho0) hb); have n1_ := Aside0.mk (Kd.R_elder' (by (with_reducible repeat (first | apply Kd.R_alloc | apply Kd.R_drewN | apply Kd.R_drew)); exact HO432.out) (Kd.R_base ho0) hb); have n2_ := Aside0.mk (Kd.R_elder' (by (with_reducible repeat (first | apply Kd.R_alloc | apply Kd.R_drewN | apply Kd.R_drew)); exact HO435.out) (Kd.R_base ho0) hb); have n3_ := Aside0.mk (Kd.R_elder' (by (with_reducible repeat (first | apply Kd.R_alloc | apply Kd.R_drewN | apply Kd.R_drew)); exact HO439.out) (Kd.R_base ho0) hb); have n4_ := Aside0.mk (Kd.R_elder' (by (with_reducible repeat (first | apply Kd.R_alloc | apply Kd.R_drewN | apply Kd.R_drew)); exact HO441.out) (Kd.R_base ho0) hb); have n5_ := Aside0.mk (Kd.R_elder' (by (with_reducible repeat (first | apply Kd.R_alloc | apply Kd.R_drewN | apply Kd.R_drew)); exact HO444.out) (Kd.R_base ho0) hb); have n6_ := Aside0.mk (Kd.R_elder' (by (with_reducible repeat (first | apply Kd.R_alloc | apply Kd.R_drewN | apply Kd.R_drew)); exact HO447.out) (Kd.R_base ho0) hb); have n7_ := Aside0.mk (Kd.R_elder' (by (with_reducible repeat (first | apply Kd.R_alloc | apply Kd.R_drewN | apply Kd.R_drew)); exact HO453.out) (Kd.R_base ho0) hb); have n8_ := Aside0.mk (Kd.R_elder' (by (with_reducible repeat (first | apply Kd.R_alloc | apply Kd.R_drewN | apply Kd.R_drew)); exact HO456.out) (Kd.R_base ho0) hb); have n9_ := Aside0.mk (Kd.R_elder' (by (with_reducible repeat (first | apply Kd.R_alloc | apply Kd.R_drewN | apply Kd.R_drew)); exact HO460.out) (Kd.R_base ho0) hb); have n10_ := Aside0.mk (Kd.R_elder' (by (with_reducible repeat (first | apply Kd.R_alloc | apply Kd.R_drewN | apply Kd.R_drew)); exact HO463.out) (Kd.R_base ho0) hb); have n11_ := Aside0.mk (Kd.R_elder' (by (with_reducible repeat (first | apply Kd.R_alloc | apply Kd.R_drewN | apply Kd.R_drew)); exact HO467.out) (Kd.R_base ho0) hb); have n12_ := Aside0.mk (Kd.R_lower (Kd.R_new' (Kd.R_new' (Kd.R_new' (Kd.R_new' (Kd.R_new' (Kd.R_new' (Kd.R_new' (Kd.R_new' (Kd.R_new' (Kd.R_new' (Kd.R_new' (Kd.R_new' ho0 (Kd.R_lt (by (with_reducible repeat (first | apply Kd.R_alloc | apply Kd.R_drewN | apply Kd.R_drew)); exact HO_12.out))) (Kd.R_lt (by (with_reducible repeat (first | apply Kd.R_alloc | apply Kd.R_drewN | apply Kd.R_drew)); exact HO432.out))) (Kd.R_lt (by (with_reducible repeat (first | apply Kd.R_alloc | apply Kd.R_drewN | apply Kd.R_drew)); exact HO435.out))) (Kd.R_lt (by (with_reducible repeat (first | apply Kd.R_alloc | apply Kd.R_drewN | apply Kd.R_drew)); exact HO439.out))) (Kd.R_lt (by (with_reducible repeat (first | apply Kd.R_alloc | apply Kd.R_drewN | apply Kd.R_drew)); exact HO441.out))) (Kd.R_lt (by (with_reducible repeat (first | apply Kd.R_alloc | apply Kd.R_drewN | apply Kd.R_drew)); exact HO444.out))) (Kd.R_lt (by (with_reducible repeat (first | apply Kd.R_alloc | apply Kd.R_drewN | apply Kd.R_drew)); exact HO447.out))) (Kd.R_lt (by (with_reducible repeat (first | apply Kd.R_alloc | apply Kd.R_drewN | apply Kd.R_drew)); exact HO453.out))) (Kd.R_lt (by (with_reducible repeat (first | apply Kd.R_alloc | apply Kd.R_drewN | apply Kd.R_drew)); exact HO456.out))) (Kd.R_lt (by (with_reducible repeat (first | apply Kd.R_alloc | apply Kd.R_drewN | apply Kd.R_drew)); exact HO460.out))) (Kd.R_lt (by (with_reducible repeat (first | apply Kd.R_alloc | apply Kd.R_drewN | apply Kd.R_drew)); exact HO463.out))) (Kd.R_lt (by (with_reducible repeat (first | apply Kd.R_alloc | apply Kd.R_drewN | apply Kd.R_drew)); exact HO467.out))) (below_size (by repeat (first | (with_reducible first | exact HB.out | apply below_alloc | apply pw_below_drewN | apply below_drew1) | exact HB.out)))); have n13_ := Aside0.mk (below_step (by repeat (first | (with_reducible first | exact HB.out | apply below_alloc | apply pw_below_drewN | apply below_drew1) | exact HB.out)) hb); clear HO_12; clear HO432; clear HO435; clear HO439; clear HO441; clear HO444; clear HO447; clear HO453; clear HO456; clear HO460; clear HO463; clear HO467; clear HB; have HO_12 := n0_; have HO432 := n1_; have HO435 := n2_; have HO439 := n3_; have HO441 := n4_; have HO444 := n5_; have HO447 := n6_; have HO453 := n7_; have HO456 := n8_; have HO460 := n9_; have HO463 := n10_; have HO467 := n11_; have HO471 := n12_; have HB := n13_; clear n0_ n1_ n2_ n3_ n4_ n5_ n6_ n7_ n8_ n9_ n10_ n11_ n12_ n13_; (try clear hb); (try clear hb2); (try clear hk); (try clear hi); (try clear ho0); obtain ⟨Ao115, co115, eo115⟩ := Kd.R_slice HO441.out; subst eo115; obtain ⟨Ao116, co116, eo116⟩ := Kd.R_slice HO471.out; subst eo116) | (go_at_call 14; (with_reducible refine (entailref1_Same.calls k1 _ _ t437 _ _ t469 true _ ?side1 ?side2 ?side3 ?side4 A89.out).mono ?_); (case side1 => repeat (first | exact (Kd.R_reads' HO441.out).2.2 | (with_reducible refine Kd.C_alloc ?_ _) | (with_reducible refine Kd.C_drewN ?_ _) | (with_reducible refine Kd.C_drew ?_))); (case side2 => exact (Kd.R_reads' HO441.out).2.1); (case side3 => repeat (first | exact (Kd.R_reads' HO471.out).2.2 | (with_reducible refine Kd.C_alloc ?_ _) | (with_reducible refine Kd.C_drewN ?_ _) | (with_reducible refine Kd.C_drew ?_))); (case side4 => exact (Kd.R_reads' HO471.out).2.1); rintro e w' ⟨rfl, ⟨nd, rfl⟩⟩) | ((with_reducible refine gate_callee (f := 18) rfl ?_); refine goesL_ (some 83) rfl rfl Try.func18 (by kernel_rfl) rfl #[.slice Ao94 t430.length co94] rfl (by (try simp only [List.map_toArray, List.map_cons, List.map_nil]); first | done | rfl | (simp only [List.length_drop, List.length_take]; rfl)) ?_; (with_reducible refine (entailref1_Of.calls k1 _ _ t430 t473 _ ?side1 ?side2 A91.out).mono ?_); (case side1 => repeat (first | exact (Kd.R_reads' HO432.out).2.2 | (with_reducible refine Kd.C_alloc ?_ _) | (with_reducible refine Kd.C_drewN ?_ _) | (with_reducible refine Kd.C_drew ?_))); (case side2 => exact (Kd.R_reads' HO432.out).2.1); rintro e w117 ⟨v474, rfl, ho0, hb⟩; refine ⟨_, rfl, ?_⟩; have n0_ := Aside0.mk (Kd.R_elder' (by (with_reducible repeat (first | apply Kd.R_alloc | apply Kd.R_drewN | apply Kd.R_drew)); exact HO_12.out) (Kd.R_base ho0) hb); have n1_ := Aside0.mk (Kd.R_elder' (by (with_reducible repeat (first | apply Kd.R_alloc | apply Kd.R_drewN | apply Kd.R_drew)); exact HO432.out) (Kd.R_base ho0) hb); have n2_ := Aside0.mk (Kd.R_elder' (by (with_reducible repeat (first | apply Kd.R_alloc | apply Kd.R_drewN | apply Kd.R_drew)); exact HO435.out) (Kd.R_base ho0) hb); have n3_ := Aside0.mk (Kd.R_elder' (by (with_reducible repeat (first | apply Kd.R_alloc | apply Kd.R_drewN | apply Kd.R_drew)); exact HO439.out) (Kd.R_base ho0) hb); have n4_ := Aside0.mk (Kd.R_elder' (by (with_reducible repeat (first | apply Kd.R_alloc | apply Kd.R_drewN | apply Kd.R_drew)); exact HO441.out) (Kd.R_base ho0) hb); have n5_ := Aside0.mk (Kd.R_elder' (by (with_reducible repeat (first | apply Kd.R_alloc | apply Kd.R_drewN | apply Kd.R_drew)); exact HO444.out) (Kd.R_base ho0) hb); have n6_ := Aside0.mk (Kd.R_elder' (by (with_reducible repeat (first | apply Kd.R_alloc | apply Kd.R_drewN | apply Kd.R_drew)); exact HO447.out) (Kd.R_base ho0) hb); have n7_ := Aside0.mk (Kd.R_elder' (by (with_reducible repeat (first | apply Kd.R_alloc | apply Kd.R_drewN | apply Kd.R_drew)); exact HO453.out) (Kd.R_base ho0) hb); have n8_ := Aside0.mk (Kd.R_elder' (by (with_reducible repeat (first | apply Kd.R_alloc | apply Kd.R_drewN | apply Kd.R_drew)); exact HO456.out) (Kd.R_base ho0) hb); have n9_ := Aside0.mk (Kd.R_elder' (by (with_reducible repeat (first | apply Kd.R_alloc | apply Kd.R_drewN | apply Kd.R_drew)); exact HO460.out) (Kd.R_base ho0) hb); have n10_ := Aside0.mk (Kd.R_elder' (by (with_reducible repeat (first | apply Kd.R_alloc | apply Kd.R_drewN | apply Kd.R_drew)); exact HO463.out) (Kd.R_base ho0) hb); have n11_ := Aside0.mk (Kd.R_elder' (by (with_reducible repeat (first | apply Kd.R_alloc | apply Kd.R_drewN | apply Kd.R_drew)); exact HO467.out) (Kd.R_base ho0) hb); have n12_ := Aside0.mk (Kd.R_elder' (by (with_reducible repeat (first | apply Kd.R_alloc | apply Kd.R_drewN | apply Kd.R_drew)); exact HO471.out) (Kd.R_base ho0) hb); have n13_ := Aside0.mk (Kd.R_lower (Kd.R_new' (Kd.R_new' (Kd.R_new' (Kd.R_new' (Kd.R_new' (Kd.R_new' (Kd.R_new' (Kd.R_new' (Kd.R_new' (Kd.R_new' (Kd.R_new' (Kd.R_new' (Kd.R_new' ho0 (Kd.R_lt (by (with_reducible repeat (first | apply Kd.R_alloc | apply Kd.R_drewN | apply Kd.R_drew)); exact HO_12.out))) (Kd.R_lt (by (with_reducible repeat (first | apply Kd.R_alloc | apply Kd.R_drewN | apply Kd.R_drew)); exact HO432.out))) (Kd.R_lt (by (with_reducible repeat (first | apply Kd.R_alloc | apply Kd.R_drewN | apply Kd.R_drew)); exact HO435.out))) (Kd.R_lt (by (with_reducible repeat (first | apply Kd.R_alloc | apply Kd.R_drewN | apply Kd.R_drew)); exact HO439.out))) (Kd.R_lt (by (with_reducible repeat (first | apply Kd.R_alloc | apply Kd.R_drewN | apply Kd.R_drew)); exact HO441.out))) (Kd.R_lt (by (with_reducible repeat (first | apply Kd.R_alloc | apply Kd.R_drewN | apply Kd.R_drew)); exact HO444.out))) (Kd.R_lt (by (with_reducible repeat (first | apply Kd.R_alloc | apply Kd.R_drewN | apply Kd.R_drew)); exact HO447.out))) (Kd.R_lt (by (with_reducible repeat (first | apply Kd.R_alloc | apply Kd.R_drewN | apply Kd.R_drew)); exact HO453.out))) (Kd.R_lt (by (with_reducible repeat (first | apply Kd.R_alloc | apply Kd.R_drewN | apply Kd.R_drew)); exact HO456.out))) (Kd.R_lt (by (with_reducible repeat (first | apply Kd.R_alloc | apply Kd.R_drewN | apply Kd.R_drew)); exact HO460.out))) (Kd.R_lt (by (with_reducible repeat (first | apply Kd.R_alloc | apply Kd.R_drewN | apply Kd.R_drew)); exact HO463.out))) (Kd.R_lt (by (with_reducible repeat (first | apply Kd.R_alloc | apply Kd.R_drewN | apply Kd.R_drew)); exact HO467.out))) (Kd.R_lt (by (with_reducible repeat (first | apply Kd.R_alloc | apply Kd.R_drewN | apply Kd.R_drew)); exact HO471.out))) (below_size (by repeat (first | (with_reducible first | exact HB.out | apply below_alloc | apply pw_below_drewN | apply below_drew1) | exact HB.out)))); have n14_ := Aside0.mk (below_step (by repeat (first | (with_reducible first | exact HB.out | apply below_alloc | apply pw_below_drewN | apply below_drew1) | exact HB.out)) hb); clear HO_12; clear HO432; clear HO435; clear HO439; clear HO441; clear HO444; clear HO447; clear HO453; clear HO456; clear HO460; clear HO463; clear HO467; clear HO471; clear HB; have HO_12 := n0_; have HO432 := n1_; have HO435 := n2_; have HO439 := n3_; have HO441 := n4_; have HO444 := n5_; have HO447 := n6_; have HO453 := n7_; have HO456 := n8_; have HO460 := n9_; have HO463 := n10_; have HO467 := n11_; have HO471 := n12_; have HO475 := n13_; have HB := n14_; clear n0_ n1_ n2_ n3_ n4_ n5_ n6_ n7_ n8_ n9_ n10_ n11_ n12_ n13_ n14_; (try clear hb); (try clear hb2); (try clear hk); (try clear hi); (try clear ho0)))
       go_loopg [13] k1 (fun kq v13 w' => ∃ (x13_2 : Int), v13 = .int .i64 x13_2 ∧ Aside0 (entaillaw3_RowsTells.l3 kq t433 l2 l3 (wrap64 (0 + 1)) t473 x13_2 = some r) ∧ Aside0 (kq ≤ k1) ∧ Aside0 (Kd.R k41 41 w' w.heap.size (fun k_ => some k_ ≠ (v474 : Value).ownBlock) (.slice Ao95 t433.length co95) t433) ∧ Aside0 (Kd.R k41 41 w' w.heap.size (fun k_ => some k_ ≠ ((.slice Ao95 t433.length co95) : Value).ownBlock) v474 t473) ∧ Aside0 (Below w.heap.size w w'))
       case atStart => exact ⟨(0), (by first | rfl | (simp; done) | (simp [*]; done)), H', ⟨Nat.le_refl _⟩, ⟨by (with_reducible repeat (first | apply Kd.R_alloc | apply Kd.R_drewN | apply Kd.R_drew)); exact Kd.R_mono HO435.out (fun _ hk => hk.2)⟩, ⟨by (with_reducible repeat (first | apply Kd.R_alloc | apply Kd.R_drewN | apply Kd.R_drew)); exact Kd.R_mono HO475.out (fun _ hk => hk.1.1.1.1.1.1.1.1.1.1.2)⟩, ⟨by repeat (first | (with_reducible first | exact HB.out | apply below_alloc | apply pw_below_drewN | apply below_drew1) | exact HB.out)⟩⟩
       case round =>
        clear H'
        try clear c1
        try clear c2
        try clear p2
        try clear c3
        try clear c4
        try clear p4
        try clear q4
        try clear hx4
        try clear c5
        try clear c5b0
        try clear c5b1
        try clear c6
        try clear p6
        try clear c7
        try clear c8
        try clear c8b0
        try clear c8b1
        try clear c9
        try clear c11
        try clear c11b0
        try clear c12
        try clear c14
        try clear c16
        try clear c17
        try clear c18
        try clear c19
        try clear c19b0
        try clear c19b1
        try clear c19b2
        try clear c23
        try clear c24
        try clear c27
        try clear c30
        try clear c33
        try clear p42
        try clear q42
        try clear hx42
        try clear c57
        try clear c57b0
        try clear c58
        try clear c58b0
        try clear c61
        try clear c61b0
        try clear c61b1
        try clear c61b2
        try clear p64
        try clear c68
        try clear c68b0
        try clear c73
        try clear c76
        try clear c76b0
        try clear c76b1
        try clear c76b2
        try clear c80
        try clear c84
        try clear c87
        try clear c90
        try clear hx426_0
        try clear hx426_1
        try clear hx426_2
        try clear hx426_3
        try clear hx426_4
        try clear hx426_5
        try clear hx428_0
        try clear hx428_1
        try clear hx428_2
        try clear hx428_3
        try clear hx428_4
        try clear hx428_5
        try clear p2
        try clear p426
        try clear p428
        try clear q426
        try clear q428
        obtain ⟨x13_2, rfl, HA, HK2, HO_1, HO_12, HB⟩ := hrel
        cases gk with
        | zero => exact absurd HA.out (by simp [entaillaw3_RowsTells.l3])
        | succ k2 =>
         have H := HA.out
         clear HA
         simp only [entaillaw3_RowsTells.l3] at H
         by_cases c118 : x13_2 < (t433.length : Int)
         ·rw [if_pos c118] at H
          have c118b0 : decide (x13_2 < (t433.length : Int)) = true := decide_eq_true c118
          clear c118
          by_cases c119 : 0 ≤ x13_2
          rotate_left
          ·rw [if_neg c119] at H
           exact absurd H (by simp)
          rw [if_pos c119] at H
          have c119b0 : decide (0 ≤ x13_2) = true := decide_eq_true c119
          clear c119
          replace H := Option.bind_eq_some_iff.mp H
          obtain ⟨t477, A1200, H⟩ := H
          replace H : ((entailref1_Has.f k2 t473 ((rd_T41 t433 x13_2).f0.f0) ((rd_T41 t433 x13_2).f0.f1) ((rd_T41 t433 x13_2).f1) ((rd_T41 t433 x13_2).f2.f0) ((rd_T41 t433 x13_2).f2.f1) ((rd_T41 t433 x13_2).f2.f2)).bind fun t479 => (if (t477 != t479) = true then (none) else (entaillaw3_RowsTells.l3 k2 t433 l2 l3 (wrap64 (0 + 1)) t473 (wrap64 (x13_2 + 1))))) = some r := H
          have A120 := Aside0.mk A1200
          clear A1200
          replace H := Option.bind_eq_some_iff.mp H
          obtain ⟨t479, A1210, H⟩ := H
          replace H : (if (t477 != t479) = true then (none) else (entaillaw3_RowsTells.l3 k2 t433 l2 l3 (wrap64 (0 + 1)) t473 (wrap64 (x13_2 + 1)))) = some r := H
          have A121 := Aside0.mk A1210
          clear A1210
          by_cases c122 : (t477 != t479) = true
          ·rw [if_pos c122] at H
           exact absurd H (by simp)
          rw [if_neg c122] at H
          have c122b0 : (t477 != t479) = false := by simpa using c122
          (try (have c122b1 : decide (t477 = t479) = true := by simpa using c122))
          (try (have c122b2 : (t477 == t479) = true := by simpa using c122))
          clear c122
          have H' := Aside0.mk H
          clear H
          try go_wp2
          have n0_ := Aside0.mk (Kd.R_drew HO_1.out)
          have n1_ := Aside0.mk (Kd.R_drew HO_12.out)
          have n2_ := Aside0.mk (below_drew1 HB.out)
          clear HO_1
          clear HO_12
          clear HB
          have HO_1 := n0_
          have HO_12 := n1_
          have HB := n2_
          clear n0_ n1_ n2_
          have p476 : 0 ≤ (x13_2 : Int) := of_decide_eq_true (by first | (with_reducible assumption) | assumption)
          have q476 : x13_2 < (t433.length : Int) := of_decide_eq_true (by first | (with_reducible assumption) | assumption)
          try (obtain ⟨Aq_, cq_, eq_⟩ := Kd.R_slice HO_1.out; subst eq_)
          obtain ⟨ad476, e476, hx476_0, hx476_1, hx476_2, hx476_3, hx476_4, hx476_5⟩ := at_T41 (Kd.R_reads' HO_1.out).2.2 x13_2 p476 q476
          cases e476
          replace p476 := eq_true p476
          replace q476 := eq_true q476
          have p478 : 0 ≤ (x13_2 : Int) := of_decide_eq_true (by first | (with_reducible assumption) | assumption)
          have q478 : x13_2 < (t433.length : Int) := of_decide_eq_true (by first | (with_reducible assumption) | assumption)
          try (obtain ⟨Aq_, cq_, eq_⟩ := Kd.R_slice HO_1.out; subst eq_)
          obtain ⟨ad478, e478, hx478_0, hx478_1, hx478_2, hx478_3, hx478_4, hx478_5⟩ := at_T41 (Kd.R_reads' HO_1.out).2.2 x13_2 p478 q478
          obtain rfl : ad476 = ad478 := (by injection e478)
          replace p478 := eq_true p478
          replace q478 := eq_true q478
          obtain ⟨Ao124, co124, eo124⟩ := Kd.R_slice HO_12.out
          (first | subst eo124 | (injection eo124 with f1_ f2_ f3_; have f4_ := f1_.symm; have f5_ := f3_.symm; clear f1_ f2_ f3_; subst f4_; subst f5_))
          refine start_ (n := 13) (S := fun w' => w'.cell? (ad476.add ((x13_2).toNat * 6)) = some (.string ((rd_T41 t433 x13_2).f0.f0)) ∧ w'.cell? ⟨(ad476.add ((x13_2).toNat * 6)).block, (ad476.add ((x13_2).toNat * 6)).off + 1, none⟩ = some (.string ((rd_T41 t433 x13_2).f0.f1)) ∧ w'.cell? ⟨(ad476.add ((x13_2).toNat * 6)).block, (ad476.add ((x13_2).toNat * 6)).off + 2, none⟩ = some (.string ((rd_T41 t433 x13_2).f1)) ∧ w'.cell? ⟨(ad476.add ((x13_2).toNat * 6)).block, (ad476.add ((x13_2).toNat * 6)).off + 3, none⟩ = some (.string ((rd_T41 t433 x13_2).f2.f0)) ∧ w'.cell? ⟨(ad476.add ((x13_2).toNat * 6)).block, (ad476.add ((x13_2).toNat * 6)).off + 4, none⟩ = some (.string ((rd_T41 t433 x13_2).f2.f1)) ∧ w'.cell? ⟨(ad476.add ((x13_2).toNat * 6)).block, (ad476.add ((x13_2).toNat * 6)).off + 5, none⟩ = some (.string ((rd_T41 t433 x13_2).f2.f2)) ∧ w'.cell? (ad476.add ((x13_2).toNat * 6)) = some (.string ((rd_T41 t433 x13_2).f0.f0)) ∧ w'.cell? ⟨(ad476.add ((x13_2).toNat * 6)).block, (ad476.add ((x13_2).toNat * 6)).off + 1, none⟩ = some (.string ((rd_T41 t433 x13_2).f0.f1)) ∧ w'.cell? ⟨(ad476.add ((x13_2).toNat * 6)).block, (ad476.add ((x13_2).toNat * 6)).off + 2, none⟩ = some (.string ((rd_T41 t433 x13_2).f1)) ∧ w'.cell? ⟨(ad476.add ((x13_2).toNat * 6)).block, (ad476.add ((x13_2).toNat * 6)).off + 3, none⟩ = some (.string ((rd_T41 t433 x13_2).f2.f0)) ∧ w'.cell? ⟨(ad476.add ((x13_2).toNat * 6)).block, (ad476.add ((x13_2).toNat * 6)).off + 4, none⟩ = some (.string ((rd_T41 t433 x13_2).f2.f1)) ∧ w'.cell? ⟨(ad476.add ((x13_2).toNat * 6)).block, (ad476.add ((x13_2).toNat * 6)).off + 5, none⟩ = some (.string ((rd_T41 t433 x13_2).f2.f2))) (ds := []) #[F,F,F,F,F,F,F,F,F,F,F,F,F] (by kernel_rfl) rfl rfl ⟨hx476_0, hx476_1, hx476_2, hx476_3, hx476_4, hx476_5, hx478_0, hx478_1, hx478_2, hx478_3, hx478_4, hx478_5⟩ (fun hHeld => ?_); refine with_tabW entaillaw3_RowsTells.tab13 entaillaw3_RowsTells.bits13 (fun HT_ HW_ => ?_)
          generalize wr.drew = w123 at HO_1 HO_12 HB hx476_0 hx476_1 hx476_2 hx476_3 hx476_4 hx476_5 hx478_0 hx478_1 hx478_2 hx478_3 hx478_4 hx478_5 hHeld ⊢
          refine pure_ (i := 0) (N := some 90) (v := ?_) (a' := ?_) #[T,F,F,F,F,F,F,F,F,F,F,F,F] rfl rfl (any_of HT_.out (by kernel_rfl)) (fun _ _ _ h => h) (Or.inl ⟨by rfl, ?_⟩) ?_ ?_
          rotate_left
          ·intro w'
           go_simp
           with_reducible rfl
          rotate_left
          ·simp only [Act.put, sa_, sz_, ss_, i64_w, i32_w]
           rfl
          refine pure_ (i := 1) (N := some 91) (v := ?_) (a' := ?_) #[T,T,F,F,F,F,F,F,F,F,F,F,F] rfl rfl (any_of HT_.out (by kernel_rfl)) (fun _ _ _ h => h) (Or.inl ⟨by rfl, ?_⟩) ?_ ?_
          rotate_left
          ·intro w'
           go_simp
           with_reducible rfl
          rotate_left
          ·simp only [Act.put, sa_, sz_, ss_, i64_w, i32_w]
           rfl
          refine pure_ (i := 2) (N := some 92) (v := ?_) (a' := ?_) #[T,T,T,F,F,F,F,F,F,F,F,F,F] rfl rfl (any_of HT_.out (by kernel_rfl)) (fun _ _ _ h => h) (Or.inl ⟨by rfl, ?_⟩) ?_ ?_
          rotate_left
          ·intro w'
           go_simp
           with_reducible rfl
          rotate_left
          ·simp only [Act.put, sa_, sz_, ss_, i64_w, i32_w]
           rfl
          refine pure_ (i := 3) (N := some 93) (v := ?_) (a' := ?_) #[T,T,T,T,F,F,F,F,F,F,F,F,F] rfl rfl (any_of HT_.out (by kernel_rfl)) (fun _ _ _ h => h) (Or.inl ⟨by rfl, ?_⟩) ?_ ?_
          rotate_left
          ·intro w'
           go_simp
           with_reducible rfl
          rotate_left
          ·simp only [Act.put, sa_, sz_, ss_, i64_w, i32_w]
           rfl
          refine pure_ (i := 6) (N := some 96) (v := ?_) (a' := ?_) #[T,T,T,T,F,F,T,F,F,F,F,F,F] rfl rfl (any_of HT_.out (by kernel_rfl)) (fun _ _ _ h => h) (Or.inl ⟨by rfl, ?_⟩) ?_ ?_
          rotate_left
          ·intro w'
           go_simp
           with_reducible rfl
          rotate_left
          ·simp only [Act.put, sa_, sz_, ss_, i64_w, i32_w]
           rfl
          refine pure_ (i := 7) (N := some 97) (v := ?_) (a' := ?_) #[T,T,T,T,F,F,T,T,F,F,F,F,F] rfl rfl (any_of HT_.out (by kernel_rfl)) (fun _ _ _ h => h) (Or.inl ⟨by rfl, ?_⟩) ?_ ?_
          rotate_left
          ·intro w'
           go_simp
           with_reducible rfl
          rotate_left
          ·simp only [Act.put, sa_, sz_, ss_, i64_w, i32_w]
           rfl
          refine pure_ (i := 8) (N := some 98) (v := ?_) (a' := ?_) #[T,T,T,T,F,F,T,T,T,F,F,F,F] rfl rfl (any_of HT_.out (by kernel_rfl)) (fun _ _ _ h => h) (Or.inl ⟨by rfl, ?_⟩) ?_ ?_
          rotate_left
          ·intro w'
           go_simp
           with_reducible rfl
          rotate_left
          ·simp only [Act.put, sa_, sz_, ss_, i64_w, i32_w]
           rfl
          refine pure_ (i := 9) (N := some 99) (v := ?_) (a' := ?_) #[T,T,T,T,F,F,T,T,T,T,F,F,F] rfl rfl (any_of HT_.out (by kernel_rfl)) (fun _ _ _ h => h) (Or.inl ⟨by rfl, ?_⟩) ?_ ?_
          rotate_left
          ·intro w'
           go_simp
           with_reducible rfl
          rotate_left
          ·simp only [Act.put, sa_, sz_, ss_, i64_w, i32_w]
           rfl
          refine take_ (i := 4) (N := some 94) (v := ?_) (a' := ?_) #[T,T,T,T,T,F,T,T,T,T,F,F,F] rfl rfl (take_ofW HT_.out HW_.out (by kernel_rfl)) (fun _ _ _ h => h) (Or.inl ⟨by rfl, ?_⟩) hHeld ?_ ?_
          rotate_left
          ·rintro w' ⟨s0, s1, s2, s3, s4, s5, s6, s7, s8, s9, s10, s11⟩
           go_simp
           with_reducible rfl
          rotate_left
          ·simp only [Act.put, sa_, sz_, ss_, i64_w, i32_w]
           rfl
          refine take_ (i := 10) (N := some 100) (v := ?_) (a' := ?_) #[T,T,T,T,T,F,T,T,T,T,T,F,F] rfl rfl (take_ofW HT_.out HW_.out (by kernel_rfl)) (fun _ _ _ h => h) (Or.inl ⟨by rfl, ?_⟩) hHeld ?_ ?_
          rotate_left
          ·rintro w' ⟨s0, s1, s2, s3, s4, s5, s6, s7, s8, s9, s10, s11⟩
           go_simp
           with_reducible rfl
          rotate_left
          ·simp only [Act.put, sa_, sz_, ss_, i64_w, i32_w]
           rfl
          refine one_ (i := 5) (N := some 95) #[T,T,T,T,T,T,T,T,T,T,T,F,F] rfl rfl (one_of HT_.out (by kernel_rfl)) (by decide) (fun K hK => ?_)
          refine goes_ Try.func23 (by kernel_rfl) rfl #[.slice Ao124 t473.length co124, .agg #[.string ((rd_T41 t433 x13_2).f0.f0), .string ((rd_T41 t433 x13_2).f0.f1), .string ((rd_T41 t433 x13_2).f1), .string ((rd_T41 t433 x13_2).f2.f0), .string ((rd_T41 t433 x13_2).f2.f1), .string ((rd_T41 t433 x13_2).f2.f2)]] (by rfl) rfl rfl (by (try simp only [List.map_toArray, List.map_cons, List.map_nil]); first | done | rfl | (simp only [List.length_drop, List.length_take]; rfl)) ?_
          with_reducible refine (rows_Has.calls _ _ t473 ((rd_T41 t433 x13_2).f0.f0) ((rd_T41 t433 x13_2).f0.f1) ((rd_T41 t433 x13_2).f1) ((rd_T41 t433 x13_2).f2.f0) ((rd_T41 t433 x13_2).f2.f1) ((rd_T41 t433 x13_2).f2.f2) t477 _ ?side1 ?side2 A120.out).mono ?_
          (case side1 => repeat (first | exact (Kd.R_reads' HO_12.out).2.2 | (with_reducible refine Kd.C_alloc ?_ _) | (with_reducible refine Kd.C_drewN ?_ _) | (with_reducible refine Kd.C_drew ?_)))
          (case side2 => exact (Kd.R_reads' HO_12.out).2.1)
          rintro e w125 ⟨rfl, hb⟩
          have HS0_ := (hb.cell (World.block_lt_of_cell? _ _ (hHeld.1))).trans (hHeld.1)
          have HS1_ := (hb.cell (World.block_lt_of_cell? _ _ (hHeld.2.1))).trans (hHeld.2.1)
          have HS2_ := (hb.cell (World.block_lt_of_cell? _ _ (hHeld.2.2.1))).trans (hHeld.2.2.1)
          have HS3_ := (hb.cell (World.block_lt_of_cell? _ _ (hHeld.2.2.2.1))).trans (hHeld.2.2.2.1)
          have HS4_ := (hb.cell (World.block_lt_of_cell? _ _ (hHeld.2.2.2.2.1))).trans (hHeld.2.2.2.2.1)
          have HS5_ := (hb.cell (World.block_lt_of_cell? _ _ (hHeld.2.2.2.2.2.1))).trans (hHeld.2.2.2.2.2.1)
          have HS6_ := (hb.cell (World.block_lt_of_cell? _ _ (hHeld.2.2.2.2.2.2.1))).trans (hHeld.2.2.2.2.2.2.1)
          have HS7_ := (hb.cell (World.block_lt_of_cell? _ _ (hHeld.2.2.2.2.2.2.2.1))).trans (hHeld.2.2.2.2.2.2.2.1)
          have HS8_ := (hb.cell (World.block_lt_of_cell? _ _ (hHeld.2.2.2.2.2.2.2.2.1))).trans (hHeld.2.2.2.2.2.2.2.2.1)
          have HS9_ := (hb.cell (World.block_lt_of_cell? _ _ (hHeld.2.2.2.2.2.2.2.2.2.1))).trans (hHeld.2.2.2.2.2.2.2.2.2.1)
          have HS10_ := (hb.cell (World.block_lt_of_cell? _ _ (hHeld.2.2.2.2.2.2.2.2.2.2.1))).trans (hHeld.2.2.2.2.2.2.2.2.2.2.1)
          have HS11_ := (hb.cell (World.block_lt_of_cell? _ _ (hHeld.2.2.2.2.2.2.2.2.2.2.2))).trans (hHeld.2.2.2.2.2.2.2.2.2.2.2)
          refine ⟨_, rfl, ?_⟩
          have n0_ := Aside0.mk (Kd.R_below (by (with_reducible repeat (first | apply Kd.R_alloc | apply Kd.R_drewN | apply Kd.R_drew)); exact HO_1.out) hb)
          have n1_ := Aside0.mk (Kd.R_below (by (with_reducible repeat (first | apply Kd.R_alloc | apply Kd.R_drewN | apply Kd.R_drew)); exact HO_12.out) hb)
          have n2_ := Aside0.mk (below_step (by repeat (first | (with_reducible first | exact HB.out | apply below_alloc | apply pw_below_drewN | apply below_drew1) | exact HB.out)) hb)
          clear HO_1
          clear HO_12
          clear HB
          have HO_1 := n0_
          have HO_12 := n1_
          have HB := n2_
          clear n0_ n1_ n2_
          (try clear hb)
          (try clear hb2)
          (try clear hk)
          (try clear hi)
          refine hK.out _ _ ⟨HS0_, HS1_, HS2_, HS3_, HS4_, HS5_, HS6_, HS7_, HS8_, HS9_, HS10_, HS11_⟩ (fun hHeld => ?_)
          clear hK K
          refine norm_ (a' := ?_) ?_ ?_
          rotate_left
          ·show Act.put _ (some 95) _ = _
           simp only [Act.put, sa_, sz_, ss_, i64_w, i32_w]
           rfl
          refine one_ (i := 11) (N := some 101) #[T,T,T,T,T,T,T,T,T,T,T,T,F] rfl rfl (one_of HT_.out (by kernel_rfl)) (by decide) (fun K hK => ?_)
          refine goes_ Try.func24 (by kernel_rfl) rfl #[.slice Ao124 t473.length co124, .agg #[.string ((rd_T41 t433 x13_2).f0.f0), .string ((rd_T41 t433 x13_2).f0.f1), .string ((rd_T41 t433 x13_2).f1), .string ((rd_T41 t433 x13_2).f2.f0), .string ((rd_T41 t433 x13_2).f2.f1), .string ((rd_T41 t433 x13_2).f2.f2)]] (by rfl) rfl rfl (by (try simp only [List.map_toArray, List.map_cons, List.map_nil]); first | done | rfl | (simp only [List.length_drop, List.length_take]; rfl)) ?_
          with_reducible refine (entailref1_Has.calls k2 _ _ t473 ((rd_T41 t433 x13_2).f0.f0) ((rd_T41 t433 x13_2).f0.f1) ((rd_T41 t433 x13_2).f1) ((rd_T41 t433 x13_2).f2.f0) ((rd_T41 t433 x13_2).f2.f1) ((rd_T41 t433 x13_2).f2.f2) t479 _ ?side1 ?side2 A121.out).mono ?_
          (case side1 => repeat (first | exact (Kd.R_reads' HO_12.out).2.2 | (with_reducible refine Kd.C_alloc ?_ _) | (with_reducible refine Kd.C_drewN ?_ _) | (with_reducible refine Kd.C_drew ?_)))
          (case side2 => exact (Kd.R_reads' HO_12.out).2.1)
          rintro e w126 ⟨rfl, hb⟩
          have HS0_ := (hb.cell (World.block_lt_of_cell? _ _ (hHeld.1))).trans (hHeld.1)
          have HS1_ := (hb.cell (World.block_lt_of_cell? _ _ (hHeld.2.1))).trans (hHeld.2.1)
          have HS2_ := (hb.cell (World.block_lt_of_cell? _ _ (hHeld.2.2.1))).trans (hHeld.2.2.1)
          have HS3_ := (hb.cell (World.block_lt_of_cell? _ _ (hHeld.2.2.2.1))).trans (hHeld.2.2.2.1)
          have HS4_ := (hb.cell (World.block_lt_of_cell? _ _ (hHeld.2.2.2.2.1))).trans (hHeld.2.2.2.2.1)
          have HS5_ := (hb.cell (World.block_lt_of_cell? _ _ (hHeld.2.2.2.2.2.1))).trans (hHeld.2.2.2.2.2.1)
          have HS6_ := (hb.cell (World.block_lt_of_cell? _ _ (hHeld.2.2.2.2.2.2.1))).trans (hHeld.2.2.2.2.2.2.1)
          have HS7_ := (hb.cell (World.block_lt_of_cell? _ _ (hHeld.2.2.2.2.2.2.2.1))).trans (hHeld.2.2.2.2.2.2.2.1)
          have HS8_ := (hb.cell (World.block_lt_of_cell? _ _ (hHeld.2.2.2.2.2.2.2.2.1))).trans (hHeld.2.2.2.2.2.2.2.2.1)
          have HS9_ := (hb.cell (World.block_lt_of_cell? _ _ (hHeld.2.2.2.2.2.2.2.2.2.1))).trans (hHeld.2.2.2.2.2.2.2.2.2.1)
          have HS10_ := (hb.cell (World.block_lt_of_cell? _ _ (hHeld.2.2.2.2.2.2.2.2.2.2.1))).trans (hHeld.2.2.2.2.2.2.2.2.2.2.1)
          have HS11_ := (hb.cell (World.block_lt_of_cell? _ _ (hHeld.2.2.2.2.2.2.2.2.2.2.2))).trans (hHeld.2.2.2.2.2.2.2.2.2.2.2)
          refine ⟨_, rfl, ?_⟩
          have n0_ := Aside0.mk (Kd.R_below (by (with_reducible repeat (first | apply Kd.R_alloc | apply Kd.R_drewN | apply Kd.R_drew)); exact HO_1.out) hb)
          have n1_ := Aside0.mk (Kd.R_below (by (with_reducible repeat (first | apply Kd.R_alloc | apply Kd.R_drewN | apply Kd.R_drew)); exact HO_12.out) hb)
          have n2_ := Aside0.mk (below_step (by repeat (first | (with_reducible first | exact HB.out | apply below_alloc | apply pw_below_drewN | apply below_drew1) | exact HB.out)) hb)
          clear HO_1
          clear HO_12
          clear HB
          have HO_1 := n0_
          have HO_12 := n1_
          have HB := n2_
          clear n0_ n1_ n2_
          (try clear hb)
          (try clear hb2)
          (try clear hk)
          (try clear hi)
          refine hK.out _ _ ⟨HS0_, HS1_, HS2_, HS3_, HS4_, HS5_, HS6_, HS7_, HS8_, HS9_, HS10_, HS11_⟩ (fun hHeld => ?_)
          clear hK K
          refine norm_ (a' := ?_) ?_ ?_
          rotate_left
          ·show Act.put _ (some 101) _ = _
           simp only [Act.put, sa_, sz_, ss_, i64_w, i32_w]
           rfl
          refine pure_ (i := 12) (N := some 102) (v := ?_) (a' := ?_) #[T,T,T,T,T,T,T,T,T,T,T,T,T] rfl rfl (any_of HT_.out (by kernel_rfl)) (fun _ _ _ h => h) (Or.inl ⟨by rfl, ?_⟩) ?_ ?_
          rotate_left
          ·intro w'
           go_simp
           with_reducible rfl
          rotate_left
          ·simp only [Act.put, sa_, sz_, ss_, i64_w, i32_w]
           rfl
          refine done_ (done_of HT_.out (by kernel_rfl)) ?_
          try go_wp2
          go_roundg k2
          case measure => have := HK1.out; have := HK2.out; omega
          case rel => exact ⟨(wrap64 (x13_2 + 1)), (by first | rfl | (simp; done) | (simp [*]; done)), H', ⟨by have := HK1.out; have := HK2.out; omega⟩, ⟨by (with_reducible repeat (first | apply Kd.R_alloc | apply Kd.R_drewN | apply Kd.R_drew)); exact HO_1.out⟩, ⟨by (with_reducible repeat (first | apply Kd.R_alloc | apply Kd.R_drewN | apply Kd.R_drew)); exact HO_12.out⟩, ⟨by repeat (first | (with_reducible first | exact HB.out | apply below_alloc | apply pw_below_drewN | apply below_drew1) | exact HB.out)⟩⟩
         ·rw [if_neg c118] at H
          have c118b0 : decide (x13_2 < (t433.length : Int)) = false := decide_eq_false c118
          clear c118
          replace H := Option.bind_eq_some_iff.mp H
          obtain ⟨t480, A1270, H⟩ := H
          replace H : ((entaillaw2_Tames.f k2 l3).bind fun t483 => (if (wrap64 ((wrap64 (0 + 1)) + 1)) < 2 then (none) else ((entaillaw3_awake.f k2).bind fun t486 => (some t486)))) = some r := H
          have A127 := Aside0.mk A1270
          clear A1270
          replace H := Option.bind_eq_some_iff.mp H
          obtain ⟨t483, A1280, H⟩ := H
          replace H : (if (wrap64 ((wrap64 (0 + 1)) + 1)) < 2 then (none) else ((entaillaw3_awake.f k2).bind fun t486 => (some t486))) = some r := H
          have A128 := Aside0.mk A1280
          clear A1280
          by_cases c129 : (wrap64 ((wrap64 (0 + 1)) + 1)) < 2
          ·rw [if_pos c129] at H
           exact absurd H (by simp)
          rw [if_neg c129] at H
          have c129b0 : decide ((wrap64 ((wrap64 (0 + 1)) + 1)) < 2) = false := decide_eq_false c129
          clear c129
          replace H := Option.bind_eq_some_iff.mp H
          obtain ⟨t486, A1300, H⟩ := H
          replace H : (some t486) = some r := H
          have A130 := Aside0.mk A1300
          clear A1300
          obtain rfl := Option.some.inj H
          try go_wp2_with (first | ((with_reducible refine gate_callee (f := 11) rfl ?_); refine goesL_ (some 104) rfl rfl Try.func11 (by kernel_rfl) rfl #[.slice A2 l2.length c2] rfl (by (try simp only [List.map_toArray, List.map_cons, List.map_nil]); first | done | rfl | (simp only [List.length_drop, List.length_take]; rfl)) ?_; (with_reducible refine (entaillaw2_Tames.calls k2 _ _ l2 t480 _ ?side1 ?side2 A127.out).mono ?_); (case side1 => repeat (first | exact (Kd.C_below HR2.out HB.out) | (with_reducible refine Kd.C_alloc ?_ _) | (with_reducible refine Kd.C_drewN ?_ _) | (with_reducible refine Kd.C_drew ?_))); (case side2 => exact HC2.out); rintro e w131 ⟨v481, rfl, ho0, hb⟩; refine ⟨_, rfl, ?_⟩; have n0_ := Aside0.mk (Kd.R_elder' (by (with_reducible repeat (first | apply Kd.R_alloc | apply Kd.R_drewN | apply Kd.R_drew)); exact HO_1.out) (Kd.R_base ho0) hb); have n1_ := Aside0.mk (Kd.R_elder' (by (with_reducible repeat (first | apply Kd.R_alloc | apply Kd.R_drewN | apply Kd.R_drew)); exact HO_12.out) (Kd.R_base ho0) hb); have n2_ := Aside0.mk (Kd.R_lower (Kd.R_new' (Kd.R_new' ho0 (Kd.R_lt (by (with_reducible repeat (first | apply Kd.R_alloc | apply Kd.R_drewN | apply Kd.R_drew)); exact HO_1.out))) (Kd.R_lt (by (with_reducible repeat (first | apply Kd.R_alloc | apply Kd.R_drewN | apply Kd.R_drew)); exact HO_12.out))) (below_size (by repeat (first | (with_reducible first | exact HB.out | apply below_alloc | apply pw_below_drewN | apply below_drew1) | exact HB.out)))); have n3_ := Aside0.mk (below_step (by repeat (first | (with_reducible first | exact HB.out | apply below_alloc | apply pw_below_drewN | apply below_drew1) | exact HB.out)) hb); clear HO_1; clear HO_12; clear HB; have HO_1 := n0_; have HO_12 := n1_; have HO482 := n2_; have HB := n3_; clear n0_ n1_ n2_ n3_; (try clear hb); (try clear hb2); (try clear hk); (try clear hi); (try clear ho0)) | ((with_reducible refine gate_callee (f := 11) rfl ?_); refine goesL_ (some 106) rfl rfl Try.func11 (by kernel_rfl) rfl #[.slice A3 l3.length c3] rfl (by (try simp only [List.map_toArray, List.map_cons, List.map_nil]); first | done | rfl | (simp only [List.length_drop, List.length_take]; rfl)) ?_; (with_reducible refine (entaillaw2_Tames.calls k2 _ _ l3 t483 _ ?side1 ?side2 A128.out).mono ?_); (case side1 => repeat (first | exact (Kd.C_below HR3.out HB.out) | (with_reducible refine Kd.C_alloc ?_ _) | (with_reducible refine Kd.C_drewN ?_ _) | (with_reducible refine Kd.C_drew ?_))); (case side2 => exact HC3.out); rintro e w132 ⟨v484, rfl, ho0, hb⟩; refine ⟨_, rfl, ?_⟩; have n0_ := Aside0.mk (Kd.R_elder' (by (with_reducible repeat (first | apply Kd.R_alloc | apply Kd.R_drewN | apply Kd.R_drew)); exact HO_1.out) (Kd.R_base ho0) hb); have n1_ := Aside0.mk (Kd.R_elder' (by (with_reducible repeat (first | apply Kd.R_alloc | apply Kd.R_drewN | apply Kd.R_drew)); exact HO_12.out) (Kd.R_base ho0) hb); have n2_ := Aside0.mk (Kd.R_elder' (by (with_reducible repeat (first | apply Kd.R_alloc | apply Kd.R_drewN | apply Kd.R_drew)); exact HO482.out) (Kd.R_base ho0) hb); have n3_ := Aside0.mk (Kd.R_lower (Kd.R_new' (Kd.R_new' (Kd.R_new' ho0 (Kd.R_lt (by (with_reducible repeat (first | apply Kd.R_alloc | apply Kd.R_drewN | apply Kd.R_drew)); exact HO_1.out))) (Kd.R_lt (by (with_reducible repeat (first | apply Kd.R_alloc | apply Kd.R_drewN | apply Kd.R_drew)); exact HO_12.out))) (Kd.R_lt (by (with_reducible repeat (first | apply Kd.R_alloc | apply Kd.R_drewN | apply Kd.R_drew)); exact HO482.out))) (below_size (by repeat (first | (with_reducible first | exact HB.out | apply below_alloc | apply pw_below_drewN | apply below_drew1) | exact HB.out)))); have n4_ := Aside0.mk (below_step (by repeat (first | (with_reducible first | exact HB.out | apply below_alloc | apply pw_below_drewN | apply below_drew1) | exact HB.out)) hb); clear HO_1; clear HO_12; clear HO482; clear HB; have HO_1 := n0_; have HO_12 := n1_; have HO482 := n2_; have HO485 := n3_; have HB := n4_; clear n0_ n1_ n2_ n3_ n4_; (try clear hb); (try clear hb2); (try clear hk); (try clear hi); (try clear ho0)))
          rw [rounds_succ]
          try go_wp2_with (first | ((with_reducible refine gate_callee (f := 16) rfl ?_); refine goesL_ (some 107) rfl rfl Try.func16 (by kernel_rfl) rfl #[] rfl (by (try simp only [List.map_toArray, List.map_cons, List.map_nil]); first | done | rfl | (simp only [List.length_drop, List.length_take]; rfl)) ?_; (with_reducible refine (entaillaw3_awake.calls k2  t486 _ A130.out).mono ?_); rintro e w133 ⟨rfl, hb⟩; refine ⟨_, rfl, ?_⟩; have n0_ := Aside0.mk (Kd.R_below (by (with_reducible repeat (first | apply Kd.R_alloc | apply Kd.R_drewN | apply Kd.R_drew)); exact HO_1.out) hb); have n1_ := Aside0.mk (Kd.R_below (by (with_reducible repeat (first | apply Kd.R_alloc | apply Kd.R_drewN | apply Kd.R_drew)); exact HO_12.out) hb); have n2_ := Aside0.mk (Kd.R_below (by (with_reducible repeat (first | apply Kd.R_alloc | apply Kd.R_drewN | apply Kd.R_drew)); exact HO482.out) hb); have n3_ := Aside0.mk (Kd.R_below (by (with_reducible repeat (first | apply Kd.R_alloc | apply Kd.R_drewN | apply Kd.R_drew)); exact HO485.out) hb); have n4_ := Aside0.mk (below_step (by repeat (first | (with_reducible first | exact HB.out | apply below_alloc | apply pw_below_drewN | apply below_drew1) | exact HB.out)) hb); clear HO_1; clear HO_12; clear HO482; clear HO485; clear HB; have HO_1 := n0_; have HO_12 := n1_; have HO482 := n2_; have HO485 := n3_; have HB := n4_; clear n0_ n1_ n2_ n3_ n4_; (try clear hb); (try clear hb2); (try clear hk); (try clear hi)))
          go_ret
          exact ⟨by first | rfl | (simp [errW_none, errW_some] <;> rfl) | (simp [*, errW_none, errW_some] <;> rfl), by repeat (first | (with_reducible first | exact HB.out | apply below_alloc | apply pw_below_drewN | apply below_drew1) | exact HB.out)⟩
   ·rw [if_neg c11] at H
    exact absurd H (by simp)

end Go.Proofs.Ytpgmeaofmlipkaa.PT
