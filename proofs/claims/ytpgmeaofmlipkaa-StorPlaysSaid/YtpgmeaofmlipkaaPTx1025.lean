-- Written by a program of this session (wip/tools/pp.py over the kit's printer). Lean checks it.
import Derived.Test.YtpgmeaofmlipkaaPTx0
import Derived.Test.YtpgmeaofmlipkaaPTx1046
namespace Go.Proofs.Ytpgmeaofmlipkaa.PT
open Go.RowKit Go.Proofs.YtpgmeaofmlipkaaW.PrintWords Go.Proofs.YtpgmeaofmlipkaaW.PrintLast Go.Proofs.YtpgmeaofmlipkaaW.PrintMore
attribute [local go_sem] max2_int min2_int max_two min_two max_three min_three max_four min_four   -- for this text's walks alone
set_option linter.unusedVariables false
set_option linter.unusedSimpArgs false

/-! ### entaillaw2_Tame: function 25 -/
def entaillaw2_Tame.f (a0 : Int) : Option (ByteArray × ByteArray × ByteArray × ByteArray × ByteArray × ByteArray) := (some (([(⟨#[97]⟩ : ByteArray), (⟨#[98]⟩ : ByteArray)] : List ByteArray) : List ByteArray)).bind fun y117 => (if 0 ≤ (Go.bits .and .i64 a0 1) then (if (Go.bits .and .i64 a0 1) < (y117.length : Int) then ((entaillaw1_Nm.f (a0 / 2)).bind fun t121 => ((some (([(⟨#[114]⟩ : ByteArray), (⟨#[115]⟩ : ByteArray)] : List ByteArray) : List ByteArray)).bind fun y122 => (if 0 ≤ (Go.bits .and .i64 (a0 / 16) 1) then (if (Go.bits .and .i64 (a0 / 16) 1) < (y122.length : Int) then ((some (([(⟨#[117]⟩ : ByteArray), (⟨#[97]⟩ : ByteArray), (⟨#[98]⟩ : ByteArray)] : List ByteArray) : List ByteArray)).bind fun y126 => (if 0 ≤ (Int.tmod (Go.bits .and .i64 (a0 / 32) 255) 3) then (if (Int.tmod (Go.bits .and .i64 (a0 / 32) 255) 3) < (y126.length : Int) then ((entaillaw1_Nm.f (a0 / 8192)).bind fun t130 => (if (Go.bits .and .i64 (a0 / 65536) 3) = 0 then ((some (([(⟨#[114]⟩ : ByteArray), (⟨#[115]⟩ : ByteArray)] : List ByteArray) : List ByteArray)).bind fun y132 => (if 0 ≤ (Go.bits .and .i64 (a0 / 262144) 1) then (if (Go.bits .and .i64 (a0 / 262144) 1) < (y132.length : Int) then (some (rdOf ByteArray.empty y117 (Go.bits .and .i64 a0 1), t121, rdOf ByteArray.empty y122 (Go.bits .and .i64 (a0 / 16) 1), rdOf ByteArray.empty y126 (Int.tmod (Go.bits .and .i64 (a0 / 32) 255) 3), t130, rdOf ByteArray.empty y132 (Go.bits .and .i64 (a0 / 262144) 1))) else (none)) else (none))) else (some (rdOf ByteArray.empty y117 (Go.bits .and .i64 a0 1), t121, rdOf ByteArray.empty y122 (Go.bits .and .i64 (a0 / 16) 1), rdOf ByteArray.empty y126 (Int.tmod (Go.bits .and .i64 (a0 / 32) 255) 3), t130, (⟨#[]⟩ : ByteArray))))) else (none)) else (none))) else (none)) else (none)))) else (none)) else (none))
def entaillaw2_Tame.T1 : Bool × List (List Nat × List Nat) := (true, [([], []), ([], []), ([1], [1]), ([0, 2], [0, 2]), ([3], [3]), ([], []), ([5], [5]), ([6], [6]), ([4, 7], [4, 7]), ([], []), ([], []), ([10], [10]), ([11], [11]), ([9, 12], [9, 12]), ([13], [13]), ([], []), ([], []), ([16], [16]), ([17], [17]), ([18], [18]), ([15, 19], [15, 19]), ([20], [20]), ([], []), ([22], [22]), ([23, 7], [23]), ([21, 24], [21, 24]), ([8, 14, 25], [8, 14, 25]), ([], []), ([27, 26, 24, 0, 1, 2, 3, 4, 5, 6, 7, 8, 9, 10, 11, 12, 13, 14, 15, 16, 17, 18, 19, 20, 21, 22, 23, 24, 25, 26, 27], [26, 27])])
def entaillaw2_Tame.B1 : List Nat := [0, 0, 2, 7, 15, 0, 32, 96, 255, 0, 0, 1024, 3072, 7680, 15872, 0, 0, 65536, 196608, 458752, 1015808, 2064384, 0, 4194304, 12583136, 33521888, 67108863, 0, 268435455]
theorem entaillaw2_Tame.tab1 : rtab .any (opsOf Try.f25 1) = entaillaw2_Tame.T1 := by kernel_rfl
theorem entaillaw2_Tame.bits1 : waitsOk entaillaw2_Tame.T1.2 entaillaw2_Tame.B1 = true := by kernel_rfl
set_option maxHeartbeats 8000000 in
set_option maxRecDepth 100000 in
theorem entaillaw2_Tame.calls (a0 : Int) (r1 : ByteArray) (r2 : ByteArray) (r3 : ByteArray) (r4 : ByteArray) (r5 : ByteArray) (r6 : ByteArray) (w : World) (h : entaillaw2_Tame.f a0 = some (r1, r2, r3, r4, r5, r6)) :
  Calls Try.prog 25 #[.int .i64 a0] w fun e w' => e = .returned (.agg #[.string r1, .string r2, .string r3, .string r4, .string r5, .string r6]) ∧ Below w.heap.size w w' := by
 have hu41 := Try.underlying41
 have hu37 := Try.underlying37
 have hu39 := Try.underlying39
 have HB := Aside0.mk (Below.refl w.heap.size w)
 have H : ((some (([(⟨#[97]⟩ : ByteArray), (⟨#[98]⟩ : ByteArray)] : List ByteArray) : List ByteArray)).bind fun y117 => (if 0 ≤ (Go.bits .and .i64 a0 1) then (if (Go.bits .and .i64 a0 1) < (y117.length : Int) then ((entaillaw1_Nm.f (a0 / 2)).bind fun t121 => ((some (([(⟨#[114]⟩ : ByteArray), (⟨#[115]⟩ : ByteArray)] : List ByteArray) : List ByteArray)).bind fun y122 => (if 0 ≤ (Go.bits .and .i64 (a0 / 16) 1) then (if (Go.bits .and .i64 (a0 / 16) 1) < (y122.length : Int) then ((some (([(⟨#[117]⟩ : ByteArray), (⟨#[97]⟩ : ByteArray), (⟨#[98]⟩ : ByteArray)] : List ByteArray) : List ByteArray)).bind fun y126 => (if 0 ≤ (Int.tmod (Go.bits .and .i64 (a0 / 32) 255) 3) then (if (Int.tmod (Go.bits .and .i64 (a0 / 32) 255) 3) < (y126.length : Int) then ((entaillaw1_Nm.f (a0 / 8192)).bind fun t130 => (if (Go.bits .and .i64 (a0 / 65536) 3) = 0 then ((some (([(⟨#[114]⟩ : ByteArray), (⟨#[115]⟩ : ByteArray)] : List ByteArray) : List ByteArray)).bind fun y132 => (if 0 ≤ (Go.bits .and .i64 (a0 / 262144) 1) then (if (Go.bits .and .i64 (a0 / 262144) 1) < (y132.length : Int) then (some (rdOf ByteArray.empty y117 (Go.bits .and .i64 a0 1), t121, rdOf ByteArray.empty y122 (Go.bits .and .i64 (a0 / 16) 1), rdOf ByteArray.empty y126 (Int.tmod (Go.bits .and .i64 (a0 / 32) 255) 3), t130, rdOf ByteArray.empty y132 (Go.bits .and .i64 (a0 / 262144) 1))) else (none)) else (none))) else (some (rdOf ByteArray.empty y117 (Go.bits .and .i64 a0 1), t121, rdOf ByteArray.empty y122 (Go.bits .and .i64 (a0 / 16) 1), rdOf ByteArray.empty y126 (Int.tmod (Go.bits .and .i64 (a0 / 32) 255) 3), t130, (⟨#[]⟩ : ByteArray))))) else (none)) else (none))) else (none)) else (none)))) else (none)) else (none))) = some (r1, r2, r3, r4, r5, r6) := h
 clear h
 obtain ⟨y117, hy117⟩ : ∃ y_ : List ByteArray, y_ = (([(⟨#[97]⟩ : ByteArray), (⟨#[98]⟩ : ByteArray)] : List ByteArray)) := ⟨_, rfl⟩
 replace H : (if 0 ≤ (Go.bits .and .i64 a0 1) then (if (Go.bits .and .i64 a0 1) < (y117.length : Int) then ((entaillaw1_Nm.f (a0 / 2)).bind fun t121 => ((some (([(⟨#[114]⟩ : ByteArray), (⟨#[115]⟩ : ByteArray)] : List ByteArray) : List ByteArray)).bind fun y122 => (if 0 ≤ (Go.bits .and .i64 (a0 / 16) 1) then (if (Go.bits .and .i64 (a0 / 16) 1) < (y122.length : Int) then ((some (([(⟨#[117]⟩ : ByteArray), (⟨#[97]⟩ : ByteArray), (⟨#[98]⟩ : ByteArray)] : List ByteArray) : List ByteArray)).bind fun y126 => (if 0 ≤ (Int.tmod (Go.bits .and .i64 (a0 / 32) 255) 3) then (if (Int.tmod (Go.bits .and .i64 (a0 / 32) 255) 3) < (y126.length : Int) then ((entaillaw1_Nm.f (a0 / 8192)).bind fun t130 => (if (Go.bits .and .i64 (a0 / 65536) 3) = 0 then ((some (([(⟨#[114]⟩ : ByteArray), (⟨#[115]⟩ : ByteArray)] : List ByteArray) : List ByteArray)).bind fun y132 => (if 0 ≤ (Go.bits .and .i64 (a0 / 262144) 1) then (if (Go.bits .and .i64 (a0 / 262144) 1) < (y132.length : Int) then (some (rdOf ByteArray.empty y117 (Go.bits .and .i64 a0 1), t121, rdOf ByteArray.empty y122 (Go.bits .and .i64 (a0 / 16) 1), rdOf ByteArray.empty y126 (Int.tmod (Go.bits .and .i64 (a0 / 32) 255) 3), t130, rdOf ByteArray.empty y132 (Go.bits .and .i64 (a0 / 262144) 1))) else (none)) else (none))) else (some (rdOf ByteArray.empty y117 (Go.bits .and .i64 a0 1), t121, rdOf ByteArray.empty y122 (Go.bits .and .i64 (a0 / 16) 1), rdOf ByteArray.empty y126 (Int.tmod (Go.bits .and .i64 (a0 / 32) 255) 3), t130, (⟨#[]⟩ : ByteArray))))) else (none)) else (none))) else (none)) else (none)))) else (none)) else (none)) = some (r1, r2, r3, r4, r5, r6) := by first | (rw [hy117]; with_reducible exact H) | (have H2_ := (Option.bind_some _ _).symm.trans H; rw [hy117]; with_reducible exact H2_) | (have H2_ := (Option.bind_some _ _).symm.trans H; with_reducible exact H2_) | with_reducible exact H | (rw [hy117]; exact H) | exact H
 have Ny117 := Aside0.mk hy117
 clear hy117
 by_cases c2 : 0 ≤ (Go.bits .and .i64 a0 1)
 ·rw [if_pos c2] at H
  have c2b0 : decide (0 ≤ (Go.bits .and .i64 a0 1)) = true := decide_eq_true c2
  clear c2
  by_cases c3 : (Go.bits .and .i64 a0 1) < (y117.length : Int)
  rotate_left
  ·rw [if_neg c3] at H
   exact absurd H (by simp)
  rw [if_pos c3] at H
  have c3b0 : decide ((Go.bits .and .i64 a0 1) < (y117.length : Int)) = true := decide_eq_true c3
  clear c3
  replace H := Option.bind_eq_some_iff.mp H
  obtain ⟨t121, A40, H⟩ := H
  replace H : ((some (([(⟨#[114]⟩ : ByteArray), (⟨#[115]⟩ : ByteArray)] : List ByteArray) : List ByteArray)).bind fun y122 => (if 0 ≤ (Go.bits .and .i64 (a0 / 16) 1) then (if (Go.bits .and .i64 (a0 / 16) 1) < (y122.length : Int) then ((some (([(⟨#[117]⟩ : ByteArray), (⟨#[97]⟩ : ByteArray), (⟨#[98]⟩ : ByteArray)] : List ByteArray) : List ByteArray)).bind fun y126 => (if 0 ≤ (Int.tmod (Go.bits .and .i64 (a0 / 32) 255) 3) then (if (Int.tmod (Go.bits .and .i64 (a0 / 32) 255) 3) < (y126.length : Int) then ((entaillaw1_Nm.f (a0 / 8192)).bind fun t130 => (if (Go.bits .and .i64 (a0 / 65536) 3) = 0 then ((some (([(⟨#[114]⟩ : ByteArray), (⟨#[115]⟩ : ByteArray)] : List ByteArray) : List ByteArray)).bind fun y132 => (if 0 ≤ (Go.bits .and .i64 (a0 / 262144) 1) then (if (Go.bits .and .i64 (a0 / 262144) 1) < (y132.length : Int) then (some (rdOf ByteArray.empty y117 (Go.bits .and .i64 a0 1), t121, rdOf ByteArray.empty y122 (Go.bits .and .i64 (a0 / 16) 1), rdOf ByteArray.empty y126 (Int.tmod (Go.bits .and .i64 (a0 / 32) 255) 3), t130, rdOf ByteArray.empty y132 (Go.bits .and .i64 (a0 / 262144) 1))) else (none)) else (none))) else (some (rdOf ByteArray.empty y117 (Go.bits .and .i64 a0 1), t121, rdOf ByteArray.empty y122 (Go.bits .and .i64 (a0 / 16) 1), rdOf ByteArray.empty y126 (Int.tmod (Go.bits .and .i64 (a0 / 32) 255) 3), t130, (⟨#[]⟩ : ByteArray))))) else (none)) else (none))) else (none)) else (none))) = some (r1, r2, r3, r4, r5, r6) := H
  have A4 := Aside0.mk A40
  clear A40
  obtain ⟨y122, hy122⟩ : ∃ y_ : List ByteArray, y_ = (([(⟨#[114]⟩ : ByteArray), (⟨#[115]⟩ : ByteArray)] : List ByteArray)) := ⟨_, rfl⟩
  replace H : (if 0 ≤ (Go.bits .and .i64 (a0 / 16) 1) then (if (Go.bits .and .i64 (a0 / 16) 1) < (y122.length : Int) then ((some (([(⟨#[117]⟩ : ByteArray), (⟨#[97]⟩ : ByteArray), (⟨#[98]⟩ : ByteArray)] : List ByteArray) : List ByteArray)).bind fun y126 => (if 0 ≤ (Int.tmod (Go.bits .and .i64 (a0 / 32) 255) 3) then (if (Int.tmod (Go.bits .and .i64 (a0 / 32) 255) 3) < (y126.length : Int) then ((entaillaw1_Nm.f (a0 / 8192)).bind fun t130 => (if (Go.bits .and .i64 (a0 / 65536) 3) = 0 then ((some (([(⟨#[114]⟩ : ByteArray), (⟨#[115]⟩ : ByteArray)] : List ByteArray) : List ByteArray)).bind fun y132 => (if 0 ≤ (Go.bits .and .i64 (a0 / 262144) 1) then (if (Go.bits .and .i64 (a0 / 262144) 1) < (y132.length : Int) then (some (rdOf ByteArray.empty y117 (Go.bits .and .i64 a0 1), t121, rdOf ByteArray.empty y122 (Go.bits .and .i64 (a0 / 16) 1), rdOf ByteArray.empty y126 (Int.tmod (Go.bits .and .i64 (a0 / 32) 255) 3), t130, rdOf ByteArray.empty y132 (Go.bits .and .i64 (a0 / 262144) 1))) else (none)) else (none))) else (some (rdOf ByteArray.empty y117 (Go.bits .and .i64 a0 1), t121, rdOf ByteArray.empty y122 (Go.bits .and .i64 (a0 / 16) 1), rdOf ByteArray.empty y126 (Int.tmod (Go.bits .and .i64 (a0 / 32) 255) 3), t130, (⟨#[]⟩ : ByteArray))))) else (none)) else (none))) else (none)) else (none)) = some (r1, r2, r3, r4, r5, r6) := by first | (rw [hy122]; with_reducible exact H) | (have H2_ := (Option.bind_some _ _).symm.trans H; rw [hy122]; with_reducible exact H2_) | (have H2_ := (Option.bind_some _ _).symm.trans H; with_reducible exact H2_) | with_reducible exact H | (rw [hy122]; exact H) | exact H
  have Ny122 := Aside0.mk hy122
  clear hy122
  obtain ⟨ji5, hji5⟩ : ∃ j_ : Int, (Go.bits .and .i64 (a0 / 16) 1) = j_ := ⟨_, rfl⟩
  replace H : (if 0 ≤ (ji5) then (if (ji5) < (y122.length : Int) then ((some (([(⟨#[117]⟩ : ByteArray), (⟨#[97]⟩ : ByteArray), (⟨#[98]⟩ : ByteArray)] : List ByteArray) : List ByteArray)).bind fun y126 => (if 0 ≤ (Int.tmod (Go.bits .and .i64 (a0 / 32) 255) 3) then (if (Int.tmod (Go.bits .and .i64 (a0 / 32) 255) 3) < (y126.length : Int) then ((entaillaw1_Nm.f (a0 / 8192)).bind fun t130 => (if (Go.bits .and .i64 (a0 / 65536) 3) = 0 then ((some (([(⟨#[114]⟩ : ByteArray), (⟨#[115]⟩ : ByteArray)] : List ByteArray) : List ByteArray)).bind fun y132 => (if 0 ≤ (Go.bits .and .i64 (a0 / 262144) 1) then (if (Go.bits .and .i64 (a0 / 262144) 1) < (y132.length : Int) then (some (rdOf ByteArray.empty y117 (Go.bits .and .i64 a0 1), t121, rdOf ByteArray.empty y122 (ji5), rdOf ByteArray.empty y126 (Int.tmod (Go.bits .and .i64 (a0 / 32) 255) 3), t130, rdOf ByteArray.empty y132 (Go.bits .and .i64 (a0 / 262144) 1))) else (none)) else (none))) else (some (rdOf ByteArray.empty y117 (Go.bits .and .i64 a0 1), t121, rdOf ByteArray.empty y122 (ji5), rdOf ByteArray.empty y126 (Int.tmod (Go.bits .and .i64 (a0 / 32) 255) 3), t130, (⟨#[]⟩ : ByteArray))))) else (none)) else (none))) else (none)) else (none)) = some (r1, r2, r3, r4, r5, r6) := by first | (rw [hji5] at H; exact H) | (simp only [hji5] at H ⊢; exact H)
  (try rw [hji5] at A4)
  by_cases c6 : 0 ≤ (ji5)
  rotate_left
  ·rw [if_neg c6] at H
   exact absurd H (by simp)
  rw [if_pos c6] at H
  have c6b0 : decide (0 ≤ (ji5)) = true := decide_eq_true c6
  clear c6
  by_cases c7 : (ji5) < (y122.length : Int)
  rotate_left
  ·rw [if_neg c7] at H
   exact absurd H (by simp)
  rw [if_pos c7] at H
  have c7b0 : decide ((ji5) < (y122.length : Int)) = true := decide_eq_true c7
  clear c7
  obtain ⟨y126, hy126⟩ : ∃ y_ : List ByteArray, y_ = (([(⟨#[117]⟩ : ByteArray), (⟨#[97]⟩ : ByteArray), (⟨#[98]⟩ : ByteArray)] : List ByteArray)) := ⟨_, rfl⟩
  replace H : (if 0 ≤ (Int.tmod (Go.bits .and .i64 (a0 / 32) 255) 3) then (if (Int.tmod (Go.bits .and .i64 (a0 / 32) 255) 3) < (y126.length : Int) then ((entaillaw1_Nm.f (a0 / 8192)).bind fun t130 => (if (Go.bits .and .i64 (a0 / 65536) 3) = 0 then ((some (([(⟨#[114]⟩ : ByteArray), (⟨#[115]⟩ : ByteArray)] : List ByteArray) : List ByteArray)).bind fun y132 => (if 0 ≤ (Go.bits .and .i64 (a0 / 262144) 1) then (if (Go.bits .and .i64 (a0 / 262144) 1) < (y132.length : Int) then (some (rdOf ByteArray.empty y117 (Go.bits .and .i64 a0 1), t121, rdOf ByteArray.empty y122 (ji5), rdOf ByteArray.empty y126 (Int.tmod (Go.bits .and .i64 (a0 / 32) 255) 3), t130, rdOf ByteArray.empty y132 (Go.bits .and .i64 (a0 / 262144) 1))) else (none)) else (none))) else (some (rdOf ByteArray.empty y117 (Go.bits .and .i64 a0 1), t121, rdOf ByteArray.empty y122 (ji5), rdOf ByteArray.empty y126 (Int.tmod (Go.bits .and .i64 (a0 / 32) 255) 3), t130, (⟨#[]⟩ : ByteArray))))) else (none)) else (none)) = some (r1, r2, r3, r4, r5, r6) := by first | (rw [hy126]; with_reducible exact H) | (have H2_ := (Option.bind_some _ _).symm.trans H; rw [hy126]; with_reducible exact H2_) | (have H2_ := (Option.bind_some _ _).symm.trans H; with_reducible exact H2_) | with_reducible exact H | (rw [hy126]; exact H) | exact H
  have Ny126 := Aside0.mk hy126
  clear hy126
  obtain ⟨ji8, hji8⟩ : ∃ j_ : Int, (Int.tmod (Go.bits .and .i64 (a0 / 32) 255) 3) = j_ := ⟨_, rfl⟩
  replace H : (if 0 ≤ (ji8) then (if (ji8) < (y126.length : Int) then ((entaillaw1_Nm.f (a0 / 8192)).bind fun t130 => (if (Go.bits .and .i64 (a0 / 65536) 3) = 0 then ((some (([(⟨#[114]⟩ : ByteArray), (⟨#[115]⟩ : ByteArray)] : List ByteArray) : List ByteArray)).bind fun y132 => (if 0 ≤ (Go.bits .and .i64 (a0 / 262144) 1) then (if (Go.bits .and .i64 (a0 / 262144) 1) < (y132.length : Int) then (some (rdOf ByteArray.empty y117 (Go.bits .and .i64 a0 1), t121, rdOf ByteArray.empty y122 (ji5), rdOf ByteArray.empty y126 (ji8), t130, rdOf ByteArray.empty y132 (Go.bits .and .i64 (a0 / 262144) 1))) else (none)) else (none))) else (some (rdOf ByteArray.empty y117 (Go.bits .and .i64 a0 1), t121, rdOf ByteArray.empty y122 (ji5), rdOf ByteArray.empty y126 (ji8), t130, (⟨#[]⟩ : ByteArray))))) else (none)) else (none)) = some (r1, r2, r3, r4, r5, r6) := by first | (rw [hji8] at H; exact H) | (simp only [hji8] at H ⊢; exact H)
  (try rw [hji8] at A4)
  by_cases c9 : 0 ≤ (ji8)
  rotate_left
  ·rw [if_neg c9] at H
   exact absurd H (by simp)
  rw [if_pos c9] at H
  have c9b0 : decide (0 ≤ (ji8)) = true := decide_eq_true c9
  clear c9
  by_cases c10 : (ji8) < (y126.length : Int)
  rotate_left
  ·rw [if_neg c10] at H
   exact absurd H (by simp)
  rw [if_pos c10] at H
  have c10b0 : decide ((ji8) < (y126.length : Int)) = true := decide_eq_true c10
  clear c10
  replace H := Option.bind_eq_some_iff.mp H
  obtain ⟨t130, A110, H⟩ := H
  replace H : (if (Go.bits .and .i64 (a0 / 65536) 3) = 0 then ((some (([(⟨#[114]⟩ : ByteArray), (⟨#[115]⟩ : ByteArray)] : List ByteArray) : List ByteArray)).bind fun y132 => (if 0 ≤ (Go.bits .and .i64 (a0 / 262144) 1) then (if (Go.bits .and .i64 (a0 / 262144) 1) < (y132.length : Int) then (some (rdOf ByteArray.empty y117 (Go.bits .and .i64 a0 1), t121, rdOf ByteArray.empty y122 (ji5), rdOf ByteArray.empty y126 (ji8), t130, rdOf ByteArray.empty y132 (Go.bits .and .i64 (a0 / 262144) 1))) else (none)) else (none))) else (some (rdOf ByteArray.empty y117 (Go.bits .and .i64 a0 1), t121, rdOf ByteArray.empty y122 (ji5), rdOf ByteArray.empty y126 (ji8), t130, (⟨#[]⟩ : ByteArray)))) = some (r1, r2, r3, r4, r5, r6) := H
  have A11 := Aside0.mk A110
  clear A110
  by_cases c12 : (Go.bits .and .i64 (a0 / 65536) 3) = 0
  ·rw [if_pos c12] at H
   have c12b0 : ((Go.bits .and .i64 (a0 / 65536) 3) == 0) = true := beq_iff_eq.mpr c12
   have c12b1 : ((Go.bits .and .i64 (a0 / 65536) 3) != 0) = false := bne_eq_false_iff_eq.mpr c12
   clear c12
   obtain ⟨y132, hy132⟩ : ∃ y_ : List ByteArray, y_ = (([(⟨#[114]⟩ : ByteArray), (⟨#[115]⟩ : ByteArray)] : List ByteArray)) := ⟨_, rfl⟩
   replace H : (if 0 ≤ (Go.bits .and .i64 (a0 / 262144) 1) then (if (Go.bits .and .i64 (a0 / 262144) 1) < (y132.length : Int) then (some (rdOf ByteArray.empty y117 (Go.bits .and .i64 a0 1), t121, rdOf ByteArray.empty y122 (ji5), rdOf ByteArray.empty y126 (ji8), t130, rdOf ByteArray.empty y132 (Go.bits .and .i64 (a0 / 262144) 1))) else (none)) else (none)) = some (r1, r2, r3, r4, r5, r6) := by first | (rw [hy132]; with_reducible exact H) | (have H2_ := (Option.bind_some _ _).symm.trans H; rw [hy132]; with_reducible exact H2_) | (have H2_ := (Option.bind_some _ _).symm.trans H; with_reducible exact H2_) | with_reducible exact H | (rw [hy132]; exact H) | exact H
   have Ny132 := Aside0.mk hy132
   clear hy132
   obtain ⟨ji13, hji13⟩ : ∃ j_ : Int, (Go.bits .and .i64 (a0 / 262144) 1) = j_ := ⟨_, rfl⟩
   replace H : (if 0 ≤ (ji13) then (if (ji13) < (y132.length : Int) then (some (rdOf ByteArray.empty y117 (Go.bits .and .i64 a0 1), t121, rdOf ByteArray.empty y122 (ji5), rdOf ByteArray.empty y126 (ji8), t130, rdOf ByteArray.empty y132 (ji13))) else (none)) else (none)) = some (r1, r2, r3, r4, r5, r6) := by first | (rw [hji13] at H; exact H) | (simp only [hji13] at H ⊢; exact H)
   (try rw [hji13] at A4)
   (try rw [hji13] at A11)
   by_cases c14 : 0 ≤ (ji13)
   rotate_left
   ·rw [if_neg c14] at H
    exact absurd H (by simp)
   rw [if_pos c14] at H
   have c14b0 : decide (0 ≤ (ji13)) = true := decide_eq_true c14
   clear c14
   by_cases c15 : (ji13) < (y132.length : Int)
   rotate_left
   ·rw [if_neg c15] at H
    exact absurd H (by simp)
   rw [if_pos c15] at H
   have c15b0 : decide ((ji13) < (y132.length : Int)) = true := decide_eq_true c15
   clear c15
   simp only [Option.some.injEq, Prod.mk.injEq] at H
   obtain ⟨rfl, rfl, rfl, rfl, rfl, rfl⟩ := H
   go_enter Try.func25, Try.ntmps25
   try go_wp2_with (first | ((with_reducible refine gate_dst (N := 2) rfl ?_); refine box_event ?hg (N := 2) ?hd (cs := #[.string (⟨#[]⟩ : ByteArray), .string (⟨#[]⟩ : ByteArray), .string (⟨#[]⟩ : ByteArray), .string (⟨#[]⟩ : ByteArray), .string (⟨#[]⟩ : ByteArray), .string (⟨#[]⟩ : ByteArray)]) (t := 41) ?hr ?_; (case hd => rfl); (case hg => rfl); (case hr => first | (go_simp; done) | (go_simp; rfl)); intro gb116 hg w16 hbox hb; have n0_ := Aside0.mk (below_step (by repeat (first | (with_reducible first | exact HB.out | apply below_alloc | apply pw_below_drewN | apply below_drew1) | exact HB.out)) hb); have n1_ := Aside0.mk (hbox); have n2_ := Aside0.mk ((by rw [hg]; exact (below_size (by repeat (first | (with_reducible first | exact HB.out | apply below_alloc | apply pw_below_drewN | apply below_drew1) | exact HB.out))) : w.heap.size ≤ gb116)); have n3_ := Aside0.mk ((by rw [hg]; exact (below_size (by repeat (first | (with_reducible first | exact HB.out | apply below_alloc | apply pw_below_drewN | apply below_drew1) | exact HB.out))) : w.heap.size ≤ gb116)); clear HB; have HB := n0_; have BK116 := n1_; have GW116 := n2_; have GE116 := n3_; clear n0_ n1_ n2_ n3_; clear hb hbox hg))
   have pi120 : (0 ≤ ((Go.bits .and .i64 a0 1) : Int)) = True := eq_true (of_decide_eq_true (by first | (with_reducible assumption) | assumption))
   have qi120 : ((Go.bits .and .i64 a0 1) < (y117.length : Int)) = True := eq_true (of_decide_eq_true (by first | (with_reducible assumption) | assumption))
   have pi125 : (0 ≤ ((ji5) : Int)) = True := eq_true (of_decide_eq_true (by first | (with_reducible assumption) | assumption))
   have qi125 : ((ji5) < (y122.length : Int)) = True := eq_true (of_decide_eq_true (by first | (with_reducible assumption) | assumption))
   have pi129 : (0 ≤ ((ji8) : Int)) = True := eq_true (of_decide_eq_true (by first | (with_reducible assumption) | assumption))
   have qi129 : ((ji8) < (y126.length : Int)) = True := eq_true (of_decide_eq_true (by first | (with_reducible assumption) | assumption))
   have n0_ := Aside0.mk (blk_drew BK116.out)
   have n1_ := Aside0.mk (below_drew1 HB.out)
   clear BK116
   clear HB
   have BK116 := n0_
   have HB := n1_
   clear n0_ n1_
   refine start_ (n := 29) (S := fun w' => True) (ds := []) #[F,F,F,F,F,F,F,F,F,F,F,F,F,F,F,F,F,F,F,F,F,F,F,F,F,F,F,F,F] (by kernel_rfl) rfl rfl trivial (fun hHeld => ?_); refine with_tabW entaillaw2_Tame.tab1 entaillaw2_Tame.bits1 (fun HT_ HW_ => ?_)
   generalize w16.drew = w17 at BK116 HB hHeld ⊢
   refine pure_ (i := 1) (N := some 5) (v := ?_) (a' := ?_) #[F,T,F,F,F,F,F,F,F,F,F,F,F,F,F,F,F,F,F,F,F,F,F,F,F,F,F,F,F] rfl rfl (any_of HT_.out (by kernel_rfl)) (fun _ _ _ h => h) (Or.inl ⟨by rfl, ?_⟩) ?_ ?_
   rotate_left
   ·intro w'
    go_simp
    with_reducible rfl
   rotate_left
   ·simp only [Act.put, sa_, sz_, ss_, i64_w, i32_w]
    rfl
   refine pure_ (i := 5) (N := some 9) (v := ?_) (a' := ?_) #[F,T,F,F,F,T,F,F,F,F,F,F,F,F,F,F,F,F,F,F,F,F,F,F,F,F,F,F,F] rfl rfl (any_of HT_.out (by kernel_rfl)) (fun _ _ _ h => h) (Or.inl ⟨by rfl, ?_⟩) ?_ ?_
   rotate_left
   ·intro w'
    go_simp
    with_reducible rfl
   rotate_left
   ·simp only [Act.put, sa_, sz_, ss_, i64_w, i32_w]
    rfl
   refine pure_ (i := 10) (N := some 14) (v := ?_) (a' := ?_) #[F,T,F,F,F,T,F,F,F,F,T,F,F,F,F,F,F,F,F,F,F,F,F,F,F,F,F,F,F] rfl rfl (any_of HT_.out (by kernel_rfl)) (fun _ _ _ h => h) (Or.inl ⟨by rfl, ?_⟩) ?_ ?_
   rotate_left
   ·intro w'
    go_simp
    with_reducible rfl
   rotate_left
   ·simp only [Act.put, sa_, sz_, ss_, i64_w, i32_w]
    rfl
   refine pure_ (i := 16) (N := some 20) (v := ?_) (a' := ?_) #[F,T,F,F,F,T,F,F,F,F,T,F,F,F,F,F,T,F,F,F,F,F,F,F,F,F,F,F,F] rfl rfl (any_of HT_.out (by kernel_rfl)) (fun _ _ _ h => h) (Or.inl ⟨by rfl, ?_⟩) ?_ ?_
   rotate_left
   ·intro w'
    go_simp
    with_reducible rfl
   rotate_left
   ·simp only [Act.put, sa_, sz_, ss_, i64_w, i32_w]
    rfl
   refine pure_ (i := 22) (N := some 26) (v := ?_) (a' := ?_) #[F,T,F,F,F,T,F,F,F,F,T,F,F,F,F,F,T,F,F,F,F,F,T,F,F,F,F,F,F] rfl rfl (any_of HT_.out (by kernel_rfl)) (fun _ _ _ h => h) (Or.inl ⟨by rfl, ?_⟩) ?_ ?_
   rotate_left
   ·intro w'
    go_simp
    with_reducible rfl
   rotate_left
   ·simp only [Act.put, sa_, sz_, ss_, i64_w, i32_w]
    rfl
   refine inv_at [0, 2, 3, 4, 6, 7, 8, 9, 11, 12, 13, 14, 15, 17, 18, 19, 20, 21, 23, 24, 25, 26, 27, 28] (fun a0_ b a w' => ∃ (v118 : Value) (adz_v118 : Addr) (v123 : Value) (adz_v123 : Addr) (v127 : Value) (adz_v127 : Addr) (gb131 : Nat) (m3_ : Value) (m13_ : Value) (m20_ : Value) (m27_ : Value), a = putSel a0_ b [(0, 4, v118), (2, 6, .int .i64 (Go.bits .and .i64 a0 1)), (3, 7, m3_), (4, 8, .string (rdOf ByteArray.empty y117 (Go.bits .and .i64 a0 1))), (6, 10, .int .i64 (a0 / 2)), (7, 11, .string t121), (8, 12, .agg #[.string (rdOf ByteArray.empty y117 (Go.bits .and .i64 a0 1)), .string t121]), (9, 13, v123), (11, 15, .int .i64 (a0 / 16)), (12, 16, .int .i64 ji5), (13, 17, m13_), (14, 18, .string (rdOf ByteArray.empty y122 (ji5))), (15, 19, v127), (17, 21, .int .i64 (a0 / 32)), (18, 22, .int .i64 (Go.bits .and .i64 (a0 / 32) 255)), (19, 23, .int .i64 ji8), (20, 24, m20_), (21, 25, .string (rdOf ByteArray.empty y126 (ji8))), (23, 27, .int .i64 (a0 / 8192)), (24, 28, .string t130), (25, 29, .agg #[.string (rdOf ByteArray.empty y126 (ji8)), .string t130, .string (⟨#[]⟩ : ByteArray)]), (26, 30, .agg #[.string (rdOf ByteArray.empty y117 (Go.bits .and .i64 a0 1)), .string t121, .string (rdOf ByteArray.empty y122 (ji5)), .string (rdOf ByteArray.empty y126 (ji8)), .string t130, .string (⟨#[]⟩ : ByteArray)]), (27, 3, m27_)] ∧ (w'.heap[gb116]? = some (.cells #[.string (⟨#[]⟩ : ByteArray), .string (⟨#[]⟩ : ByteArray), .string (⟨#[]⟩ : ByteArray), .string (⟨#[]⟩ : ByteArray), .string (⟨#[]⟩ : ByteArray), .string (⟨#[]⟩ : ByteArray)] 41 (0, 0))) ∧ (Below w.heap.size w w') ∧ (b 0 = true → Kd.R Kd.string 9 w' w.heap.size (fun _ => True) v118 y117) ∧ (b 0 = true → ∃ c_, (v118 : Value) = .slice (some adz_v118) y117.length c_) ∧ (b 9 = true → Kd.R Kd.string 9 w' w.heap.size (fun _ => True) v123 y122) ∧ (b 9 = true → ∃ c_, (v123 : Value) = .slice (some adz_v123) y122.length c_) ∧ (b 15 = true → Kd.R Kd.string 9 w' w.heap.size (fun _ => True) v127 y126) ∧ (b 15 = true → ∃ c_, (v127 : Value) = .slice (some adz_v127) y126.length c_) ∧ (b 27 = true → b 28 = false → w'.heap[gb131]? = some (.cells #[.string (⟨#[]⟩ : ByteArray), .string (⟨#[]⟩ : ByteArray), .string (⟨#[]⟩ : ByteArray), .string (⟨#[]⟩ : ByteArray), .string (⟨#[]⟩ : ByteArray), .string (⟨#[]⟩ : ByteArray)] 41 (0, 0))) ∧ (b 27 = true → w.heap.size ≤ gb131) ∧ (b 27 = true → w.heap.size ≤ gb131) ∧ (b 27 = true → gb116 ≠ gb131) ∧ (b 27 = true → gb131 ≠ gb116) ∧ (b 28 = true → w'.heap[gb131]? = some (.cells #[.string (rdOf ByteArray.empty y117 (Go.bits .and .i64 a0 1)), .string t121, .string (rdOf ByteArray.empty y122 (ji5)), .string (rdOf ByteArray.empty y126 (ji8)), .string t130, .string (⟨#[]⟩ : ByteArray)] 41 (0, 0))) ∧ (b 3 = true → (m3_ : Value) = .pointer (some (adz_v118.add ((Go.bits .and .i64 a0 1)).toNat))) ∧ (b 13 = true → (m13_ : Value) = .pointer (some (adz_v123.add ((ji5)).toNat))) ∧ (b 20 = true → (m20_ : Value) = .pointer (some (adz_v127.add ((ji8)).toNat))) ∧ (b 27 = true → (m27_ : Value) = .pointer (some ⟨gb131, 0, none⟩))) HT_.out HW_.out (by kernel_rfl) (by kernel_rfl) ?_ ?_ ?_
   ·exact ⟨.bool false, ⟨0, 0, none⟩, .bool false, ⟨0, 0, none⟩, .bool false, ⟨0, 0, none⟩, 0, .bool false, .bool false, .bool false, .bool false, by simp only [putSel, Bool.false_eq_true, if_false], BK116.out, HB.out, fun h_ => absurd h_ (by decide), fun h_ => absurd h_ (by decide), fun h_ => absurd h_ (by decide), fun h_ => absurd h_ (by decide), fun h_ => absurd h_ (by decide), fun h_ => absurd h_ (by decide), fun h_ => absurd h_ (by decide), fun h_ => absurd h_ (by decide), fun h_ => absurd h_ (by decide), fun h_ => absurd h_ (by decide), fun h_ => absurd h_ (by decide), fun h_ => absurd h_ (by decide), fun h_ => absurd h_ (by decide), fun h_ => absurd h_ (by decide), fun h_ => absurd h_ (by decide), fun h_ => absurd h_ (by decide)⟩
   ·skip
    clear BK116 HB
    refine steps_cons ?_ ?_
    ·rintro b a w' ⟨v118, adz_v118, v123, adz_v123, v127, adz_v127, gb131, m3_, m13_, m20_, m27_, ha, Q_BK116, Q_HB, Q_HO119, Q_HA_HO119, Q_HO124, Q_HA_HO124, Q_HO128, Q_HA_HO128, Q_BK131, Q_GW131, Q_GE131, Q_NB116_131, Q_NB131_116, Q_BK131_e28, Q_X3_, Q_X13_, Q_X20_, Q_X27_⟩ hb_ hon hoff
     refine ⟨_, rfl, fun K hK => ?_⟩
     replace ha := Aside0.mk ha
     have BK116 := Aside0.mk Q_BK116
     have HB := Aside0.mk Q_HB
     refine Kd.R_lit_step Kd.string _ 9 ?hg (N := 4) ?hd (xs := ([(⟨#[97]⟩ : ByteArray), (⟨#[98]⟩ : ByteArray)] : List ByteArray)) (inner := [.string (⟨#[97]⟩ : ByteArray), .string (⟨#[98]⟩ : ByteArray)]) (ok := fun _ => True) (okp := fun _ => True) ?hr ?hp (fun _ hk => hk) trivial (Below.refl _ _) (Nat.le_refl _) (by simp) ?_; (case hd => rfl); (case hg => rfl); (case hr => first | (go_simp; done) | (go_simp; rfl)); (case hp => exact (Reps.one (show Kd.M Kd.string _ _ _ (⟨#[97]⟩ : ByteArray) [.string (⟨#[97]⟩ : ByteArray)] from rfl) (Reps.one (show Kd.M Kd.string _ _ _ (⟨#[98]⟩ : ByteArray) [.string (⟨#[98]⟩ : ByteArray)] from rfl) (Reps.none _ _))))
     intro v118 w18 ho19 hb hg_ hnew_
     clear hg_ hnew_
     (first | rw [← Ny117.out] at ho19 | (simp only [Int.reduceToNat] at ho19; rw [← Ny117.out] at ho19))
     have n0_ := Aside0.mk (Kd.R_lower ho19 (below_size (by repeat (first | (with_reducible first | exact HB.out | apply below_alloc | apply pw_below_drewN | apply below_drew1 | refine below_set ?_ GE116.out) | exact HB.out))))
     have n1_ := Aside0.mk (blk_below (g := gb116) (o := .cells #[.string (⟨#[]⟩ : ByteArray), .string (⟨#[]⟩ : ByteArray), .string (⟨#[]⟩ : ByteArray), .string (⟨#[]⟩ : ByteArray), .string (⟨#[]⟩ : ByteArray), .string (⟨#[]⟩ : ByteArray)] 41 (0, 0)) (by (with_reducible repeat (first | refine blk_drewN ?_ _ | refine blk_drew ?_ | refine blk_alloc ?_ _)); exact BK116.out) hb)
     have n2_ := Aside0.mk (below_step (by repeat (first | (with_reducible first | exact HB.out | apply below_alloc | apply pw_below_drewN | apply below_drew1 | refine below_set ?_ GE116.out) | exact HB.out)) hb)
     have z_HO124 := fun (h0_ : b 9 = true) => (show Kd.R Kd.string 9 w18 w.heap.size (fun _ => True) v123 y122 from by first | exact (Kd.R_elder' (by (with_reducible repeat (first | apply Kd.R_alloc | apply Kd.R_drewN | apply Kd.R_drew)); exact (Q_HO124 h0_)) (Kd.R_base ho19) hb) | exact Kd.R_mono (Kd.R_elder' (by (with_reducible repeat (first | apply Kd.R_alloc | apply Kd.R_drewN | apply Kd.R_drew)); exact (Q_HO124 h0_)) (Kd.R_base ho19) hb) (fun _ h_ => by first | trivial | exact h_ | exact h_.1))
     have z_HO128 := fun (h0_ : b 15 = true) => (show Kd.R Kd.string 9 w18 w.heap.size (fun _ => True) v127 y126 from by first | exact (Kd.R_elder' (by (with_reducible repeat (first | apply Kd.R_alloc | apply Kd.R_drewN | apply Kd.R_drew)); exact (Q_HO128 h0_)) (Kd.R_base ho19) hb) | exact Kd.R_mono (Kd.R_elder' (by (with_reducible repeat (first | apply Kd.R_alloc | apply Kd.R_drewN | apply Kd.R_drew)); exact (Q_HO128 h0_)) (Kd.R_base ho19) hb) (fun _ h_ => by first | trivial | exact h_ | exact h_.1))
     have z_BK131 := fun (h0_ : b 27 = true) (h1_ : b 28 = false) => (show w18.heap[gb131]? = some (.cells #[.string (⟨#[]⟩ : ByteArray), .string (⟨#[]⟩ : ByteArray), .string (⟨#[]⟩ : ByteArray), .string (⟨#[]⟩ : ByteArray), .string (⟨#[]⟩ : ByteArray), .string (⟨#[]⟩ : ByteArray)] 41 (0, 0)) from by first | exact (blk_below (g := gb131) (o := .cells #[.string (⟨#[]⟩ : ByteArray), .string (⟨#[]⟩ : ByteArray), .string (⟨#[]⟩ : ByteArray), .string (⟨#[]⟩ : ByteArray), .string (⟨#[]⟩ : ByteArray), .string (⟨#[]⟩ : ByteArray)] 41 (0, 0)) (by (with_reducible repeat (first | refine blk_drewN ?_ _ | refine blk_drew ?_ | refine blk_alloc ?_ _)); exact (Q_BK131 h0_ h1_)) hb))
     clear BK116
     clear HB
     have HO119 := n0_
     have BK116 := n1_
     have HB := n2_
     clear n0_ n1_ n2_
     clear hb ho19
     obtain ⟨Ao20, co20, eo20⟩ := Kd.R_slice HO119.out
     subst eo20
     obtain ⟨ado20, fo20, _⟩ := Kd.at_string (Kd.R_reads' HO119.out).2.2 0 (by decide) (by rw [Ny117.out]; simp)
     cases fo20
     refine hK.out _ _ ⟨.slice (some ado20) y117.length co20, ado20, v123, adz_v123, v127, adz_v127, gb131, m3_, m13_, m20_, m27_, (by rw [ha.out]; exact putSel_upk 0 hb_ rfl rfl rfl), (by (with_reducible repeat (first | refine blk_drewN ?_ _ | refine blk_drew ?_ | refine blk_alloc ?_ _)); exact BK116.out), (by repeat (first | (with_reducible first | exact HB.out | apply below_alloc | apply pw_below_drewN | apply below_drew1 | refine below_set ?_ GE116.out) | exact HB.out)), fun _ => (by (with_reducible repeat (first | apply Kd.R_alloc | apply Kd.R_drewN | apply Kd.R_drew)); exact HO119.out), fun _ => ⟨_, rfl⟩, z_HO124, Q_HA_HO124, z_HO128, Q_HA_HO128, z_BK131, Q_GW131, Q_GE131, Q_NB116_131, Q_NB131_116, fun h0_ => absurd ((hoff 28 (by kernel_rfl)).symm.trans h0_) (by decide), fun h0_ => absurd ((hoff 3 (by kernel_rfl)).symm.trans h0_) (by decide), Q_X13_, Q_X20_, Q_X27_⟩
    refine steps_cons ?_ ?_
    ·rintro b a w' ⟨v118, adz_v118, v123, adz_v123, v127, adz_v127, gb131, m3_, m13_, m20_, m27_, ha, Q_BK116, Q_HB, Q_HO119, Q_HA_HO119, Q_HO124, Q_HA_HO124, Q_HO128, Q_HA_HO128, Q_BK131, Q_GW131, Q_GE131, Q_NB116_131, Q_NB131_116, Q_BK131_e28, Q_X3_, Q_X13_, Q_X20_, Q_X27_⟩ hb_ hon hoff
     refine ⟨_, rfl, fun K hK => ?_⟩
     have e5 : a.tmps[5]? = some (.int .i64 a0) := by rw [ha]; exact (putSel_off rfl).trans rfl
     replace ha := Aside0.mk ha
     have BK116 := Aside0.mk Q_BK116
     have HB := Aside0.mk Q_HB
     refine value_ (w1 := w') (v := .int .i64 (Go.bits .and .i64 a0 1)) (by rfl) rfl ?_ ?_
     ·go_simp
      (try simp only [i64_w])
      try rfl
     refine hK.out _ _ ⟨v118, adz_v118, v123, adz_v123, v127, adz_v127, gb131, m3_, m13_, m20_, m27_, (by rw [ha.out]; exact putSel_upk 1 hb_ rfl rfl rfl), Q_BK116, Q_HB, Q_HO119, Q_HA_HO119, Q_HO124, Q_HA_HO124, Q_HO128, Q_HA_HO128, Q_BK131, Q_GW131, Q_GE131, Q_NB116_131, Q_NB131_116, fun h0_ => absurd ((hoff 28 (by kernel_rfl)).symm.trans h0_) (by decide), fun h0_ => absurd ((hoff 3 (by kernel_rfl)).symm.trans h0_) (by decide), Q_X13_, Q_X20_, Q_X27_⟩
    refine steps_cons ?_ ?_
    ·rintro b a w' ⟨v118, adz_v118, v123, adz_v123, v127, adz_v127, gb131, m3_, m13_, m20_, m27_, ha, Q_BK116, Q_HB, Q_HO119, Q_HA_HO119, Q_HO124, Q_HA_HO124, Q_HO128, Q_HA_HO128, Q_BK131, Q_GW131, Q_GE131, Q_NB116_131, Q_NB131_116, Q_BK131_e28, Q_X3_, Q_X13_, Q_X20_, Q_X27_⟩ hb_ hon hoff
     refine ⟨_, rfl, fun K hK => ?_⟩
     have e4 : a.tmps[4]? = some (v118) := by rw [ha]; exact putSel_on (e := (0, 4, v118)) 0 rfl rfl (hon 0 (by kernel_rfl)) rfl
     have e6 : a.tmps[6]? = some (.int .i64 (Go.bits .and .i64 a0 1)) := by rw [ha]; exact putSel_on (e := (2, 6, .int .i64 (Go.bits .and .i64 a0 1))) 1 rfl rfl (hon 2 (by kernel_rfl)) rfl
     replace ha := Aside0.mk ha
     have BK116 := Aside0.mk Q_BK116
     have HB := Aside0.mk Q_HB
     have HO119 := Aside0.mk (Q_HO119 (hon 0 (by kernel_rfl)))
     have HA_HO119 := Aside0.mk (Q_HA_HO119 (hon 0 (by kernel_rfl)))
     obtain ⟨c_, hv_⟩ := HA_HO119.out
     rw [hv_] at e4
     refine value_ (w1 := w') (v := .pointer (some (adz_v118.add ((Go.bits .and .i64 a0 1)).toNat))) (by rfl) rfl ?_ ?_
     ·go_simp
      (try simp only [i64_w])
      try rfl
     refine hK.out _ _ ⟨v118, adz_v118, v123, adz_v123, v127, adz_v127, gb131, (.pointer (some (adz_v118.add ((Go.bits .and .i64 a0 1)).toNat))), m13_, m20_, m27_, (by rw [ha.out]; exact putSel_upk 2 hb_ rfl rfl rfl), Q_BK116, Q_HB, Q_HO119, Q_HA_HO119, Q_HO124, Q_HA_HO124, Q_HO128, Q_HA_HO128, Q_BK131, Q_GW131, Q_GE131, Q_NB116_131, Q_NB131_116, fun h0_ => absurd ((hoff 28 (by kernel_rfl)).symm.trans h0_) (by decide), fun _ => rfl, Q_X13_, Q_X20_, Q_X27_⟩
    refine steps_cons ?_ ?_
    ·rintro b a w' ⟨v118, adz_v118, v123, adz_v123, v127, adz_v127, gb131, m3_, m13_, m20_, m27_, ha, Q_BK116, Q_HB, Q_HO119, Q_HA_HO119, Q_HO124, Q_HA_HO124, Q_HO128, Q_HA_HO128, Q_BK131, Q_GW131, Q_GE131, Q_NB116_131, Q_NB131_116, Q_BK131_e28, Q_X3_, Q_X13_, Q_X20_, Q_X27_⟩ hb_ hon hoff
     refine ⟨_, rfl, fun K hK => ?_⟩
     have e7 : a.tmps[7]? = some (m3_) := by rw [ha]; exact putSel_on (e := (3, 7, m3_)) 2 rfl rfl (hon 3 (by kernel_rfl)) rfl
     rw [Q_X3_ (hon 3 (by kernel_rfl))] at e7
     replace ha := Aside0.mk ha
     have BK116 := Aside0.mk Q_BK116
     have HB := Aside0.mk Q_HB
     have HO119 := Aside0.mk (Q_HO119 (hon 0 (by kernel_rfl)))
     have HA_HO119 := Aside0.mk (Q_HA_HO119 (hon 0 (by kernel_rfl)))
     obtain ⟨c_, hv_⟩ := HA_HO119.out
     have hF_ := HO119.out
     rw [hv_] at hF_
     obtain ⟨ad_, ea_, hx_⟩ := Kd.at_string (Kd.R_reads' hF_).2.2 (Go.bits .and .i64 a0 1) (of_eq_true pi120) (of_eq_true qi120)
     cases ea_
     refine value_ (w1 := w') (v := .string (rdOf ByteArray.empty y117 (Go.bits .and .i64 a0 1))) (by rfl) rfl ?_ ?_
     ·go_simp
      (try simp only [i64_w])
      try rfl
     refine hK.out _ _ ⟨v118, adz_v118, v123, adz_v123, v127, adz_v127, gb131, m3_, m13_, m20_, m27_, (by rw [ha.out]; exact putSel_upk 3 hb_ rfl rfl rfl), Q_BK116, Q_HB, Q_HO119, Q_HA_HO119, Q_HO124, Q_HA_HO124, Q_HO128, Q_HA_HO128, Q_BK131, Q_GW131, Q_GE131, Q_NB116_131, Q_NB131_116, fun h0_ => absurd ((hoff 28 (by kernel_rfl)).symm.trans h0_) (by decide), Q_X3_, Q_X13_, Q_X20_, Q_X27_⟩
    refine steps_cons ?_ ?_
    ·rintro b a w' ⟨v118, adz_v118, v123, adz_v123, v127, adz_v127, gb131, m3_, m13_, m20_, m27_, ha, Q_BK116, Q_HB, Q_HO119, Q_HA_HO119, Q_HO124, Q_HA_HO124, Q_HO128, Q_HA_HO128, Q_BK131, Q_GW131, Q_GE131, Q_NB116_131, Q_NB131_116, Q_BK131_e28, Q_X3_, Q_X13_, Q_X20_, Q_X27_⟩ hb_ hon hoff
     refine ⟨_, rfl, fun K hK => ?_⟩
     have e9 : a.tmps[9]? = some (.int .i64 a0) := by rw [ha]; exact (putSel_off rfl).trans rfl
     replace ha := Aside0.mk ha
     have BK116 := Aside0.mk Q_BK116
     have HB := Aside0.mk Q_HB
     refine value_ (w1 := w') (v := .int .i64 (a0 / 2)) (by rfl) rfl ?_ ?_
     ·go_simp
      (try simp only [i64_w])
      try rfl
     refine hK.out _ _ ⟨v118, adz_v118, v123, adz_v123, v127, adz_v127, gb131, m3_, m13_, m20_, m27_, (by rw [ha.out]; exact putSel_upk 4 hb_ rfl rfl rfl), Q_BK116, Q_HB, Q_HO119, Q_HA_HO119, Q_HO124, Q_HA_HO124, Q_HO128, Q_HA_HO128, Q_BK131, Q_GW131, Q_GE131, Q_NB116_131, Q_NB131_116, fun h0_ => absurd ((hoff 28 (by kernel_rfl)).symm.trans h0_) (by decide), Q_X3_, Q_X13_, Q_X20_, Q_X27_⟩
    refine steps_cons ?_ ?_
    ·rintro b a w' ⟨v118, adz_v118, v123, adz_v123, v127, adz_v127, gb131, m3_, m13_, m20_, m27_, ha, Q_BK116, Q_HB, Q_HO119, Q_HA_HO119, Q_HO124, Q_HA_HO124, Q_HO128, Q_HA_HO128, Q_BK131, Q_GW131, Q_GE131, Q_NB116_131, Q_NB131_116, Q_BK131_e28, Q_X3_, Q_X13_, Q_X20_, Q_X27_⟩ hb_ hon hoff
     refine ⟨_, rfl, fun K hK => ?_⟩
     have e10 : a.tmps[10]? = some (.int .i64 (a0 / 2)) := by rw [ha]; exact putSel_on (e := (6, 10, .int .i64 (a0 / 2))) 4 rfl rfl (hon 6 (by kernel_rfl)) rfl
     replace ha := Aside0.mk ha
     have BK116 := Aside0.mk Q_BK116
     have HB := Aside0.mk Q_HB
     refine goes_ Try.func46 (by kernel_rfl) rfl #[.int .i64 (a0 / 2)] (by rfl) rfl rfl (by first | (simp only [List.map_toArray, List.map_cons, List.map_nil, Act.eval, Array.getD_eq_getD_getElem?, Option.getD_some, e10]; done) | (simp only [List.map_toArray, List.map_cons, List.map_nil, Act.eval, Array.getD_eq_getD_getElem?, Option.getD_some, e10]; rfl)) ?_
     with_reducible refine (entaillaw1_Nm.calls (a0 / 2) t121 _ A4.out).mono ?_
     rintro e w18 ⟨rfl, hb⟩
     refine ⟨_, rfl, ?_⟩
     have n0_ := Aside0.mk (blk_below (g := gb116) (o := .cells #[.string (⟨#[]⟩ : ByteArray), .string (⟨#[]⟩ : ByteArray), .string (⟨#[]⟩ : ByteArray), .string (⟨#[]⟩ : ByteArray), .string (⟨#[]⟩ : ByteArray), .string (⟨#[]⟩ : ByteArray)] 41 (0, 0)) (by (with_reducible repeat (first | refine blk_drewN ?_ _ | refine blk_drew ?_ | refine blk_alloc ?_ _)); exact BK116.out) hb)
     have n1_ := Aside0.mk (below_step (by repeat (first | (with_reducible first | exact HB.out | apply below_alloc | apply pw_below_drewN | apply below_drew1 | refine below_set ?_ GE116.out) | exact HB.out)) hb)
     have z_HO119 := fun (h0_ : b 0 = true) => (show Kd.R Kd.string 9 w18 w.heap.size (fun _ => True) v118 y117 from by first | exact (Kd.R_below (by (with_reducible repeat (first | apply Kd.R_alloc | apply Kd.R_drewN | apply Kd.R_drew)); exact (Q_HO119 h0_)) hb) | exact Kd.R_mono (Kd.R_below (by (with_reducible repeat (first | apply Kd.R_alloc | apply Kd.R_drewN | apply Kd.R_drew)); exact (Q_HO119 h0_)) hb) (fun _ h_ => by first | trivial | exact h_ | exact h_.1))
     have z_HO124 := fun (h0_ : b 9 = true) => (show Kd.R Kd.string 9 w18 w.heap.size (fun _ => True) v123 y122 from by first | exact (Kd.R_below (by (with_reducible repeat (first | apply Kd.R_alloc | apply Kd.R_drewN | apply Kd.R_drew)); exact (Q_HO124 h0_)) hb) | exact Kd.R_mono (Kd.R_below (by (with_reducible repeat (first | apply Kd.R_alloc | apply Kd.R_drewN | apply Kd.R_drew)); exact (Q_HO124 h0_)) hb) (fun _ h_ => by first | trivial | exact h_ | exact h_.1))
     have z_HO128 := fun (h0_ : b 15 = true) => (show Kd.R Kd.string 9 w18 w.heap.size (fun _ => True) v127 y126 from by first | exact (Kd.R_below (by (with_reducible repeat (first | apply Kd.R_alloc | apply Kd.R_drewN | apply Kd.R_drew)); exact (Q_HO128 h0_)) hb) | exact Kd.R_mono (Kd.R_below (by (with_reducible repeat (first | apply Kd.R_alloc | apply Kd.R_drewN | apply Kd.R_drew)); exact (Q_HO128 h0_)) hb) (fun _ h_ => by first | trivial | exact h_ | exact h_.1))
     have z_BK131 := fun (h0_ : b 27 = true) (h1_ : b 28 = false) => (show w18.heap[gb131]? = some (.cells #[.string (⟨#[]⟩ : ByteArray), .string (⟨#[]⟩ : ByteArray), .string (⟨#[]⟩ : ByteArray), .string (⟨#[]⟩ : ByteArray), .string (⟨#[]⟩ : ByteArray), .string (⟨#[]⟩ : ByteArray)] 41 (0, 0)) from by first | exact (blk_below (g := gb131) (o := .cells #[.string (⟨#[]⟩ : ByteArray), .string (⟨#[]⟩ : ByteArray), .string (⟨#[]⟩ : ByteArray), .string (⟨#[]⟩ : ByteArray), .string (⟨#[]⟩ : ByteArray), .string (⟨#[]⟩ : ByteArray)] 41 (0, 0)) (by (with_reducible repeat (first | refine blk_drewN ?_ _ | refine blk_drew ?_ | refine blk_alloc ?_ _)); exact (Q_BK131 h0_ h1_)) hb))
     clear BK116
     clear HB
     have BK116 := n0_
     have HB := n1_
     clear n0_ n1_
     (try clear hb)
     (try clear hb2)
     (try clear hk)
     (try clear hi)
     refine hK.out _ _ ⟨v118, adz_v118, v123, adz_v123, v127, adz_v127, gb131, m3_, m13_, m20_, m27_, (by rw [ha.out]; exact putSel_upk 5 hb_ rfl rfl rfl), (by (with_reducible repeat (first | refine blk_drewN ?_ _ | refine blk_drew ?_ | refine blk_alloc ?_ _)); exact BK116.out), (by repeat (first | (with_reducible first | exact HB.out | apply below_alloc | apply pw_below_drewN | apply below_drew1 | refine below_set ?_ GE116.out) | exact HB.out)), z_HO119, Q_HA_HO119, z_HO124, Q_HA_HO124, z_HO128, Q_HA_HO128, z_BK131, Q_GW131, Q_GE131, Q_NB116_131, Q_NB131_116, fun h0_ => absurd ((hoff 28 (by kernel_rfl)).symm.trans h0_) (by decide), Q_X3_, Q_X13_, Q_X20_, Q_X27_⟩
    refine steps_cons ?_ ?_
    ·rintro b a w' ⟨v118, adz_v118, v123, adz_v123, v127, adz_v127, gb131, m3_, m13_, m20_, m27_, ha, Q_BK116, Q_HB, Q_HO119, Q_HA_HO119, Q_HO124, Q_HA_HO124, Q_HO128, Q_HA_HO128, Q_BK131, Q_GW131, Q_GE131, Q_NB116_131, Q_NB131_116, Q_BK131_e28, Q_X3_, Q_X13_, Q_X20_, Q_X27_⟩ hb_ hon hoff
     refine ⟨_, rfl, fun K hK => ?_⟩
     have e8 : a.tmps[8]? = some (.string (rdOf ByteArray.empty y117 (Go.bits .and .i64 a0 1))) := by rw [ha]; exact putSel_on (e := (4, 8, .string (rdOf ByteArray.empty y117 (Go.bits .and .i64 a0 1)))) 3 rfl rfl (hon 4 (by kernel_rfl)) rfl
     have e11 : a.tmps[11]? = some (.string t121) := by rw [ha]; exact putSel_on (e := (7, 11, .string t121)) 5 rfl rfl (hon 7 (by kernel_rfl)) rfl
     replace ha := Aside0.mk ha
     have BK116 := Aside0.mk Q_BK116
     have HB := Aside0.mk Q_HB
     have HO119 := Aside0.mk (Q_HO119 (hon 0 (by kernel_rfl)))
     have HA_HO119 := Aside0.mk (Q_HA_HO119 (hon 0 (by kernel_rfl)))
     refine value_ (w1 := w') (v := .agg #[.string (rdOf ByteArray.empty y117 (Go.bits .and .i64 a0 1)), .string t121]) (by rfl) rfl ?_ ?_
     ·go_simp
      (try simp only [i64_w])
      try rfl
     refine hK.out _ _ ⟨v118, adz_v118, v123, adz_v123, v127, adz_v127, gb131, m3_, m13_, m20_, m27_, (by rw [ha.out]; exact putSel_upk 6 hb_ rfl rfl rfl), Q_BK116, Q_HB, Q_HO119, Q_HA_HO119, Q_HO124, Q_HA_HO124, Q_HO128, Q_HA_HO128, Q_BK131, Q_GW131, Q_GE131, Q_NB116_131, Q_NB131_116, fun h0_ => absurd ((hoff 28 (by kernel_rfl)).symm.trans h0_) (by decide), Q_X3_, Q_X13_, Q_X20_, Q_X27_⟩
    refine steps_cons ?_ ?_
    ·rintro b a w' ⟨v118, adz_v118, v123, adz_v123, v127, adz_v127, gb131, m3_, m13_, m20_, m27_, ha, Q_BK116, Q_HB, Q_HO119, Q_HA_HO119, Q_HO124, Q_HA_HO124, Q_HO128, Q_HA_HO128, Q_BK131, Q_GW131, Q_GE131, Q_NB116_131, Q_NB131_116, Q_BK131_e28, Q_X3_, Q_X13_, Q_X20_, Q_X27_⟩ hb_ hon hoff
     refine ⟨_, rfl, fun K hK => ?_⟩
     replace ha := Aside0.mk ha
     have BK116 := Aside0.mk Q_BK116
     have HB := Aside0.mk Q_HB
     refine Kd.R_lit_step Kd.string _ 9 ?hg (N := 13) ?hd (xs := ([(⟨#[114]⟩ : ByteArray), (⟨#[115]⟩ : ByteArray)] : List ByteArray)) (inner := [.string (⟨#[114]⟩ : ByteArray), .string (⟨#[115]⟩ : ByteArray)]) (ok := fun _ => True) (okp := fun _ => True) ?hr ?hp (fun _ hk => hk) trivial (Below.refl _ _) (Nat.le_refl _) (by simp) ?_; (case hd => rfl); (case hg => rfl); (case hr => first | (go_simp; done) | (go_simp; rfl)); (case hp => exact (Reps.one (show Kd.M Kd.string _ _ _ (⟨#[114]⟩ : ByteArray) [.string (⟨#[114]⟩ : ByteArray)] from rfl) (Reps.one (show Kd.M Kd.string _ _ _ (⟨#[115]⟩ : ByteArray) [.string (⟨#[115]⟩ : ByteArray)] from rfl) (Reps.none _ _))))
     intro v123 w18 ho19 hb hg_ hnew_
     clear hg_ hnew_
     (first | rw [← Ny122.out] at ho19 | (simp only [Int.reduceToNat] at ho19; rw [← Ny122.out] at ho19))
     have n0_ := Aside0.mk (Kd.R_lower ho19 (below_size (by repeat (first | (with_reducible first | exact HB.out | apply below_alloc | apply pw_below_drewN | apply below_drew1 | refine below_set ?_ GE116.out) | exact HB.out))))
     have n1_ := Aside0.mk (blk_below (g := gb116) (o := .cells #[.string (⟨#[]⟩ : ByteArray), .string (⟨#[]⟩ : ByteArray), .string (⟨#[]⟩ : ByteArray), .string (⟨#[]⟩ : ByteArray), .string (⟨#[]⟩ : ByteArray), .string (⟨#[]⟩ : ByteArray)] 41 (0, 0)) (by (with_reducible repeat (first | refine blk_drewN ?_ _ | refine blk_drew ?_ | refine blk_alloc ?_ _)); exact BK116.out) hb)
     have n2_ := Aside0.mk (below_step (by repeat (first | (with_reducible first | exact HB.out | apply below_alloc | apply pw_below_drewN | apply below_drew1 | refine below_set ?_ GE116.out) | exact HB.out)) hb)
     have z_HO119 := fun (h0_ : b 0 = true) => (show Kd.R Kd.string 9 w18 w.heap.size (fun _ => True) v118 y117 from by first | exact (Kd.R_elder' (by (with_reducible repeat (first | apply Kd.R_alloc | apply Kd.R_drewN | apply Kd.R_drew)); exact (Q_HO119 h0_)) (Kd.R_base ho19) hb) | exact Kd.R_mono (Kd.R_elder' (by (with_reducible repeat (first | apply Kd.R_alloc | apply Kd.R_drewN | apply Kd.R_drew)); exact (Q_HO119 h0_)) (Kd.R_base ho19) hb) (fun _ h_ => by first | trivial | exact h_ | exact h_.1))
     have z_HO128 := fun (h0_ : b 15 = true) => (show Kd.R Kd.string 9 w18 w.heap.size (fun _ => True) v127 y126 from by first | exact (Kd.R_elder' (by (with_reducible repeat (first | apply Kd.R_alloc | apply Kd.R_drewN | apply Kd.R_drew)); exact (Q_HO128 h0_)) (Kd.R_base ho19) hb) | exact Kd.R_mono (Kd.R_elder' (by (with_reducible repeat (first | apply Kd.R_alloc | apply Kd.R_drewN | apply Kd.R_drew)); exact (Q_HO128 h0_)) (Kd.R_base ho19) hb) (fun _ h_ => by first | trivial | exact h_ | exact h_.1))
     have z_BK131 := fun (h0_ : b 27 = true) (h1_ : b 28 = false) => (show w18.heap[gb131]? = some (.cells #[.string (⟨#[]⟩ : ByteArray), .string (⟨#[]⟩ : ByteArray), .string (⟨#[]⟩ : ByteArray), .string (⟨#[]⟩ : ByteArray), .string (⟨#[]⟩ : ByteArray), .string (⟨#[]⟩ : ByteArray)] 41 (0, 0)) from by first | exact (blk_below (g := gb131) (o := .cells #[.string (⟨#[]⟩ : ByteArray), .string (⟨#[]⟩ : ByteArray), .string (⟨#[]⟩ : ByteArray), .string (⟨#[]⟩ : ByteArray), .string (⟨#[]⟩ : ByteArray), .string (⟨#[]⟩ : ByteArray)] 41 (0, 0)) (by (with_reducible repeat (first | refine blk_drewN ?_ _ | refine blk_drew ?_ | refine blk_alloc ?_ _)); exact (Q_BK131 h0_ h1_)) hb))
     clear BK116
     clear HB
     have HO124 := n0_
     have BK116 := n1_
     have HB := n2_
     clear n0_ n1_ n2_
     clear hb ho19
     obtain ⟨Ao20, co20, eo20⟩ := Kd.R_slice HO124.out
     subst eo20
     obtain ⟨ado20, fo20, _⟩ := Kd.at_string (Kd.R_reads' HO124.out).2.2 0 (by decide) (by rw [Ny122.out]; simp)
     cases fo20
     refine hK.out _ _ ⟨v118, adz_v118, .slice (some ado20) y122.length co20, ado20, v127, adz_v127, gb131, m3_, m13_, m20_, m27_, (by rw [ha.out]; exact putSel_upk 7 hb_ rfl rfl rfl), (by (with_reducible repeat (first | refine blk_drewN ?_ _ | refine blk_drew ?_ | refine blk_alloc ?_ _)); exact BK116.out), (by repeat (first | (with_reducible first | exact HB.out | apply below_alloc | apply pw_below_drewN | apply below_drew1 | refine below_set ?_ GE116.out) | exact HB.out)), z_HO119, Q_HA_HO119, fun _ => (by (with_reducible repeat (first | apply Kd.R_alloc | apply Kd.R_drewN | apply Kd.R_drew)); exact HO124.out), fun _ => ⟨_, rfl⟩, z_HO128, Q_HA_HO128, z_BK131, Q_GW131, Q_GE131, Q_NB116_131, Q_NB131_116, fun h0_ => absurd ((hoff 28 (by kernel_rfl)).symm.trans h0_) (by decide), Q_X3_, fun h0_ => absurd ((hoff 13 (by kernel_rfl)).symm.trans h0_) (by decide), Q_X20_, Q_X27_⟩
    refine steps_cons ?_ ?_
    ·rintro b a w' ⟨v118, adz_v118, v123, adz_v123, v127, adz_v127, gb131, m3_, m13_, m20_, m27_, ha, Q_BK116, Q_HB, Q_HO119, Q_HA_HO119, Q_HO124, Q_HA_HO124, Q_HO128, Q_HA_HO128, Q_BK131, Q_GW131, Q_GE131, Q_NB116_131, Q_NB131_116, Q_BK131_e28, Q_X3_, Q_X13_, Q_X20_, Q_X27_⟩ hb_ hon hoff
     refine ⟨_, rfl, fun K hK => ?_⟩
     have e14 : a.tmps[14]? = some (.int .i64 a0) := by rw [ha]; exact (putSel_off rfl).trans rfl
     replace ha := Aside0.mk ha
     have BK116 := Aside0.mk Q_BK116
     have HB := Aside0.mk Q_HB
     refine value_ (w1 := w') (v := .int .i64 (a0 / 16)) (by rfl) rfl ?_ ?_
     ·go_simp
      (try simp only [i64_w])
      try rfl
     refine hK.out _ _ ⟨v118, adz_v118, v123, adz_v123, v127, adz_v127, gb131, m3_, m13_, m20_, m27_, (by rw [ha.out]; exact putSel_upk 8 hb_ rfl rfl rfl), Q_BK116, Q_HB, Q_HO119, Q_HA_HO119, Q_HO124, Q_HA_HO124, Q_HO128, Q_HA_HO128, Q_BK131, Q_GW131, Q_GE131, Q_NB116_131, Q_NB131_116, fun h0_ => absurd ((hoff 28 (by kernel_rfl)).symm.trans h0_) (by decide), Q_X3_, fun h0_ => absurd ((hoff 13 (by kernel_rfl)).symm.trans h0_) (by decide), Q_X20_, Q_X27_⟩
    refine steps_cons ?_ ?_
    ·rintro b a w' ⟨v118, adz_v118, v123, adz_v123, v127, adz_v127, gb131, m3_, m13_, m20_, m27_, ha, Q_BK116, Q_HB, Q_HO119, Q_HA_HO119, Q_HO124, Q_HA_HO124, Q_HO128, Q_HA_HO128, Q_BK131, Q_GW131, Q_GE131, Q_NB116_131, Q_NB131_116, Q_BK131_e28, Q_X3_, Q_X13_, Q_X20_, Q_X27_⟩ hb_ hon hoff
     refine ⟨_, rfl, fun K hK => ?_⟩
     have e15 : a.tmps[15]? = some (.int .i64 (a0 / 16)) := by rw [ha]; exact putSel_on (e := (11, 15, .int .i64 (a0 / 16))) 8 rfl rfl (hon 11 (by kernel_rfl)) rfl
     replace ha := Aside0.mk ha
     have BK116 := Aside0.mk Q_BK116
     have HB := Aside0.mk Q_HB
     refine value_ (w1 := w') (v := .int .i64 ji5) (by rfl) rfl ?_ ?_
     ·go_simp
      (try simp only [i64_w])
      try rfl
     refine hK.out _ _ ⟨v118, adz_v118, v123, adz_v123, v127, adz_v127, gb131, m3_, m13_, m20_, m27_, (by rw [ha.out]; exact putSel_upk 9 hb_ rfl rfl rfl), Q_BK116, Q_HB, Q_HO119, Q_HA_HO119, Q_HO124, Q_HA_HO124, Q_HO128, Q_HA_HO128, Q_BK131, Q_GW131, Q_GE131, Q_NB116_131, Q_NB131_116, fun h0_ => absurd ((hoff 28 (by kernel_rfl)).symm.trans h0_) (by decide), Q_X3_, fun h0_ => absurd ((hoff 13 (by kernel_rfl)).symm.trans h0_) (by decide), Q_X20_, Q_X27_⟩
    refine steps_cons ?_ ?_
    ·rintro b a w' ⟨v118, adz_v118, v123, adz_v123, v127, adz_v127, gb131, m3_, m13_, m20_, m27_, ha, Q_BK116, Q_HB, Q_HO119, Q_HA_HO119, Q_HO124, Q_HA_HO124, Q_HO128, Q_HA_HO128, Q_BK131, Q_GW131, Q_GE131, Q_NB116_131, Q_NB131_116, Q_BK131_e28, Q_X3_, Q_X13_, Q_X20_, Q_X27_⟩ hb_ hon hoff
     refine ⟨_, rfl, fun K hK => ?_⟩
     have e13 : a.tmps[13]? = some (v123) := by rw [ha]; exact putSel_on (e := (9, 13, v123)) 7 rfl rfl (hon 9 (by kernel_rfl)) rfl
     have e16 : a.tmps[16]? = some (.int .i64 ji5) := by rw [ha]; exact putSel_on (e := (12, 16, .int .i64 ji5)) 9 rfl rfl (hon 12 (by kernel_rfl)) rfl
     replace ha := Aside0.mk ha
     have BK116 := Aside0.mk Q_BK116
     have HB := Aside0.mk Q_HB
     have HO124 := Aside0.mk (Q_HO124 (hon 9 (by kernel_rfl)))
     have HA_HO124 := Aside0.mk (Q_HA_HO124 (hon 9 (by kernel_rfl)))
     obtain ⟨c_, hv_⟩ := HA_HO124.out
     rw [hv_] at e13
     refine value_ (w1 := w') (v := .pointer (some (adz_v123.add ((ji5)).toNat))) (by rfl) rfl ?_ ?_
     ·go_simp
      (try simp only [i64_w])
      try rfl
     refine hK.out _ _ ⟨v118, adz_v118, v123, adz_v123, v127, adz_v127, gb131, m3_, (.pointer (some (adz_v123.add ((ji5)).toNat))), m20_, m27_, (by rw [ha.out]; exact putSel_upk 10 hb_ rfl rfl rfl), Q_BK116, Q_HB, Q_HO119, Q_HA_HO119, Q_HO124, Q_HA_HO124, Q_HO128, Q_HA_HO128, Q_BK131, Q_GW131, Q_GE131, Q_NB116_131, Q_NB131_116, fun h0_ => absurd ((hoff 28 (by kernel_rfl)).symm.trans h0_) (by decide), Q_X3_, fun _ => rfl, Q_X20_, Q_X27_⟩
    refine steps_cons ?_ ?_
    ·rintro b a w' ⟨v118, adz_v118, v123, adz_v123, v127, adz_v127, gb131, m3_, m13_, m20_, m27_, ha, Q_BK116, Q_HB, Q_HO119, Q_HA_HO119, Q_HO124, Q_HA_HO124, Q_HO128, Q_HA_HO128, Q_BK131, Q_GW131, Q_GE131, Q_NB116_131, Q_NB131_116, Q_BK131_e28, Q_X3_, Q_X13_, Q_X20_, Q_X27_⟩ hb_ hon hoff
     refine ⟨_, rfl, fun K hK => ?_⟩
     have e17 : a.tmps[17]? = some (m13_) := by rw [ha]; exact putSel_on (e := (13, 17, m13_)) 10 rfl rfl (hon 13 (by kernel_rfl)) rfl
     rw [Q_X13_ (hon 13 (by kernel_rfl))] at e17
     replace ha := Aside0.mk ha
     have BK116 := Aside0.mk Q_BK116
     have HB := Aside0.mk Q_HB
     have HO124 := Aside0.mk (Q_HO124 (hon 9 (by kernel_rfl)))
     have HA_HO124 := Aside0.mk (Q_HA_HO124 (hon 9 (by kernel_rfl)))
     obtain ⟨c_, hv_⟩ := HA_HO124.out
     have hF_ := HO124.out
     rw [hv_] at hF_
     obtain ⟨ad_, ea_, hx_⟩ := Kd.at_string (Kd.R_reads' hF_).2.2 (ji5) (of_eq_true pi125) (of_eq_true qi125)
     cases ea_
     refine value_ (w1 := w') (v := .string (rdOf ByteArray.empty y122 (ji5))) (by rfl) rfl ?_ ?_
     ·go_simp
      (try simp only [i64_w])
      try rfl
     refine hK.out _ _ ⟨v118, adz_v118, v123, adz_v123, v127, adz_v127, gb131, m3_, m13_, m20_, m27_, (by rw [ha.out]; exact putSel_upk 11 hb_ rfl rfl rfl), Q_BK116, Q_HB, Q_HO119, Q_HA_HO119, Q_HO124, Q_HA_HO124, Q_HO128, Q_HA_HO128, Q_BK131, Q_GW131, Q_GE131, Q_NB116_131, Q_NB131_116, fun h0_ => absurd ((hoff 28 (by kernel_rfl)).symm.trans h0_) (by decide), Q_X3_, Q_X13_, Q_X20_, Q_X27_⟩
    refine steps_cons ?_ ?_
    ·rintro b a w' ⟨v118, adz_v118, v123, adz_v123, v127, adz_v127, gb131, m3_, m13_, m20_, m27_, ha, Q_BK116, Q_HB, Q_HO119, Q_HA_HO119, Q_HO124, Q_HA_HO124, Q_HO128, Q_HA_HO128, Q_BK131, Q_GW131, Q_GE131, Q_NB116_131, Q_NB131_116, Q_BK131_e28, Q_X3_, Q_X13_, Q_X20_, Q_X27_⟩ hb_ hon hoff
     refine ⟨_, rfl, fun K hK => ?_⟩
     replace ha := Aside0.mk ha
     have BK116 := Aside0.mk Q_BK116
     have HB := Aside0.mk Q_HB
     refine Kd.R_lit_step Kd.string _ 9 ?hg (N := 19) ?hd (xs := ([(⟨#[117]⟩ : ByteArray), (⟨#[97]⟩ : ByteArray), (⟨#[98]⟩ : ByteArray)] : List ByteArray)) (inner := [.string (⟨#[117]⟩ : ByteArray), .string (⟨#[97]⟩ : ByteArray), .string (⟨#[98]⟩ : ByteArray)]) (ok := fun _ => True) (okp := fun _ => True) ?hr ?hp (fun _ hk => hk) trivial (Below.refl _ _) (Nat.le_refl _) (by simp) ?_; (case hd => rfl); (case hg => rfl); (case hr => first | (go_simp; done) | (go_simp; rfl)); (case hp => exact (Reps.one (show Kd.M Kd.string _ _ _ (⟨#[117]⟩ : ByteArray) [.string (⟨#[117]⟩ : ByteArray)] from rfl) (Reps.one (show Kd.M Kd.string _ _ _ (⟨#[97]⟩ : ByteArray) [.string (⟨#[97]⟩ : ByteArray)] from rfl) (Reps.one (show Kd.M Kd.string _ _ _ (⟨#[98]⟩ : ByteArray) [.string (⟨#[98]⟩ : ByteArray)] from rfl) (Reps.none _ _)))))
     intro v127 w18 ho19 hb hg_ hnew_
     clear hg_ hnew_
     (first | rw [← Ny126.out] at ho19 | (simp only [Int.reduceToNat] at ho19; rw [← Ny126.out] at ho19))
     have n0_ := Aside0.mk (Kd.R_lower ho19 (below_size (by repeat (first | (with_reducible first | exact HB.out | apply below_alloc | apply pw_below_drewN | apply below_drew1 | refine below_set ?_ GE116.out) | exact HB.out))))
     have n1_ := Aside0.mk (blk_below (g := gb116) (o := .cells #[.string (⟨#[]⟩ : ByteArray), .string (⟨#[]⟩ : ByteArray), .string (⟨#[]⟩ : ByteArray), .string (⟨#[]⟩ : ByteArray), .string (⟨#[]⟩ : ByteArray), .string (⟨#[]⟩ : ByteArray)] 41 (0, 0)) (by (with_reducible repeat (first | refine blk_drewN ?_ _ | refine blk_drew ?_ | refine blk_alloc ?_ _)); exact BK116.out) hb)
     have n2_ := Aside0.mk (below_step (by repeat (first | (with_reducible first | exact HB.out | apply below_alloc | apply pw_below_drewN | apply below_drew1 | refine below_set ?_ GE116.out) | exact HB.out)) hb)
     have z_HO119 := fun (h0_ : b 0 = true) => (show Kd.R Kd.string 9 w18 w.heap.size (fun _ => True) v118 y117 from by first | exact (Kd.R_elder' (by (with_reducible repeat (first | apply Kd.R_alloc | apply Kd.R_drewN | apply Kd.R_drew)); exact (Q_HO119 h0_)) (Kd.R_base ho19) hb) | exact Kd.R_mono (Kd.R_elder' (by (with_reducible repeat (first | apply Kd.R_alloc | apply Kd.R_drewN | apply Kd.R_drew)); exact (Q_HO119 h0_)) (Kd.R_base ho19) hb) (fun _ h_ => by first | trivial | exact h_ | exact h_.1))
     have z_HO124 := fun (h0_ : b 9 = true) => (show Kd.R Kd.string 9 w18 w.heap.size (fun _ => True) v123 y122 from by first | exact (Kd.R_elder' (by (with_reducible repeat (first | apply Kd.R_alloc | apply Kd.R_drewN | apply Kd.R_drew)); exact (Q_HO124 h0_)) (Kd.R_base ho19) hb) | exact Kd.R_mono (Kd.R_elder' (by (with_reducible repeat (first | apply Kd.R_alloc | apply Kd.R_drewN | apply Kd.R_drew)); exact (Q_HO124 h0_)) (Kd.R_base ho19) hb) (fun _ h_ => by first | trivial | exact h_ | exact h_.1))
     have z_BK131 := fun (h0_ : b 27 = true) (h1_ : b 28 = false) => (show w18.heap[gb131]? = some (.cells #[.string (⟨#[]⟩ : ByteArray), .string (⟨#[]⟩ : ByteArray), .string (⟨#[]⟩ : ByteArray), .string (⟨#[]⟩ : ByteArray), .string (⟨#[]⟩ : ByteArray), .string (⟨#[]⟩ : ByteArray)] 41 (0, 0)) from by first | exact (blk_below (g := gb131) (o := .cells #[.string (⟨#[]⟩ : ByteArray), .string (⟨#[]⟩ : ByteArray), .string (⟨#[]⟩ : ByteArray), .string (⟨#[]⟩ : ByteArray), .string (⟨#[]⟩ : ByteArray), .string (⟨#[]⟩ : ByteArray)] 41 (0, 0)) (by (with_reducible repeat (first | refine blk_drewN ?_ _ | refine blk_drew ?_ | refine blk_alloc ?_ _)); exact (Q_BK131 h0_ h1_)) hb))
     clear BK116
     clear HB
     have HO128 := n0_
     have BK116 := n1_
     have HB := n2_
     clear n0_ n1_ n2_
     clear hb ho19
     obtain ⟨Ao20, co20, eo20⟩ := Kd.R_slice HO128.out
     subst eo20
     obtain ⟨ado20, fo20, _⟩ := Kd.at_string (Kd.R_reads' HO128.out).2.2 0 (by decide) (by rw [Ny126.out]; simp)
     cases fo20
     refine hK.out _ _ ⟨v118, adz_v118, v123, adz_v123, .slice (some ado20) y126.length co20, ado20, gb131, m3_, m13_, m20_, m27_, (by rw [ha.out]; exact putSel_upk 12 hb_ rfl rfl rfl), (by (with_reducible repeat (first | refine blk_drewN ?_ _ | refine blk_drew ?_ | refine blk_alloc ?_ _)); exact BK116.out), (by repeat (first | (with_reducible first | exact HB.out | apply below_alloc | apply pw_below_drewN | apply below_drew1 | refine below_set ?_ GE116.out) | exact HB.out)), z_HO119, Q_HA_HO119, z_HO124, Q_HA_HO124, fun _ => (by (with_reducible repeat (first | apply Kd.R_alloc | apply Kd.R_drewN | apply Kd.R_drew)); exact HO128.out), fun _ => ⟨_, rfl⟩, z_BK131, Q_GW131, Q_GE131, Q_NB116_131, Q_NB131_116, fun h0_ => absurd ((hoff 28 (by kernel_rfl)).symm.trans h0_) (by decide), Q_X3_, Q_X13_, fun h0_ => absurd ((hoff 20 (by kernel_rfl)).symm.trans h0_) (by decide), Q_X27_⟩
    refine steps_cons ?_ ?_
    ·rintro b a w' ⟨v118, adz_v118, v123, adz_v123, v127, adz_v127, gb131, m3_, m13_, m20_, m27_, ha, Q_BK116, Q_HB, Q_HO119, Q_HA_HO119, Q_HO124, Q_HA_HO124, Q_HO128, Q_HA_HO128, Q_BK131, Q_GW131, Q_GE131, Q_NB116_131, Q_NB131_116, Q_BK131_e28, Q_X3_, Q_X13_, Q_X20_, Q_X27_⟩ hb_ hon hoff
     refine ⟨_, rfl, fun K hK => ?_⟩
     have e20 : a.tmps[20]? = some (.int .i64 a0) := by rw [ha]; exact (putSel_off rfl).trans rfl
     replace ha := Aside0.mk ha
     have BK116 := Aside0.mk Q_BK116
     have HB := Aside0.mk Q_HB
     refine value_ (w1 := w') (v := .int .i64 (a0 / 32)) (by rfl) rfl ?_ ?_
     ·go_simp
      (try simp only [i64_w])
      try rfl
     refine hK.out _ _ ⟨v118, adz_v118, v123, adz_v123, v127, adz_v127, gb131, m3_, m13_, m20_, m27_, (by rw [ha.out]; exact putSel_upk 13 hb_ rfl rfl rfl), Q_BK116, Q_HB, Q_HO119, Q_HA_HO119, Q_HO124, Q_HA_HO124, Q_HO128, Q_HA_HO128, Q_BK131, Q_GW131, Q_GE131, Q_NB116_131, Q_NB131_116, fun h0_ => absurd ((hoff 28 (by kernel_rfl)).symm.trans h0_) (by decide), Q_X3_, Q_X13_, fun h0_ => absurd ((hoff 20 (by kernel_rfl)).symm.trans h0_) (by decide), Q_X27_⟩
    refine steps_cons ?_ ?_
    ·rintro b a w' ⟨v118, adz_v118, v123, adz_v123, v127, adz_v127, gb131, m3_, m13_, m20_, m27_, ha, Q_BK116, Q_HB, Q_HO119, Q_HA_HO119, Q_HO124, Q_HA_HO124, Q_HO128, Q_HA_HO128, Q_BK131, Q_GW131, Q_GE131, Q_NB116_131, Q_NB131_116, Q_BK131_e28, Q_X3_, Q_X13_, Q_X20_, Q_X27_⟩ hb_ hon hoff
     refine ⟨_, rfl, fun K hK => ?_⟩
     have e21 : a.tmps[21]? = some (.int .i64 (a0 / 32)) := by rw [ha]; exact putSel_on (e := (17, 21, .int .i64 (a0 / 32))) 13 rfl rfl (hon 17 (by kernel_rfl)) rfl
     replace ha := Aside0.mk ha
     have BK116 := Aside0.mk Q_BK116
     have HB := Aside0.mk Q_HB
     refine value_ (w1 := w') (v := .int .i64 (Go.bits .and .i64 (a0 / 32) 255)) (by rfl) rfl ?_ ?_
     ·go_simp
      (try simp only [i64_w])
      try rfl
     refine hK.out _ _ ⟨v118, adz_v118, v123, adz_v123, v127, adz_v127, gb131, m3_, m13_, m20_, m27_, (by rw [ha.out]; exact putSel_upk 14 hb_ rfl rfl rfl), Q_BK116, Q_HB, Q_HO119, Q_HA_HO119, Q_HO124, Q_HA_HO124, Q_HO128, Q_HA_HO128, Q_BK131, Q_GW131, Q_GE131, Q_NB116_131, Q_NB131_116, fun h0_ => absurd ((hoff 28 (by kernel_rfl)).symm.trans h0_) (by decide), Q_X3_, Q_X13_, fun h0_ => absurd ((hoff 20 (by kernel_rfl)).symm.trans h0_) (by decide), Q_X27_⟩
    refine steps_cons ?_ ?_
    ·rintro b a w' ⟨v118, adz_v118, v123, adz_v123, v127, adz_v127, gb131, m3_, m13_, m20_, m27_, ha, Q_BK116, Q_HB, Q_HO119, Q_HA_HO119, Q_HO124, Q_HA_HO124, Q_HO128, Q_HA_HO128, Q_BK131, Q_GW131, Q_GE131, Q_NB116_131, Q_NB131_116, Q_BK131_e28, Q_X3_, Q_X13_, Q_X20_, Q_X27_⟩ hb_ hon hoff
     refine ⟨_, rfl, fun K hK => ?_⟩
     have e22 : a.tmps[22]? = some (.int .i64 (Go.bits .and .i64 (a0 / 32) 255)) := by rw [ha]; exact putSel_on (e := (18, 22, .int .i64 (Go.bits .and .i64 (a0 / 32) 255))) 14 rfl rfl (hon 18 (by kernel_rfl)) rfl
     replace ha := Aside0.mk ha
     have BK116 := Aside0.mk Q_BK116
     have HB := Aside0.mk Q_HB
     refine value_ (w1 := w') (v := .int .i64 ji8) (by rfl) rfl ?_ ?_
     ·go_simp
      (try simp only [i64_w])
      try rfl
     refine hK.out _ _ ⟨v118, adz_v118, v123, adz_v123, v127, adz_v127, gb131, m3_, m13_, m20_, m27_, (by rw [ha.out]; exact putSel_upk 15 hb_ rfl rfl rfl), Q_BK116, Q_HB, Q_HO119, Q_HA_HO119, Q_HO124, Q_HA_HO124, Q_HO128, Q_HA_HO128, Q_BK131, Q_GW131, Q_GE131, Q_NB116_131, Q_NB131_116, fun h0_ => absurd ((hoff 28 (by kernel_rfl)).symm.trans h0_) (by decide), Q_X3_, Q_X13_, fun h0_ => absurd ((hoff 20 (by kernel_rfl)).symm.trans h0_) (by decide), Q_X27_⟩
    refine steps_cons ?_ ?_
    ·rintro b a w' ⟨v118, adz_v118, v123, adz_v123, v127, adz_v127, gb131, m3_, m13_, m20_, m27_, ha, Q_BK116, Q_HB, Q_HO119, Q_HA_HO119, Q_HO124, Q_HA_HO124, Q_HO128, Q_HA_HO128, Q_BK131, Q_GW131, Q_GE131, Q_NB116_131, Q_NB131_116, Q_BK131_e28, Q_X3_, Q_X13_, Q_X20_, Q_X27_⟩ hb_ hon hoff
     refine ⟨_, rfl, fun K hK => ?_⟩
     have e19 : a.tmps[19]? = some (v127) := by rw [ha]; exact putSel_on (e := (15, 19, v127)) 12 rfl rfl (hon 15 (by kernel_rfl)) rfl
     have e23 : a.tmps[23]? = some (.int .i64 ji8) := by rw [ha]; exact putSel_on (e := (19, 23, .int .i64 ji8)) 15 rfl rfl (hon 19 (by kernel_rfl)) rfl
     replace ha := Aside0.mk ha
     have BK116 := Aside0.mk Q_BK116
     have HB := Aside0.mk Q_HB
     have HO128 := Aside0.mk (Q_HO128 (hon 15 (by kernel_rfl)))
     have HA_HO128 := Aside0.mk (Q_HA_HO128 (hon 15 (by kernel_rfl)))
     obtain ⟨c_, hv_⟩ := HA_HO128.out
     rw [hv_] at e19
     refine value_ (w1 := w') (v := .pointer (some (adz_v127.add ((ji8)).toNat))) (by rfl) rfl ?_ ?_
     ·go_simp
      (try simp only [i64_w])
      try rfl
     refine hK.out _ _ ⟨v118, adz_v118, v123, adz_v123, v127, adz_v127, gb131, m3_, m13_, (.pointer (some (adz_v127.add ((ji8)).toNat))), m27_, (by rw [ha.out]; exact putSel_upk 16 hb_ rfl rfl rfl), Q_BK116, Q_HB, Q_HO119, Q_HA_HO119, Q_HO124, Q_HA_HO124, Q_HO128, Q_HA_HO128, Q_BK131, Q_GW131, Q_GE131, Q_NB116_131, Q_NB131_116, fun h0_ => absurd ((hoff 28 (by kernel_rfl)).symm.trans h0_) (by decide), Q_X3_, Q_X13_, fun _ => rfl, Q_X27_⟩
    refine steps_cons ?_ ?_
    ·rintro b a w' ⟨v118, adz_v118, v123, adz_v123, v127, adz_v127, gb131, m3_, m13_, m20_, m27_, ha, Q_BK116, Q_HB, Q_HO119, Q_HA_HO119, Q_HO124, Q_HA_HO124, Q_HO128, Q_HA_HO128, Q_BK131, Q_GW131, Q_GE131, Q_NB116_131, Q_NB131_116, Q_BK131_e28, Q_X3_, Q_X13_, Q_X20_, Q_X27_⟩ hb_ hon hoff
     refine ⟨_, rfl, fun K hK => ?_⟩
     have e24 : a.tmps[24]? = some (m20_) := by rw [ha]; exact putSel_on (e := (20, 24, m20_)) 16 rfl rfl (hon 20 (by kernel_rfl)) rfl
     rw [Q_X20_ (hon 20 (by kernel_rfl))] at e24
     replace ha := Aside0.mk ha
     have BK116 := Aside0.mk Q_BK116
     have HB := Aside0.mk Q_HB
     have HO128 := Aside0.mk (Q_HO128 (hon 15 (by kernel_rfl)))
     have HA_HO128 := Aside0.mk (Q_HA_HO128 (hon 15 (by kernel_rfl)))
     obtain ⟨c_, hv_⟩ := HA_HO128.out
     have hF_ := HO128.out
     rw [hv_] at hF_
     obtain ⟨ad_, ea_, hx_⟩ := Kd.at_string (Kd.R_reads' hF_).2.2 (ji8) (of_eq_true pi129) (of_eq_true qi129)
     cases ea_
     refine value_ (w1 := w') (v := .string (rdOf ByteArray.empty y126 (ji8))) (by rfl) rfl ?_ ?_
     ·go_simp
      (try simp only [i64_w])
      try rfl
     refine hK.out _ _ ⟨v118, adz_v118, v123, adz_v123, v127, adz_v127, gb131, m3_, m13_, m20_, m27_, (by rw [ha.out]; exact putSel_upk 17 hb_ rfl rfl rfl), Q_BK116, Q_HB, Q_HO119, Q_HA_HO119, Q_HO124, Q_HA_HO124, Q_HO128, Q_HA_HO128, Q_BK131, Q_GW131, Q_GE131, Q_NB116_131, Q_NB131_116, fun h0_ => absurd ((hoff 28 (by kernel_rfl)).symm.trans h0_) (by decide), Q_X3_, Q_X13_, Q_X20_, Q_X27_⟩
    refine steps_cons ?_ ?_
    ·rintro b a w' ⟨v118, adz_v118, v123, adz_v123, v127, adz_v127, gb131, m3_, m13_, m20_, m27_, ha, Q_BK116, Q_HB, Q_HO119, Q_HA_HO119, Q_HO124, Q_HA_HO124, Q_HO128, Q_HA_HO128, Q_BK131, Q_GW131, Q_GE131, Q_NB116_131, Q_NB131_116, Q_BK131_e28, Q_X3_, Q_X13_, Q_X20_, Q_X27_⟩ hb_ hon hoff
     refine ⟨_, rfl, fun K hK => ?_⟩
     have e26 : a.tmps[26]? = some (.int .i64 a0) := by rw [ha]; exact (putSel_off rfl).trans rfl
     replace ha := Aside0.mk ha
     have BK116 := Aside0.mk Q_BK116
     have HB := Aside0.mk Q_HB
     refine value_ (w1 := w') (v := .int .i64 (a0 / 8192)) (by rfl) rfl ?_ ?_
     ·go_simp
      (try simp only [i64_w])
      try rfl
     refine hK.out _ _ ⟨v118, adz_v118, v123, adz_v123, v127, adz_v127, gb131, m3_, m13_, m20_, m27_, (by rw [ha.out]; exact putSel_upk 18 hb_ rfl rfl rfl), Q_BK116, Q_HB, Q_HO119, Q_HA_HO119, Q_HO124, Q_HA_HO124, Q_HO128, Q_HA_HO128, Q_BK131, Q_GW131, Q_GE131, Q_NB116_131, Q_NB131_116, fun h0_ => absurd ((hoff 28 (by kernel_rfl)).symm.trans h0_) (by decide), Q_X3_, Q_X13_, Q_X20_, Q_X27_⟩
    refine steps_cons ?_ ?_
    ·rintro b a w' ⟨v118, adz_v118, v123, adz_v123, v127, adz_v127, gb131, m3_, m13_, m20_, m27_, ha, Q_BK116, Q_HB, Q_HO119, Q_HA_HO119, Q_HO124, Q_HA_HO124, Q_HO128, Q_HA_HO128, Q_BK131, Q_GW131, Q_GE131, Q_NB116_131, Q_NB131_116, Q_BK131_e28, Q_X3_, Q_X13_, Q_X20_, Q_X27_⟩ hb_ hon hoff
     refine ⟨_, rfl, fun K hK => ?_⟩
     have e27 : a.tmps[27]? = some (.int .i64 (a0 / 8192)) := by rw [ha]; exact putSel_on (e := (23, 27, .int .i64 (a0 / 8192))) 18 rfl rfl (hon 23 (by kernel_rfl)) rfl
     replace ha := Aside0.mk ha
     have BK116 := Aside0.mk Q_BK116
     have HB := Aside0.mk Q_HB
     refine goes_ Try.func46 (by kernel_rfl) rfl #[.int .i64 (a0 / 8192)] (by rfl) rfl rfl (by first | (simp only [List.map_toArray, List.map_cons, List.map_nil, Act.eval, Array.getD_eq_getD_getElem?, Option.getD_some, e27]; done) | (simp only [List.map_toArray, List.map_cons, List.map_nil, Act.eval, Array.getD_eq_getD_getElem?, Option.getD_some, e27]; rfl)) ?_
     with_reducible refine (entaillaw1_Nm.calls (a0 / 8192) t130 _ A11.out).mono ?_
     rintro e w20 ⟨rfl, hb⟩
     refine ⟨_, rfl, ?_⟩
     have n0_ := Aside0.mk (blk_below (g := gb116) (o := .cells #[.string (⟨#[]⟩ : ByteArray), .string (⟨#[]⟩ : ByteArray), .string (⟨#[]⟩ : ByteArray), .string (⟨#[]⟩ : ByteArray), .string (⟨#[]⟩ : ByteArray), .string (⟨#[]⟩ : ByteArray)] 41 (0, 0)) (by (with_reducible repeat (first | refine blk_drewN ?_ _ | refine blk_drew ?_ | refine blk_alloc ?_ _)); exact BK116.out) hb)
     have n1_ := Aside0.mk (below_step (by repeat (first | (with_reducible first | exact HB.out | apply below_alloc | apply pw_below_drewN | apply below_drew1 | refine below_set ?_ GE116.out) | exact HB.out)) hb)
     have z_HO119 := fun (h0_ : b 0 = true) => (show Kd.R Kd.string 9 w20 w.heap.size (fun _ => True) v118 y117 from by first | exact (Kd.R_below (by (with_reducible repeat (first | apply Kd.R_alloc | apply Kd.R_drewN | apply Kd.R_drew)); exact (Q_HO119 h0_)) hb) | exact Kd.R_mono (Kd.R_below (by (with_reducible repeat (first | apply Kd.R_alloc | apply Kd.R_drewN | apply Kd.R_drew)); exact (Q_HO119 h0_)) hb) (fun _ h_ => by first | trivial | exact h_ | exact h_.1))
     have z_HO124 := fun (h0_ : b 9 = true) => (show Kd.R Kd.string 9 w20 w.heap.size (fun _ => True) v123 y122 from by first | exact (Kd.R_below (by (with_reducible repeat (first | apply Kd.R_alloc | apply Kd.R_drewN | apply Kd.R_drew)); exact (Q_HO124 h0_)) hb) | exact Kd.R_mono (Kd.R_below (by (with_reducible repeat (first | apply Kd.R_alloc | apply Kd.R_drewN | apply Kd.R_drew)); exact (Q_HO124 h0_)) hb) (fun _ h_ => by first | trivial | exact h_ | exact h_.1))
     have z_HO128 := fun (h0_ : b 15 = true) => (show Kd.R Kd.string 9 w20 w.heap.size (fun _ => True) v127 y126 from by first | exact (Kd.R_below (by (with_reducible repeat (first | apply Kd.R_alloc | apply Kd.R_drewN | apply Kd.R_drew)); exact (Q_HO128 h0_)) hb) | exact Kd.R_mono (Kd.R_below (by (with_reducible repeat (first | apply Kd.R_alloc | apply Kd.R_drewN | apply Kd.R_drew)); exact (Q_HO128 h0_)) hb) (fun _ h_ => by first | trivial | exact h_ | exact h_.1))
     have z_BK131 := fun (h0_ : b 27 = true) (h1_ : b 28 = false) => (show w20.heap[gb131]? = some (.cells #[.string (⟨#[]⟩ : ByteArray), .string (⟨#[]⟩ : ByteArray), .string (⟨#[]⟩ : ByteArray), .string (⟨#[]⟩ : ByteArray), .string (⟨#[]⟩ : ByteArray), .string (⟨#[]⟩ : ByteArray)] 41 (0, 0)) from by first | exact (blk_below (g := gb131) (o := .cells #[.string (⟨#[]⟩ : ByteArray), .string (⟨#[]⟩ : ByteArray), .string (⟨#[]⟩ : ByteArray), .string (⟨#[]⟩ : ByteArray), .string (⟨#[]⟩ : ByteArray), .string (⟨#[]⟩ : ByteArray)] 41 (0, 0)) (by (with_reducible repeat (first | refine blk_drewN ?_ _ | refine blk_drew ?_ | refine blk_alloc ?_ _)); exact (Q_BK131 h0_ h1_)) hb))
     clear BK116
     clear HB
     have BK116 := n0_
     have HB := n1_
     clear n0_ n1_
     (try clear hb)
     (try clear hb2)
     (try clear hk)
     (try clear hi)
     refine hK.out _ _ ⟨v118, adz_v118, v123, adz_v123, v127, adz_v127, gb131, m3_, m13_, m20_, m27_, (by rw [ha.out]; exact putSel_upk 19 hb_ rfl rfl rfl), (by (with_reducible repeat (first | refine blk_drewN ?_ _ | refine blk_drew ?_ | refine blk_alloc ?_ _)); exact BK116.out), (by repeat (first | (with_reducible first | exact HB.out | apply below_alloc | apply pw_below_drewN | apply below_drew1 | refine below_set ?_ GE116.out) | exact HB.out)), z_HO119, Q_HA_HO119, z_HO124, Q_HA_HO124, z_HO128, Q_HA_HO128, z_BK131, Q_GW131, Q_GE131, Q_NB116_131, Q_NB131_116, fun h0_ => absurd ((hoff 28 (by kernel_rfl)).symm.trans h0_) (by decide), Q_X3_, Q_X13_, Q_X20_, Q_X27_⟩
    refine steps_cons ?_ ?_
    ·rintro b a w' ⟨v118, adz_v118, v123, adz_v123, v127, adz_v127, gb131, m3_, m13_, m20_, m27_, ha, Q_BK116, Q_HB, Q_HO119, Q_HA_HO119, Q_HO124, Q_HA_HO124, Q_HO128, Q_HA_HO128, Q_BK131, Q_GW131, Q_GE131, Q_NB116_131, Q_NB131_116, Q_BK131_e28, Q_X3_, Q_X13_, Q_X20_, Q_X27_⟩ hb_ hon hoff
     refine ⟨_, rfl, fun K hK => ?_⟩
     have e25 : a.tmps[25]? = some (.string (rdOf ByteArray.empty y126 (ji8))) := by rw [ha]; exact putSel_on (e := (21, 25, .string (rdOf ByteArray.empty y126 (ji8)))) 17 rfl rfl (hon 21 (by kernel_rfl)) rfl
     have e28 : a.tmps[28]? = some (.string t130) := by rw [ha]; exact putSel_on (e := (24, 28, .string t130)) 19 rfl rfl (hon 24 (by kernel_rfl)) rfl
     replace ha := Aside0.mk ha
     have BK116 := Aside0.mk Q_BK116
     have HB := Aside0.mk Q_HB
     have HO128 := Aside0.mk (Q_HO128 (hon 15 (by kernel_rfl)))
     have HA_HO128 := Aside0.mk (Q_HA_HO128 (hon 15 (by kernel_rfl)))
     refine value_ (w1 := w') (v := .agg #[.string (rdOf ByteArray.empty y126 (ji8)), .string t130, .string (⟨#[]⟩ : ByteArray)]) (by rfl) rfl ?_ ?_
     ·go_simp
      (try simp only [i64_w])
      try rfl
     refine hK.out _ _ ⟨v118, adz_v118, v123, adz_v123, v127, adz_v127, gb131, m3_, m13_, m20_, m27_, (by rw [ha.out]; exact putSel_upk 20 hb_ rfl rfl rfl), Q_BK116, Q_HB, Q_HO119, Q_HA_HO119, Q_HO124, Q_HA_HO124, Q_HO128, Q_HA_HO128, Q_BK131, Q_GW131, Q_GE131, Q_NB116_131, Q_NB131_116, fun h0_ => absurd ((hoff 28 (by kernel_rfl)).symm.trans h0_) (by decide), Q_X3_, Q_X13_, Q_X20_, Q_X27_⟩
    refine steps_cons ?_ ?_
    ·rintro b a w' ⟨v118, adz_v118, v123, adz_v123, v127, adz_v127, gb131, m3_, m13_, m20_, m27_, ha, Q_BK116, Q_HB, Q_HO119, Q_HA_HO119, Q_HO124, Q_HA_HO124, Q_HO128, Q_HA_HO128, Q_BK131, Q_GW131, Q_GE131, Q_NB116_131, Q_NB131_116, Q_BK131_e28, Q_X3_, Q_X13_, Q_X20_, Q_X27_⟩ hb_ hon hoff
     refine ⟨_, rfl, fun K hK => ?_⟩
     have e12 : a.tmps[12]? = some (.agg #[.string (rdOf ByteArray.empty y117 (Go.bits .and .i64 a0 1)), .string t121]) := by rw [ha]; exact putSel_on (e := (8, 12, .agg #[.string (rdOf ByteArray.empty y117 (Go.bits .and .i64 a0 1)), .string t121])) 6 rfl rfl (hon 8 (by kernel_rfl)) rfl
     have e18 : a.tmps[18]? = some (.string (rdOf ByteArray.empty y122 (ji5))) := by rw [ha]; exact putSel_on (e := (14, 18, .string (rdOf ByteArray.empty y122 (ji5)))) 11 rfl rfl (hon 14 (by kernel_rfl)) rfl
     have e29 : a.tmps[29]? = some (.agg #[.string (rdOf ByteArray.empty y126 (ji8)), .string t130, .string (⟨#[]⟩ : ByteArray)]) := by rw [ha]; exact putSel_on (e := (25, 29, .agg #[.string (rdOf ByteArray.empty y126 (ji8)), .string t130, .string (⟨#[]⟩ : ByteArray)])) 20 rfl rfl (hon 25 (by kernel_rfl)) rfl
     replace ha := Aside0.mk ha
     have BK116 := Aside0.mk Q_BK116
     have HB := Aside0.mk Q_HB
     have HO119 := Aside0.mk (Q_HO119 (hon 0 (by kernel_rfl)))
     have HA_HO119 := Aside0.mk (Q_HA_HO119 (hon 0 (by kernel_rfl)))
     have HO124 := Aside0.mk (Q_HO124 (hon 9 (by kernel_rfl)))
     have HA_HO124 := Aside0.mk (Q_HA_HO124 (hon 9 (by kernel_rfl)))
     have HO128 := Aside0.mk (Q_HO128 (hon 15 (by kernel_rfl)))
     have HA_HO128 := Aside0.mk (Q_HA_HO128 (hon 15 (by kernel_rfl)))
     refine value_ (w1 := w') (v := .agg #[.string (rdOf ByteArray.empty y117 (Go.bits .and .i64 a0 1)), .string t121, .string (rdOf ByteArray.empty y122 (ji5)), .string (rdOf ByteArray.empty y126 (ji8)), .string t130, .string (⟨#[]⟩ : ByteArray)]) (by rfl) rfl ?_ ?_
     ·go_simp
      (try simp only [i64_w])
      try rfl
     refine hK.out _ _ ⟨v118, adz_v118, v123, adz_v123, v127, adz_v127, gb131, m3_, m13_, m20_, m27_, (by rw [ha.out]; exact putSel_upk 21 hb_ rfl rfl rfl), Q_BK116, Q_HB, Q_HO119, Q_HA_HO119, Q_HO124, Q_HA_HO124, Q_HO128, Q_HA_HO128, Q_BK131, Q_GW131, Q_GE131, Q_NB116_131, Q_NB131_116, fun h0_ => absurd ((hoff 28 (by kernel_rfl)).symm.trans h0_) (by decide), Q_X3_, Q_X13_, Q_X20_, Q_X27_⟩
    refine steps_cons ?_ ?_
    ·rintro b a w' ⟨v118, adz_v118, v123, adz_v123, v127, adz_v127, gb131, m3_, m13_, m20_, m27_, ha, Q_BK116, Q_HB, Q_HO119, Q_HA_HO119, Q_HO124, Q_HA_HO124, Q_HO128, Q_HA_HO128, Q_BK131, Q_GW131, Q_GE131, Q_NB116_131, Q_NB131_116, Q_BK131_e28, Q_X3_, Q_X13_, Q_X20_, Q_X27_⟩ hb_ hon hoff
     refine ⟨_, rfl, fun K hK => ?_⟩
     replace ha := Aside0.mk ha
     have BK116 := Aside0.mk Q_BK116
     have HB := Aside0.mk Q_HB
     refine box_step ?hg (N := 3) ?hd (cs := #[.string (⟨#[]⟩ : ByteArray), .string (⟨#[]⟩ : ByteArray), .string (⟨#[]⟩ : ByteArray), .string (⟨#[]⟩ : ByteArray), .string (⟨#[]⟩ : ByteArray), .string (⟨#[]⟩ : ByteArray)]) (t := 41) ?hr ?_; (case hd => rfl); (case hg => rfl); (case hr => first | (go_simp; done) | (go_simp; rfl))
     intro gb131 hg w18 hbox hb
     have n0_ := Aside0.mk (blk_below (g := gb116) (o := .cells #[.string (⟨#[]⟩ : ByteArray), .string (⟨#[]⟩ : ByteArray), .string (⟨#[]⟩ : ByteArray), .string (⟨#[]⟩ : ByteArray), .string (⟨#[]⟩ : ByteArray), .string (⟨#[]⟩ : ByteArray)] 41 (0, 0)) (by (with_reducible repeat (first | refine blk_drewN ?_ _ | refine blk_drew ?_ | refine blk_alloc ?_ _)); exact BK116.out) hb)
     have n1_ := Aside0.mk (below_step (by repeat (first | (with_reducible first | exact HB.out | apply below_alloc | apply pw_below_drewN | apply below_drew1 | refine below_set ?_ GE116.out) | exact HB.out)) hb)
     have n2_ := Aside0.mk (hbox)
     have n3_ := Aside0.mk ((by rw [hg]; exact (below_size (by repeat (first | (with_reducible first | exact HB.out | apply below_alloc | apply pw_below_drewN | apply below_drew1 | refine below_set ?_ GE116.out) | exact HB.out))) : w.heap.size ≤ gb131))
     have n4_ := Aside0.mk ((by rw [hg]; exact (below_size (by repeat (first | (with_reducible first | exact HB.out | apply below_alloc | apply pw_below_drewN | apply below_drew1 | refine below_set ?_ GE116.out) | exact HB.out))) : w.heap.size ≤ gb131))
     have n5_ := Aside0.mk ((by rw [hg]; exact Nat.ne_of_lt (blk_lt (g := gb116) (o := .cells #[.string (⟨#[]⟩ : ByteArray), .string (⟨#[]⟩ : ByteArray), .string (⟨#[]⟩ : ByteArray), .string (⟨#[]⟩ : ByteArray), .string (⟨#[]⟩ : ByteArray), .string (⟨#[]⟩ : ByteArray)] 41 (0, 0)) (by (with_reducible repeat (first | refine blk_drewN ?_ _ | refine blk_drew ?_ | refine blk_alloc ?_ _)); exact BK116.out)) : gb116 ≠ gb131))
     have n6_ := Aside0.mk ((by rw [hg]; exact Nat.ne_of_gt (blk_lt (g := gb116) (o := .cells #[.string (⟨#[]⟩ : ByteArray), .string (⟨#[]⟩ : ByteArray), .string (⟨#[]⟩ : ByteArray), .string (⟨#[]⟩ : ByteArray), .string (⟨#[]⟩ : ByteArray), .string (⟨#[]⟩ : ByteArray)] 41 (0, 0)) (by (with_reducible repeat (first | refine blk_drewN ?_ _ | refine blk_drew ?_ | refine blk_alloc ?_ _)); exact BK116.out)) : gb131 ≠ gb116))
     have z_HO119 := fun (h0_ : b 0 = true) => (show Kd.R Kd.string 9 w18 w.heap.size (fun _ => True) v118 y117 from by first | exact (Kd.R_below (by (with_reducible repeat (first | apply Kd.R_alloc | apply Kd.R_drewN | apply Kd.R_drew)); exact (Q_HO119 h0_)) hb) | exact Kd.R_mono (Kd.R_below (by (with_reducible repeat (first | apply Kd.R_alloc | apply Kd.R_drewN | apply Kd.R_drew)); exact (Q_HO119 h0_)) hb) (fun _ h_ => by first | trivial | exact h_ | exact h_.1))
     have z_HO124 := fun (h0_ : b 9 = true) => (show Kd.R Kd.string 9 w18 w.heap.size (fun _ => True) v123 y122 from by first | exact (Kd.R_below (by (with_reducible repeat (first | apply Kd.R_alloc | apply Kd.R_drewN | apply Kd.R_drew)); exact (Q_HO124 h0_)) hb) | exact Kd.R_mono (Kd.R_below (by (with_reducible repeat (first | apply Kd.R_alloc | apply Kd.R_drewN | apply Kd.R_drew)); exact (Q_HO124 h0_)) hb) (fun _ h_ => by first | trivial | exact h_ | exact h_.1))
     have z_HO128 := fun (h0_ : b 15 = true) => (show Kd.R Kd.string 9 w18 w.heap.size (fun _ => True) v127 y126 from by first | exact (Kd.R_below (by (with_reducible repeat (first | apply Kd.R_alloc | apply Kd.R_drewN | apply Kd.R_drew)); exact (Q_HO128 h0_)) hb) | exact Kd.R_mono (Kd.R_below (by (with_reducible repeat (first | apply Kd.R_alloc | apply Kd.R_drewN | apply Kd.R_drew)); exact (Q_HO128 h0_)) hb) (fun _ h_ => by first | trivial | exact h_ | exact h_.1))
     clear BK116
     clear HB
     have BK116 := n0_
     have HB := n1_
     have BK131 := n2_
     have GW131 := n3_
     have GE131 := n4_
     have NB116_131 := n5_
     have NB131_116 := n6_
     clear n0_ n1_ n2_ n3_ n4_ n5_ n6_
     clear hb hbox hg
     refine hK.out _ _ ⟨v118, adz_v118, v123, adz_v123, v127, adz_v127, gb131, m3_, m13_, m20_, (.pointer (some ⟨gb131, 0, none⟩)), (by rw [ha.out]; exact putSel_upk 22 hb_ rfl rfl rfl), (by (with_reducible repeat (first | refine blk_drewN ?_ _ | refine blk_drew ?_ | refine blk_alloc ?_ _)); exact BK116.out), (by repeat (first | (with_reducible first | exact HB.out | apply below_alloc | apply pw_below_drewN | apply below_drew1 | refine below_set ?_ GE116.out | refine below_set ?_ GE131.out) | exact HB.out)), z_HO119, Q_HA_HO119, z_HO124, Q_HA_HO124, z_HO128, Q_HA_HO128, fun _ _ => (by (with_reducible repeat (first | refine blk_drewN ?_ _ | refine blk_drew ?_ | refine blk_alloc ?_ _)); exact BK131.out), fun _ => GW131.out, fun _ => GE131.out, fun _ => NB116_131.out, fun _ => NB131_116.out, fun h0_ => absurd ((hoff 28 (by kernel_rfl)).symm.trans h0_) (by decide), Q_X3_, Q_X13_, Q_X20_, fun _ => rfl⟩
    refine steps_cons ?_ ?_
    ·rintro b a w' ⟨v118, adz_v118, v123, adz_v123, v127, adz_v127, gb131, m3_, m13_, m20_, m27_, ha, Q_BK116, Q_HB, Q_HO119, Q_HA_HO119, Q_HO124, Q_HA_HO124, Q_HO128, Q_HA_HO128, Q_BK131, Q_GW131, Q_GE131, Q_NB116_131, Q_NB131_116, Q_BK131_e28, Q_X3_, Q_X13_, Q_X20_, Q_X27_⟩ hb_ hon hoff
     refine ⟨_, rfl, fun K hK => ?_⟩
     have e3 : a.tmps[3]? = some (m27_) := by rw [ha]; exact putSel_on (e := (27, 3, m27_)) 22 rfl rfl (hon 27 (by kernel_rfl)) rfl
     rw [Q_X27_ (hon 27 (by kernel_rfl))] at e3
     have e30 : a.tmps[30]? = some (.agg #[.string (rdOf ByteArray.empty y117 (Go.bits .and .i64 a0 1)), .string t121, .string (rdOf ByteArray.empty y122 (ji5)), .string (rdOf ByteArray.empty y126 (ji8)), .string t130, .string (⟨#[]⟩ : ByteArray)]) := by rw [ha]; exact putSel_on (e := (26, 30, .agg #[.string (rdOf ByteArray.empty y117 (Go.bits .and .i64 a0 1)), .string t121, .string (rdOf ByteArray.empty y122 (ji5)), .string (rdOf ByteArray.empty y126 (ji8)), .string t130, .string (⟨#[]⟩ : ByteArray)])) 21 rfl rfl (hon 26 (by kernel_rfl)) rfl
     replace ha := Aside0.mk ha
     have BK116 := Aside0.mk Q_BK116
     have HB := Aside0.mk Q_HB
     have HO119 := Aside0.mk (Q_HO119 (hon 0 (by kernel_rfl)))
     have HA_HO119 := Aside0.mk (Q_HA_HO119 (hon 0 (by kernel_rfl)))
     have HO124 := Aside0.mk (Q_HO124 (hon 9 (by kernel_rfl)))
     have HA_HO124 := Aside0.mk (Q_HA_HO124 (hon 9 (by kernel_rfl)))
     have HO128 := Aside0.mk (Q_HO128 (hon 15 (by kernel_rfl)))
     have HA_HO128 := Aside0.mk (Q_HA_HO128 (hon 15 (by kernel_rfl)))
     have BK131 := Aside0.mk (Q_BK131 (hon 27 (by kernel_rfl)) hb_)
     have GW131 := Aside0.mk (Q_GW131 (hon 27 (by kernel_rfl)))
     have GE131 := Aside0.mk (Q_GE131 (hon 27 (by kernel_rfl)))
     have NB116_131 := Aside0.mk (Q_NB116_131 (hon 27 (by kernel_rfl)))
     have NB131_116 := Aside0.mk (Q_NB131_116 (hon 27 (by kernel_rfl)))
     obtain ⟨co31, eo31⟩ := HA_HO119.out
     clear HA_HO119
     subst eo31
     obtain ⟨co32, eo32⟩ := HA_HO124.out
     clear HA_HO124
     subst eo32
     obtain ⟨co33, eo33⟩ := HA_HO128.out
     clear HA_HO128
     subst eo33
     have hs34 : w'.cell? ⟨gb131, 0, none⟩ = some (.string (⟨#[]⟩ : ByteArray)) := (blk_cell BK131.out 0).trans rfl
     have hfs34 := blk_frozen BK131.out 0
     have hns34_0 := NB116_131.out
     have hms34_0 := NB131_116.out
     have hs35 : w'.cell? ⟨gb131, 1, none⟩ = some (.string (⟨#[]⟩ : ByteArray)) := (blk_cell BK131.out 1).trans rfl
     have hfs35 := blk_frozen BK131.out 1
     have hns35_0 := NB116_131.out
     have hms35_0 := NB131_116.out
     have hs36 : w'.cell? ⟨gb131, 2, none⟩ = some (.string (⟨#[]⟩ : ByteArray)) := (blk_cell BK131.out 2).trans rfl
     have hfs36 := blk_frozen BK131.out 2
     have hns36_0 := NB116_131.out
     have hms36_0 := NB131_116.out
     have hs37 : w'.cell? ⟨gb131, 3, none⟩ = some (.string (⟨#[]⟩ : ByteArray)) := (blk_cell BK131.out 3).trans rfl
     have hfs37 := blk_frozen BK131.out 3
     have hns37_0 := NB116_131.out
     have hms37_0 := NB131_116.out
     have hs38 : w'.cell? ⟨gb131, 4, none⟩ = some (.string (⟨#[]⟩ : ByteArray)) := (blk_cell BK131.out 4).trans rfl
     have hfs38 := blk_frozen BK131.out 4
     have hns38_0 := NB116_131.out
     have hms38_0 := NB131_116.out
     have hs39 : w'.cell? ⟨gb131, 5, none⟩ = some (.string (⟨#[]⟩ : ByteArray)) := (blk_cell BK131.out 5).trans rfl
     have hfs39 := blk_frozen BK131.out 5
     have hns39_0 := NB116_131.out
     have hms39_0 := NB131_116.out
     refine skip_ (w1 := ?_) (by rfl) rfl ?_ ?_
     rotate_left
     ·go_simp
      rfl
     refine hK.out _ _ ⟨.slice (some adz_v118) y117.length co31, adz_v118, .slice (some adz_v123) y122.length co32, adz_v123, .slice (some adz_v127) y126.length co33, adz_v127, gb131, m3_, m13_, m20_, m27_, (by rw [ha.out]; exact putSel_none (v := undef) rfl), (by (with_reducible repeat (first | refine blk_drewN ?_ _ | refine blk_drew ?_ | refine blk_alloc ?_ _)); refine blk_far ?_ NB116_131.out _; (with_reducible repeat (first | refine blk_drewN ?_ _ | refine blk_drew ?_ | refine blk_alloc ?_ _)); refine blk_far ?_ NB116_131.out _; (with_reducible repeat (first | refine blk_drewN ?_ _ | refine blk_drew ?_ | refine blk_alloc ?_ _)); refine blk_far ?_ NB116_131.out _; (with_reducible repeat (first | refine blk_drewN ?_ _ | refine blk_drew ?_ | refine blk_alloc ?_ _)); refine blk_far ?_ NB116_131.out _; (with_reducible repeat (first | refine blk_drewN ?_ _ | refine blk_drew ?_ | refine blk_alloc ?_ _)); refine blk_far ?_ NB116_131.out _; (with_reducible repeat (first | refine blk_drewN ?_ _ | refine blk_drew ?_ | refine blk_alloc ?_ _)); refine blk_far ?_ NB116_131.out _; (with_reducible repeat (first | refine blk_drewN ?_ _ | refine blk_drew ?_ | refine blk_alloc ?_ _)); exact BK116.out), (by repeat (first | (with_reducible first | exact HB.out | apply below_alloc | apply pw_below_drewN | apply below_drew1 | refine below_set ?_ GE116.out | refine below_set ?_ GE131.out) | exact HB.out)), fun _ => (by (with_reducible repeat (first | apply Kd.R_alloc | apply Kd.R_drewN | apply Kd.R_drew)); exact Kd.R_mono (Kd.R_far (p := ⟨gb131, 5, none⟩) (Kd.R_far (p := ⟨gb131, 4, none⟩) (Kd.R_far (p := ⟨gb131, 3, none⟩) (Kd.R_far (p := ⟨gb131, 2, none⟩) (Kd.R_far (p := ⟨gb131, 1, none⟩) (Kd.R_far (p := ⟨gb131, 0, none⟩) (Kd.R_types HO119.out BK131.out (by decide)) (fun _ hk => hk.2) (.string (rdOf ByteArray.empty y117 (Go.bits .and .i64 a0 1)))) (fun _ hk => hk.2) (.string t121)) (fun _ hk => hk.2) (.string (rdOf ByteArray.empty y122 (ji5)))) (fun _ hk => hk.2) (.string (rdOf ByteArray.empty y126 (ji8)))) (fun _ hk => hk.2) (.string t130)) (fun _ hk => hk.2) (.string (⟨#[]⟩ : ByteArray))) (fun _ hk => by first | exact ⟨hk.1.1, hk.1.2⟩ | trivial)), fun _ => ⟨_, rfl⟩, fun _ => (by (with_reducible repeat (first | apply Kd.R_alloc | apply Kd.R_drewN | apply Kd.R_drew)); exact Kd.R_mono (Kd.R_far (p := ⟨gb131, 5, none⟩) (Kd.R_far (p := ⟨gb131, 4, none⟩) (Kd.R_far (p := ⟨gb131, 3, none⟩) (Kd.R_far (p := ⟨gb131, 2, none⟩) (Kd.R_far (p := ⟨gb131, 1, none⟩) (Kd.R_far (p := ⟨gb131, 0, none⟩) (Kd.R_types HO124.out BK131.out (by decide)) (fun _ hk => hk.2) (.string (rdOf ByteArray.empty y117 (Go.bits .and .i64 a0 1)))) (fun _ hk => hk.2) (.string t121)) (fun _ hk => hk.2) (.string (rdOf ByteArray.empty y122 (ji5)))) (fun _ hk => hk.2) (.string (rdOf ByteArray.empty y126 (ji8)))) (fun _ hk => hk.2) (.string t130)) (fun _ hk => hk.2) (.string (⟨#[]⟩ : ByteArray))) (fun _ hk => by first | exact ⟨hk.1.1, hk.1.2⟩ | trivial)), fun _ => ⟨_, rfl⟩, fun _ => (by (with_reducible repeat (first | apply Kd.R_alloc | apply Kd.R_drewN | apply Kd.R_drew)); exact Kd.R_mono (Kd.R_far (p := ⟨gb131, 5, none⟩) (Kd.R_far (p := ⟨gb131, 4, none⟩) (Kd.R_far (p := ⟨gb131, 3, none⟩) (Kd.R_far (p := ⟨gb131, 2, none⟩) (Kd.R_far (p := ⟨gb131, 1, none⟩) (Kd.R_far (p := ⟨gb131, 0, none⟩) (Kd.R_types HO128.out BK131.out (by decide)) (fun _ hk => hk.2) (.string (rdOf ByteArray.empty y117 (Go.bits .and .i64 a0 1)))) (fun _ hk => hk.2) (.string t121)) (fun _ hk => hk.2) (.string (rdOf ByteArray.empty y122 (ji5)))) (fun _ hk => hk.2) (.string (rdOf ByteArray.empty y126 (ji8)))) (fun _ hk => hk.2) (.string t130)) (fun _ hk => hk.2) (.string (⟨#[]⟩ : ByteArray))) (fun _ hk => by first | exact ⟨hk.1.1, hk.1.2⟩ | trivial)), fun _ => ⟨_, rfl⟩, fun _ h1_ => absurd ((up_self b 28).symm.trans h1_) (by decide), fun _ => GW131.out, fun _ => GE131.out, fun _ => NB116_131.out, fun _ => NB131_116.out, fun _ => (by (with_reducible repeat (first | refine blk_drewN ?_ _ | refine blk_drew ?_ | refine blk_alloc ?_ _)); refine blk_put (cs := #[.string (rdOf ByteArray.empty y117 (Go.bits .and .i64 a0 1)), .string t121, .string (rdOf ByteArray.empty y122 (ji5)), .string (rdOf ByteArray.empty y126 (ji8)), .string t130, .string (⟨#[]⟩ : ByteArray)]) ?_ 5 _ rfl; (with_reducible repeat (first | refine blk_drewN ?_ _ | refine blk_drew ?_ | refine blk_alloc ?_ _)); refine blk_put (cs := #[.string (rdOf ByteArray.empty y117 (Go.bits .and .i64 a0 1)), .string t121, .string (rdOf ByteArray.empty y122 (ji5)), .string (rdOf ByteArray.empty y126 (ji8)), .string (⟨#[]⟩ : ByteArray), .string (⟨#[]⟩ : ByteArray)]) ?_ 4 _ rfl; (with_reducible repeat (first | refine blk_drewN ?_ _ | refine blk_drew ?_ | refine blk_alloc ?_ _)); refine blk_put (cs := #[.string (rdOf ByteArray.empty y117 (Go.bits .and .i64 a0 1)), .string t121, .string (rdOf ByteArray.empty y122 (ji5)), .string (⟨#[]⟩ : ByteArray), .string (⟨#[]⟩ : ByteArray), .string (⟨#[]⟩ : ByteArray)]) ?_ 3 _ rfl; (with_reducible repeat (first | refine blk_drewN ?_ _ | refine blk_drew ?_ | refine blk_alloc ?_ _)); refine blk_put (cs := #[.string (rdOf ByteArray.empty y117 (Go.bits .and .i64 a0 1)), .string t121, .string (⟨#[]⟩ : ByteArray), .string (⟨#[]⟩ : ByteArray), .string (⟨#[]⟩ : ByteArray), .string (⟨#[]⟩ : ByteArray)]) ?_ 2 _ rfl; (with_reducible repeat (first | refine blk_drewN ?_ _ | refine blk_drew ?_ | refine blk_alloc ?_ _)); refine blk_put (cs := #[.string (rdOf ByteArray.empty y117 (Go.bits .and .i64 a0 1)), .string (⟨#[]⟩ : ByteArray), .string (⟨#[]⟩ : ByteArray), .string (⟨#[]⟩ : ByteArray), .string (⟨#[]⟩ : ByteArray), .string (⟨#[]⟩ : ByteArray)]) ?_ 1 _ rfl; (with_reducible repeat (first | refine blk_drewN ?_ _ | refine blk_drew ?_ | refine blk_alloc ?_ _)); refine blk_put (cs := #[.string (⟨#[]⟩ : ByteArray), .string (⟨#[]⟩ : ByteArray), .string (⟨#[]⟩ : ByteArray), .string (⟨#[]⟩ : ByteArray), .string (⟨#[]⟩ : ByteArray), .string (⟨#[]⟩ : ByteArray)]) ?_ 0 _ rfl; (with_reducible repeat (first | refine blk_drewN ?_ _ | refine blk_drew ?_ | refine blk_alloc ?_ _)); exact BK131.out), Q_X3_, Q_X13_, Q_X20_, Q_X27_⟩
    exact steps_nil
   rintro b a w36 hall ⟨v118, adz_v118, v123, adz_v123, v127, adz_v127, gb131, m3_, m13_, m20_, m27_, ha, Q_BK116, Q_HB, Q_HO119, Q_HA_HO119, Q_HO124, Q_HA_HO124, Q_HO128, Q_HA_HO128, Q_BK131, Q_GW131, Q_GE131, Q_NB116_131, Q_NB131_116, Q_BK131_e28, Q_X3_, Q_X13_, Q_X20_, Q_X27_⟩
   clear BK116 HB
   have hb0_ := hall 0 (by kernel_rfl)
   have hb2_ := hall 2 (by kernel_rfl)
   have hb3_ := hall 3 (by kernel_rfl)
   have hb4_ := hall 4 (by kernel_rfl)
   have hb6_ := hall 6 (by kernel_rfl)
   have hb7_ := hall 7 (by kernel_rfl)
   have hb8_ := hall 8 (by kernel_rfl)
   have hb9_ := hall 9 (by kernel_rfl)
   have hb11_ := hall 11 (by kernel_rfl)
   have hb12_ := hall 12 (by kernel_rfl)
   have hb13_ := hall 13 (by kernel_rfl)
   have hb14_ := hall 14 (by kernel_rfl)
   have hb15_ := hall 15 (by kernel_rfl)
   have hb17_ := hall 17 (by kernel_rfl)
   have hb18_ := hall 18 (by kernel_rfl)
   have hb19_ := hall 19 (by kernel_rfl)
   have hb20_ := hall 20 (by kernel_rfl)
   have hb21_ := hall 21 (by kernel_rfl)
   have hb23_ := hall 23 (by kernel_rfl)
   have hb24_ := hall 24 (by kernel_rfl)
   have hb25_ := hall 25 (by kernel_rfl)
   have hb26_ := hall 26 (by kernel_rfl)
   have hb27_ := hall 27 (by kernel_rfl)
   have hb28_ := hall 28 (by kernel_rfl)
   subst ha
   obtain rfl := Q_X3_ hb3_
   obtain rfl := Q_X13_ hb13_
   obtain rfl := Q_X20_ hb20_
   obtain rfl := Q_X27_ hb27_
   simp only [putSel, hb0_, hb2_, hb3_, hb4_, hb6_, hb7_, hb8_, hb9_, hb11_, hb12_, hb13_, hb14_, hb15_, hb17_, hb18_, hb19_, hb20_, hb21_, hb23_, hb24_, hb25_, hb26_, hb27_, hb28_, if_true, Act.put, sa_, sz_, ss_]
   have BK116 := Aside0.mk Q_BK116
   clear Q_BK116
   have HB := Aside0.mk Q_HB
   clear Q_HB
   have HO119 := Aside0.mk (Q_HO119 hb0_)
   clear Q_HO119
   have HA_HO119 := Aside0.mk (Q_HA_HO119 hb0_)
   clear Q_HA_HO119
   have HO124 := Aside0.mk (Q_HO124 hb9_)
   clear Q_HO124
   have HA_HO124 := Aside0.mk (Q_HA_HO124 hb9_)
   clear Q_HA_HO124
   have HO128 := Aside0.mk (Q_HO128 hb15_)
   clear Q_HO128
   have HA_HO128 := Aside0.mk (Q_HA_HO128 hb15_)
   clear Q_HA_HO128
   clear Q_BK131
   have GW131 := Aside0.mk (Q_GW131 hb27_)
   clear Q_GW131
   have GE131 := Aside0.mk (Q_GE131 hb27_)
   clear Q_GE131
   have NB116_131 := Aside0.mk (Q_NB116_131 hb27_)
   clear Q_NB116_131
   have NB131_116 := Aside0.mk (Q_NB131_116 hb27_)
   clear Q_NB131_116
   have BK131 := Aside0.mk (Q_BK131_e28 hb28_)
   clear Q_BK131_e28
   clear hall hb0_ hb2_ hb3_ hb4_ hb6_ hb7_ hb8_ hb9_ hb11_ hb12_ hb13_ hb14_ hb15_ hb17_ hb18_ hb19_ hb20_ hb21_ hb23_ hb24_ hb25_ hb26_ hb27_ hb28_
   obtain ⟨co37, eo37⟩ := HA_HO119.out
   clear HA_HO119
   subst eo37
   obtain ⟨co38, eo38⟩ := HA_HO124.out
   clear HA_HO124
   subst eo38
   obtain ⟨co39, eo39⟩ := HA_HO128.out
   clear HA_HO128
   subst eo39
   try go_wp2_with (first | ((with_reducible refine gate_dst (N := 35) rfl ?_); refine Kd.R_lit Kd.string _ 9 ?hg (N := 35) ?hd (xs := ([(⟨#[114]⟩ : ByteArray), (⟨#[115]⟩ : ByteArray)] : List ByteArray)) (inner := [.string (⟨#[114]⟩ : ByteArray), .string (⟨#[115]⟩ : ByteArray)]) (ok := fun _ => True) (okp := fun _ => True) ?hr ?hp (fun _ hk => hk) trivial (Below.refl _ _) (Nat.le_refl _) (by simp) ?_; (case hd => rfl); (case hg => rfl); (case hr => first | (go_simp; done) | (go_simp; rfl)); (case hp => exact (Reps.one (show Kd.M Kd.string _ _ _ (⟨#[114]⟩ : ByteArray) [.string (⟨#[114]⟩ : ByteArray)] from rfl) (Reps.one (show Kd.M Kd.string _ _ _ (⟨#[115]⟩ : ByteArray) [.string (⟨#[115]⟩ : ByteArray)] from rfl) (Reps.none _ _)))); intro v133 w40 ho41 hb hg_ hnew_; clear hg_ hnew_; (first | rw [← Ny132.out] at ho41 | (simp only [Int.reduceToNat] at ho41; rw [← Ny132.out] at ho41)); have n0_ := Aside0.mk (Kd.R_elder' (by (with_reducible repeat (first | apply Kd.R_alloc | apply Kd.R_drewN | apply Kd.R_drew)); exact HO119.out) (Kd.R_base ho41) hb); have n1_ := Aside0.mk (Kd.R_elder' (by (with_reducible repeat (first | apply Kd.R_alloc | apply Kd.R_drewN | apply Kd.R_drew)); exact HO124.out) (Kd.R_base ho41) hb); have n2_ := Aside0.mk (Kd.R_elder' (by (with_reducible repeat (first | apply Kd.R_alloc | apply Kd.R_drewN | apply Kd.R_drew)); exact HO128.out) (Kd.R_base ho41) hb); have n3_ := Aside0.mk (Kd.R_lower (Kd.R_new' (Kd.R_new' (Kd.R_new' ho41 (Kd.R_lt (by (with_reducible repeat (first | apply Kd.R_alloc | apply Kd.R_drewN | apply Kd.R_drew)); exact HO119.out))) (Kd.R_lt (by (with_reducible repeat (first | apply Kd.R_alloc | apply Kd.R_drewN | apply Kd.R_drew)); exact HO124.out))) (Kd.R_lt (by (with_reducible repeat (first | apply Kd.R_alloc | apply Kd.R_drewN | apply Kd.R_drew)); exact HO128.out))) (below_size (by repeat (first | (with_reducible first | exact HB.out | apply below_alloc | apply pw_below_drewN | apply below_drew1 | refine below_set ?_ GE116.out | refine below_set ?_ GE131.out) | exact HB.out)))); have n4_ := Aside0.mk (blk_below (g := gb116) (o := .cells #[.string (⟨#[]⟩ : ByteArray), .string (⟨#[]⟩ : ByteArray), .string (⟨#[]⟩ : ByteArray), .string (⟨#[]⟩ : ByteArray), .string (⟨#[]⟩ : ByteArray), .string (⟨#[]⟩ : ByteArray)] 41 (0, 0)) (by (with_reducible repeat (first | refine blk_drewN ?_ _ | refine blk_drew ?_ | refine blk_alloc ?_ _)); exact BK116.out) hb); have n5_ := Aside0.mk (blk_below (g := gb131) (o := .cells #[.string (rdOf ByteArray.empty y117 (Go.bits .and .i64 a0 1)), .string t121, .string (rdOf ByteArray.empty y122 (ji5)), .string (rdOf ByteArray.empty y126 (ji8)), .string t130, .string (⟨#[]⟩ : ByteArray)] 41 (0, 0)) (by (with_reducible repeat (first | refine blk_drewN ?_ _ | refine blk_drew ?_ | refine blk_alloc ?_ _)); exact BK131.out) hb); have n6_ := Aside0.mk (below_step (by repeat (first | (with_reducible first | exact HB.out | apply below_alloc | apply pw_below_drewN | apply below_drew1 | refine below_set ?_ GE116.out | refine below_set ?_ GE131.out) | exact HB.out)) hb); clear HO119; clear HO124; clear HO128; clear BK116; clear BK131; clear HB; have HO119 := n0_; have HO124 := n1_; have HO128 := n2_; have HO134 := n3_; have BK116 := n4_; have BK131 := n5_; have HB := n6_; clear n0_ n1_ n2_ n3_ n4_ n5_ n6_; clear hb ho41; obtain ⟨Ao42, co42, eo42⟩ := Kd.R_slice HO134.out; subst eo42; have p135 : 0 ≤ ((ji13) : Int) := of_decide_eq_true (by first | (with_reducible assumption) | assumption); have q135 : (ji13) < (y132.length : Int) := of_decide_eq_true (by first | (with_reducible assumption) | assumption); obtain ⟨ad135, e135, hx135_0⟩ := Kd.at_string (Kd.R_reads' HO134.out).2.2 (ji13) p135 q135; cases e135; replace p135 := eq_true p135; replace q135 := eq_true q135; have hnb43 := NB131_116.out; have hnc43 := NB116_131.out; have hcz44_0 : w40.cell? ⟨gb131, 0, none⟩ = some (.string (rdOf ByteArray.empty y117 (Go.bits .and .i64 a0 1))) := (blk_cell BK131.out 0).trans rfl; have hcz44_1 : w40.cell? ⟨gb131, 1, none⟩ = some (.string t121) := (blk_cell BK131.out 1).trans rfl; have hcz44_2 : w40.cell? ⟨gb131, 2, none⟩ = some (.string (rdOf ByteArray.empty y122 (ji5))) := (blk_cell BK131.out 2).trans rfl; have hcz44_3 : w40.cell? ⟨gb131, 3, none⟩ = some (.string (rdOf ByteArray.empty y126 (ji8))) := (blk_cell BK131.out 3).trans rfl; have hcz44_4 : w40.cell? ⟨gb131, 4, none⟩ = some (.string t130) := (blk_cell BK131.out 4).trans rfl; have hcz44_5 : w40.cell? ⟨gb131, 5, none⟩ = some (.string (⟨#[]⟩ : ByteArray)) := (blk_cell BK131.out 5).trans rfl; have hfz44_0 := blk_frozen BK131.out 0; have hfz44_1 := blk_frozen BK131.out 1; have hfz44_2 := blk_frozen BK131.out 2; have hfz44_3 := blk_frozen BK131.out 3; have hfz44_4 := blk_frozen BK131.out 4; have hfz44_5 := blk_frozen BK131.out 5; have hcz45_0 : w40.cell? ⟨gb116, 0, none⟩ = some (.string (⟨#[]⟩ : ByteArray)) := (blk_cell BK116.out 0).trans rfl; have hcz45_1 : w40.cell? ⟨gb116, 1, none⟩ = some (.string (⟨#[]⟩ : ByteArray)) := (blk_cell BK116.out 1).trans rfl; have hcz45_2 : w40.cell? ⟨gb116, 2, none⟩ = some (.string (⟨#[]⟩ : ByteArray)) := (blk_cell BK116.out 2).trans rfl; have hcz45_3 : w40.cell? ⟨gb116, 3, none⟩ = some (.string (⟨#[]⟩ : ByteArray)) := (blk_cell BK116.out 3).trans rfl; have hcz45_4 : w40.cell? ⟨gb116, 4, none⟩ = some (.string (⟨#[]⟩ : ByteArray)) := (blk_cell BK116.out 4).trans rfl; have hcz45_5 : w40.cell? ⟨gb116, 5, none⟩ = some (.string (⟨#[]⟩ : ByteArray)) := (blk_cell BK116.out 5).trans rfl; have hfz45_0 := blk_frozen BK116.out 0; have hfz45_1 := blk_frozen BK116.out 1; have hfz45_2 := blk_frozen BK116.out 2; have hfz45_3 := blk_frozen BK116.out 3; have hfz45_4 := blk_frozen BK116.out 4; have hfz45_5 := blk_frozen BK116.out 5))
   refine bodyPost_ret (results_cell_row rfl _ _ gb116 41 #[.string (rdOf ByteArray.empty y117 (Go.bits .and .i64 a0 1)), .string t121, .string (rdOf ByteArray.empty y122 (ji5)), .string (rdOf ByteArray.empty y126 (ji8)), .string t130, .string (rdOf ByteArray.empty y132 (ji13))] (0, 0) _ rfl (by (with_reducible repeat (first | refine blk_drewN ?_ _ | refine blk_drew ?_ | refine blk_alloc ?_ _)); refine blk_put (cs := #[.string (rdOf ByteArray.empty y117 (Go.bits .and .i64 a0 1)), .string t121, .string (rdOf ByteArray.empty y122 (ji5)), .string (rdOf ByteArray.empty y126 (ji8)), .string t130, .string (⟨#[]⟩ : ByteArray)]) ?_ 5 _ rfl; (with_reducible repeat (first | refine blk_drewN ?_ _ | refine blk_drew ?_ | refine blk_alloc ?_ _)); refine blk_put (cs := #[.string (rdOf ByteArray.empty y117 (Go.bits .and .i64 a0 1)), .string t121, .string (rdOf ByteArray.empty y122 (ji5)), .string (rdOf ByteArray.empty y126 (ji8)), .string (⟨#[]⟩ : ByteArray), .string (⟨#[]⟩ : ByteArray)]) ?_ 4 _ rfl; (with_reducible repeat (first | refine blk_drewN ?_ _ | refine blk_drew ?_ | refine blk_alloc ?_ _)); refine blk_put (cs := #[.string (rdOf ByteArray.empty y117 (Go.bits .and .i64 a0 1)), .string t121, .string (rdOf ByteArray.empty y122 (ji5)), .string (⟨#[]⟩ : ByteArray), .string (⟨#[]⟩ : ByteArray), .string (⟨#[]⟩ : ByteArray)]) ?_ 3 _ rfl; (with_reducible repeat (first | refine blk_drewN ?_ _ | refine blk_drew ?_ | refine blk_alloc ?_ _)); refine blk_put (cs := #[.string (rdOf ByteArray.empty y117 (Go.bits .and .i64 a0 1)), .string t121, .string (⟨#[]⟩ : ByteArray), .string (⟨#[]⟩ : ByteArray), .string (⟨#[]⟩ : ByteArray), .string (⟨#[]⟩ : ByteArray)]) ?_ 2 _ rfl; (with_reducible repeat (first | refine blk_drewN ?_ _ | refine blk_drew ?_ | refine blk_alloc ?_ _)); refine blk_put (cs := #[.string (rdOf ByteArray.empty y117 (Go.bits .and .i64 a0 1)), .string (⟨#[]⟩ : ByteArray), .string (⟨#[]⟩ : ByteArray), .string (⟨#[]⟩ : ByteArray), .string (⟨#[]⟩ : ByteArray), .string (⟨#[]⟩ : ByteArray)]) ?_ 1 _ rfl; (with_reducible repeat (first | refine blk_drewN ?_ _ | refine blk_drew ?_ | refine blk_alloc ?_ _)); refine blk_put (cs := #[.string (⟨#[]⟩ : ByteArray), .string (⟨#[]⟩ : ByteArray), .string (⟨#[]⟩ : ByteArray), .string (⟨#[]⟩ : ByteArray), .string (⟨#[]⟩ : ByteArray), .string (⟨#[]⟩ : ByteArray)]) ?_ 0 _ rfl; (with_reducible repeat (first | refine blk_drewN ?_ _ | refine blk_drew ?_ | refine blk_alloc ?_ _)); refine blk_far ?_ NB116_131.out _; (with_reducible repeat (first | refine blk_drewN ?_ _ | refine blk_drew ?_ | refine blk_alloc ?_ _)); exact BK116.out) Try.underlying41 rfl (by kernel_rfl)) rfl ?_
   exact ⟨by first | rfl | (simp [errW_none, errW_some] <;> rfl) | (simp only [← hji5, ← hji8, ← hji13]; first | rfl | (simp [errW_none, errW_some] <;> rfl)) | (simp [*, errW_none, errW_some] <;> rfl), by repeat (first | (with_reducible first | exact HB.out | apply below_alloc | apply pw_below_drewN | apply below_drew1 | refine below_set ?_ GE116.out | refine below_set ?_ GE131.out) | exact HB.out)⟩
  ·rw [if_neg c12] at H
   have c12b0 : ((Go.bits .and .i64 (a0 / 65536) 3) == 0) = false := beq_eq_false_iff_ne.mpr c12
   have c12b1 : ((Go.bits .and .i64 (a0 / 65536) 3) != 0) = true := bne_iff_ne.mpr c12
   simp only [Option.some.injEq, Prod.mk.injEq] at H
   obtain ⟨rfl, rfl, rfl, rfl, rfl, rfl⟩ := H
   go_enter Try.func25, Try.ntmps25
   try go_wp2_with (first | ((with_reducible refine gate_dst (N := 2) rfl ?_); refine box_event ?hg (N := 2) ?hd (cs := #[.string (⟨#[]⟩ : ByteArray), .string (⟨#[]⟩ : ByteArray), .string (⟨#[]⟩ : ByteArray), .string (⟨#[]⟩ : ByteArray), .string (⟨#[]⟩ : ByteArray), .string (⟨#[]⟩ : ByteArray)]) (t := 41) ?hr ?_; (case hd => rfl); (case hg => rfl); (case hr => first | (go_simp; done) | (go_simp; rfl)); intro gb116 hg w46 hbox hb; have n0_ := Aside0.mk (below_step (by repeat (first | (with_reducible first | exact HB.out | apply below_alloc | apply pw_below_drewN | apply below_drew1) | exact HB.out)) hb); have n1_ := Aside0.mk (hbox); have n2_ := Aside0.mk ((by rw [hg]; exact (below_size (by repeat (first | (with_reducible first | exact HB.out | apply below_alloc | apply pw_below_drewN | apply below_drew1) | exact HB.out))) : w.heap.size ≤ gb116)); have n3_ := Aside0.mk ((by rw [hg]; exact (below_size (by repeat (first | (with_reducible first | exact HB.out | apply below_alloc | apply pw_below_drewN | apply below_drew1) | exact HB.out))) : w.heap.size ≤ gb116)); clear HB; have HB := n0_; have BK116 := n1_; have GW116 := n2_; have GE116 := n3_; clear n0_ n1_ n2_ n3_; clear hb hbox hg))
   have pi120 : (0 ≤ ((Go.bits .and .i64 a0 1) : Int)) = True := eq_true (of_decide_eq_true (by first | (with_reducible assumption) | assumption))
   have qi120 : ((Go.bits .and .i64 a0 1) < (y117.length : Int)) = True := eq_true (of_decide_eq_true (by first | (with_reducible assumption) | assumption))
   have pi125 : (0 ≤ ((ji5) : Int)) = True := eq_true (of_decide_eq_true (by first | (with_reducible assumption) | assumption))
   have qi125 : ((ji5) < (y122.length : Int)) = True := eq_true (of_decide_eq_true (by first | (with_reducible assumption) | assumption))
   have pi129 : (0 ≤ ((ji8) : Int)) = True := eq_true (of_decide_eq_true (by first | (with_reducible assumption) | assumption))
   have qi129 : ((ji8) < (y126.length : Int)) = True := eq_true (of_decide_eq_true (by first | (with_reducible assumption) | assumption))
   have n0_ := Aside0.mk (blk_drew BK116.out)
   have n1_ := Aside0.mk (below_drew1 HB.out)
   clear BK116
   clear HB
   have BK116 := n0_
   have HB := n1_
   clear n0_ n1_
   refine start_ (n := 29) (S := fun w' => True) (ds := []) #[F,F,F,F,F,F,F,F,F,F,F,F,F,F,F,F,F,F,F,F,F,F,F,F,F,F,F,F,F] (by kernel_rfl) rfl rfl trivial (fun hHeld => ?_); refine with_tabW entaillaw2_Tame.tab1 entaillaw2_Tame.bits1 (fun HT_ HW_ => ?_)
   generalize w46.drew = w47 at BK116 HB hHeld ⊢
   refine pure_ (i := 1) (N := some 5) (v := ?_) (a' := ?_) #[F,T,F,F,F,F,F,F,F,F,F,F,F,F,F,F,F,F,F,F,F,F,F,F,F,F,F,F,F] rfl rfl (any_of HT_.out (by kernel_rfl)) (fun _ _ _ h => h) (Or.inl ⟨by rfl, ?_⟩) ?_ ?_
   rotate_left
   ·intro w'
    go_simp
    with_reducible rfl
   rotate_left
   ·simp only [Act.put, sa_, sz_, ss_, i64_w, i32_w]
    rfl
   refine pure_ (i := 5) (N := some 9) (v := ?_) (a' := ?_) #[F,T,F,F,F,T,F,F,F,F,F,F,F,F,F,F,F,F,F,F,F,F,F,F,F,F,F,F,F] rfl rfl (any_of HT_.out (by kernel_rfl)) (fun _ _ _ h => h) (Or.inl ⟨by rfl, ?_⟩) ?_ ?_
   rotate_left
   ·intro w'
    go_simp
    with_reducible rfl
   rotate_left
   ·simp only [Act.put, sa_, sz_, ss_, i64_w, i32_w]
    rfl
   refine pure_ (i := 10) (N := some 14) (v := ?_) (a' := ?_) #[F,T,F,F,F,T,F,F,F,F,T,F,F,F,F,F,F,F,F,F,F,F,F,F,F,F,F,F,F] rfl rfl (any_of HT_.out (by kernel_rfl)) (fun _ _ _ h => h) (Or.inl ⟨by rfl, ?_⟩) ?_ ?_
   rotate_left
   ·intro w'
    go_simp
    with_reducible rfl
   rotate_left
   ·simp only [Act.put, sa_, sz_, ss_, i64_w, i32_w]
    rfl
   refine pure_ (i := 16) (N := some 20) (v := ?_) (a' := ?_) #[F,T,F,F,F,T,F,F,F,F,T,F,F,F,F,F,T,F,F,F,F,F,F,F,F,F,F,F,F] rfl rfl (any_of HT_.out (by kernel_rfl)) (fun _ _ _ h => h) (Or.inl ⟨by rfl, ?_⟩) ?_ ?_
   rotate_left
   ·intro w'
    go_simp
    with_reducible rfl
   rotate_left
   ·simp only [Act.put, sa_, sz_, ss_, i64_w, i32_w]
    rfl
   refine pure_ (i := 22) (N := some 26) (v := ?_) (a' := ?_) #[F,T,F,F,F,T,F,F,F,F,T,F,F,F,F,F,T,F,F,F,F,F,T,F,F,F,F,F,F] rfl rfl (any_of HT_.out (by kernel_rfl)) (fun _ _ _ h => h) (Or.inl ⟨by rfl, ?_⟩) ?_ ?_
   rotate_left
   ·intro w'
    go_simp
    with_reducible rfl
   rotate_left
   ·simp only [Act.put, sa_, sz_, ss_, i64_w, i32_w]
    rfl
   refine inv_at [0, 2, 3, 4, 6, 7, 8, 9, 11, 12, 13, 14, 15, 17, 18, 19, 20, 21, 23, 24, 25, 26, 27, 28] (fun a0_ b a w' => ∃ (v118 : Value) (adz_v118 : Addr) (v123 : Value) (adz_v123 : Addr) (v127 : Value) (adz_v127 : Addr) (gb131 : Nat) (m3_ : Value) (m13_ : Value) (m20_ : Value) (m27_ : Value), a = putSel a0_ b [(0, 4, v118), (2, 6, .int .i64 (Go.bits .and .i64 a0 1)), (3, 7, m3_), (4, 8, .string (rdOf ByteArray.empty y117 (Go.bits .and .i64 a0 1))), (6, 10, .int .i64 (a0 / 2)), (7, 11, .string t121), (8, 12, .agg #[.string (rdOf ByteArray.empty y117 (Go.bits .and .i64 a0 1)), .string t121]), (9, 13, v123), (11, 15, .int .i64 (a0 / 16)), (12, 16, .int .i64 ji5), (13, 17, m13_), (14, 18, .string (rdOf ByteArray.empty y122 (ji5))), (15, 19, v127), (17, 21, .int .i64 (a0 / 32)), (18, 22, .int .i64 (Go.bits .and .i64 (a0 / 32) 255)), (19, 23, .int .i64 ji8), (20, 24, m20_), (21, 25, .string (rdOf ByteArray.empty y126 (ji8))), (23, 27, .int .i64 (a0 / 8192)), (24, 28, .string t130), (25, 29, .agg #[.string (rdOf ByteArray.empty y126 (ji8)), .string t130, .string (⟨#[]⟩ : ByteArray)]), (26, 30, .agg #[.string (rdOf ByteArray.empty y117 (Go.bits .and .i64 a0 1)), .string t121, .string (rdOf ByteArray.empty y122 (ji5)), .string (rdOf ByteArray.empty y126 (ji8)), .string t130, .string (⟨#[]⟩ : ByteArray)]), (27, 3, m27_)] ∧ (w'.heap[gb116]? = some (.cells #[.string (⟨#[]⟩ : ByteArray), .string (⟨#[]⟩ : ByteArray), .string (⟨#[]⟩ : ByteArray), .string (⟨#[]⟩ : ByteArray), .string (⟨#[]⟩ : ByteArray), .string (⟨#[]⟩ : ByteArray)] 41 (0, 0))) ∧ (Below w.heap.size w w') ∧ (b 0 = true → Kd.R Kd.string 9 w' w.heap.size (fun _ => True) v118 y117) ∧ (b 0 = true → ∃ c_, (v118 : Value) = .slice (some adz_v118) y117.length c_) ∧ (b 9 = true → Kd.R Kd.string 9 w' w.heap.size (fun _ => True) v123 y122) ∧ (b 9 = true → ∃ c_, (v123 : Value) = .slice (some adz_v123) y122.length c_) ∧ (b 15 = true → Kd.R Kd.string 9 w' w.heap.size (fun _ => True) v127 y126) ∧ (b 15 = true → ∃ c_, (v127 : Value) = .slice (some adz_v127) y126.length c_) ∧ (b 27 = true → b 28 = false → w'.heap[gb131]? = some (.cells #[.string (⟨#[]⟩ : ByteArray), .string (⟨#[]⟩ : ByteArray), .string (⟨#[]⟩ : ByteArray), .string (⟨#[]⟩ : ByteArray), .string (⟨#[]⟩ : ByteArray), .string (⟨#[]⟩ : ByteArray)] 41 (0, 0))) ∧ (b 27 = true → w.heap.size ≤ gb131) ∧ (b 27 = true → w.heap.size ≤ gb131) ∧ (b 27 = true → gb116 ≠ gb131) ∧ (b 27 = true → gb131 ≠ gb116) ∧ (b 28 = true → w'.heap[gb131]? = some (.cells #[.string (rdOf ByteArray.empty y117 (Go.bits .and .i64 a0 1)), .string t121, .string (rdOf ByteArray.empty y122 (ji5)), .string (rdOf ByteArray.empty y126 (ji8)), .string t130, .string (⟨#[]⟩ : ByteArray)] 41 (0, 0))) ∧ (b 3 = true → (m3_ : Value) = .pointer (some (adz_v118.add ((Go.bits .and .i64 a0 1)).toNat))) ∧ (b 13 = true → (m13_ : Value) = .pointer (some (adz_v123.add ((ji5)).toNat))) ∧ (b 20 = true → (m20_ : Value) = .pointer (some (adz_v127.add ((ji8)).toNat))) ∧ (b 27 = true → (m27_ : Value) = .pointer (some ⟨gb131, 0, none⟩))) HT_.out HW_.out (by kernel_rfl) (by kernel_rfl) ?_ ?_ ?_
   ·exact ⟨.bool false, ⟨0, 0, none⟩, .bool false, ⟨0, 0, none⟩, .bool false, ⟨0, 0, none⟩, 0, .bool false, .bool false, .bool false, .bool false, by simp only [putSel, Bool.false_eq_true, if_false], BK116.out, HB.out, fun h_ => absurd h_ (by decide), fun h_ => absurd h_ (by decide), fun h_ => absurd h_ (by decide), fun h_ => absurd h_ (by decide), fun h_ => absurd h_ (by decide), fun h_ => absurd h_ (by decide), fun h_ => absurd h_ (by decide), fun h_ => absurd h_ (by decide), fun h_ => absurd h_ (by decide), fun h_ => absurd h_ (by decide), fun h_ => absurd h_ (by decide), fun h_ => absurd h_ (by decide), fun h_ => absurd h_ (by decide), fun h_ => absurd h_ (by decide), fun h_ => absurd h_ (by decide), fun h_ => absurd h_ (by decide)⟩
   ·skip
    clear BK116 HB
    refine steps_cons ?_ ?_
    ·rintro b a w' ⟨v118, adz_v118, v123, adz_v123, v127, adz_v127, gb131, m3_, m13_, m20_, m27_, ha, Q_BK116, Q_HB, Q_HO119, Q_HA_HO119, Q_HO124, Q_HA_HO124, Q_HO128, Q_HA_HO128, Q_BK131, Q_GW131, Q_GE131, Q_NB116_131, Q_NB131_116, Q_BK131_e28, Q_X3_, Q_X13_, Q_X20_, Q_X27_⟩ hb_ hon hoff
     refine ⟨_, rfl, fun K hK => ?_⟩
     replace ha := Aside0.mk ha
     have BK116 := Aside0.mk Q_BK116
     have HB := Aside0.mk Q_HB
     refine Kd.R_lit_step Kd.string _ 9 ?hg (N := 4) ?hd (xs := ([(⟨#[97]⟩ : ByteArray), (⟨#[98]⟩ : ByteArray)] : List ByteArray)) (inner := [.string (⟨#[97]⟩ : ByteArray), .string (⟨#[98]⟩ : ByteArray)]) (ok := fun _ => True) (okp := fun _ => True) ?hr ?hp (fun _ hk => hk) trivial (Below.refl _ _) (Nat.le_refl _) (by simp) ?_; (case hd => rfl); (case hg => rfl); (case hr => first | (go_simp; done) | (go_simp; rfl)); (case hp => exact (Reps.one (show Kd.M Kd.string _ _ _ (⟨#[97]⟩ : ByteArray) [.string (⟨#[97]⟩ : ByteArray)] from rfl) (Reps.one (show Kd.M Kd.string _ _ _ (⟨#[98]⟩ : ByteArray) [.string (⟨#[98]⟩ : ByteArray)] from rfl) (Reps.none _ _))))
     intro v118 w48 ho49 hb hg_ hnew_
     clear hg_ hnew_
     (first | rw [← Ny117.out] at ho49 | (simp only [Int.reduceToNat] at ho49; rw [← Ny117.out] at ho49))
     have n0_ := Aside0.mk (Kd.R_lower ho49 (below_size (by repeat (first | (with_reducible first | exact HB.out | apply below_alloc | apply pw_below_drewN | apply below_drew1 | refine below_set ?_ GE116.out) | exact HB.out))))
     have n1_ := Aside0.mk (blk_below (g := gb116) (o := .cells #[.string (⟨#[]⟩ : ByteArray), .string (⟨#[]⟩ : ByteArray), .string (⟨#[]⟩ : ByteArray), .string (⟨#[]⟩ : ByteArray), .string (⟨#[]⟩ : ByteArray), .string (⟨#[]⟩ : ByteArray)] 41 (0, 0)) (by (with_reducible repeat (first | refine blk_drewN ?_ _ | refine blk_drew ?_ | refine blk_alloc ?_ _)); exact BK116.out) hb)
     have n2_ := Aside0.mk (below_step (by repeat (first | (with_reducible first | exact HB.out | apply below_alloc | apply pw_below_drewN | apply below_drew1 | refine below_set ?_ GE116.out) | exact HB.out)) hb)
     have z_HO124 := fun (h0_ : b 9 = true) => (show Kd.R Kd.string 9 w48 w.heap.size (fun _ => True) v123 y122 from by first | exact (Kd.R_elder' (by (with_reducible repeat (first | apply Kd.R_alloc | apply Kd.R_drewN | apply Kd.R_drew)); exact (Q_HO124 h0_)) (Kd.R_base ho49) hb) | exact Kd.R_mono (Kd.R_elder' (by (with_reducible repeat (first | apply Kd.R_alloc | apply Kd.R_drewN | apply Kd.R_drew)); exact (Q_HO124 h0_)) (Kd.R_base ho49) hb) (fun _ h_ => by first | trivial | exact h_ | exact h_.1))
     have z_HO128 := fun (h0_ : b 15 = true) => (show Kd.R Kd.string 9 w48 w.heap.size (fun _ => True) v127 y126 from by first | exact (Kd.R_elder' (by (with_reducible repeat (first | apply Kd.R_alloc | apply Kd.R_drewN | apply Kd.R_drew)); exact (Q_HO128 h0_)) (Kd.R_base ho49) hb) | exact Kd.R_mono (Kd.R_elder' (by (with_reducible repeat (first | apply Kd.R_alloc | apply Kd.R_drewN | apply Kd.R_drew)); exact (Q_HO128 h0_)) (Kd.R_base ho49) hb) (fun _ h_ => by first | trivial | exact h_ | exact h_.1))
     have z_BK131 := fun (h0_ : b 27 = true) (h1_ : b 28 = false) => (show w48.heap[gb131]? = some (.cells #[.string (⟨#[]⟩ : ByteArray), .string (⟨#[]⟩ : ByteArray), .string (⟨#[]⟩ : ByteArray), .string (⟨#[]⟩ : ByteArray), .string (⟨#[]⟩ : ByteArray), .string (⟨#[]⟩ : ByteArray)] 41 (0, 0)) from by first | exact (blk_below (g := gb131) (o := .cells #[.string (⟨#[]⟩ : ByteArray), .string (⟨#[]⟩ : ByteArray), .string (⟨#[]⟩ : ByteArray), .string (⟨#[]⟩ : ByteArray), .string (⟨#[]⟩ : ByteArray), .string (⟨#[]⟩ : ByteArray)] 41 (0, 0)) (by (with_reducible repeat (first | refine blk_drewN ?_ _ | refine blk_drew ?_ | refine blk_alloc ?_ _)); exact (Q_BK131 h0_ h1_)) hb))
     clear BK116
     clear HB
     have HO119 := n0_
     have BK116 := n1_
     have HB := n2_
     clear n0_ n1_ n2_
     clear hb ho49
     obtain ⟨Ao50, co50, eo50⟩ := Kd.R_slice HO119.out
     subst eo50
     obtain ⟨ado50, fo50, _⟩ := Kd.at_string (Kd.R_reads' HO119.out).2.2 0 (by decide) (by rw [Ny117.out]; simp)
     cases fo50
     refine hK.out _ _ ⟨.slice (some ado50) y117.length co50, ado50, v123, adz_v123, v127, adz_v127, gb131, m3_, m13_, m20_, m27_, (by rw [ha.out]; exact putSel_upk 0 hb_ rfl rfl rfl), (by (with_reducible repeat (first | refine blk_drewN ?_ _ | refine blk_drew ?_ | refine blk_alloc ?_ _)); exact BK116.out), (by repeat (first | (with_reducible first | exact HB.out | apply below_alloc | apply pw_below_drewN | apply below_drew1 | refine below_set ?_ GE116.out) | exact HB.out)), fun _ => (by (with_reducible repeat (first | apply Kd.R_alloc | apply Kd.R_drewN | apply Kd.R_drew)); exact HO119.out), fun _ => ⟨_, rfl⟩, z_HO124, Q_HA_HO124, z_HO128, Q_HA_HO128, z_BK131, Q_GW131, Q_GE131, Q_NB116_131, Q_NB131_116, fun h0_ => absurd ((hoff 28 (by kernel_rfl)).symm.trans h0_) (by decide), fun h0_ => absurd ((hoff 3 (by kernel_rfl)).symm.trans h0_) (by decide), Q_X13_, Q_X20_, Q_X27_⟩
    refine steps_cons ?_ ?_
    ·rintro b a w' ⟨v118, adz_v118, v123, adz_v123, v127, adz_v127, gb131, m3_, m13_, m20_, m27_, ha, Q_BK116, Q_HB, Q_HO119, Q_HA_HO119, Q_HO124, Q_HA_HO124, Q_HO128, Q_HA_HO128, Q_BK131, Q_GW131, Q_GE131, Q_NB116_131, Q_NB131_116, Q_BK131_e28, Q_X3_, Q_X13_, Q_X20_, Q_X27_⟩ hb_ hon hoff
     refine ⟨_, rfl, fun K hK => ?_⟩
     have e5 : a.tmps[5]? = some (.int .i64 a0) := by rw [ha]; exact (putSel_off rfl).trans rfl
     replace ha := Aside0.mk ha
     have BK116 := Aside0.mk Q_BK116
     have HB := Aside0.mk Q_HB
     refine value_ (w1 := w') (v := .int .i64 (Go.bits .and .i64 a0 1)) (by rfl) rfl ?_ ?_
     ·go_simp
      (try simp only [i64_w])
      try rfl
     refine hK.out _ _ ⟨v118, adz_v118, v123, adz_v123, v127, adz_v127, gb131, m3_, m13_, m20_, m27_, (by rw [ha.out]; exact putSel_upk 1 hb_ rfl rfl rfl), Q_BK116, Q_HB, Q_HO119, Q_HA_HO119, Q_HO124, Q_HA_HO124, Q_HO128, Q_HA_HO128, Q_BK131, Q_GW131, Q_GE131, Q_NB116_131, Q_NB131_116, fun h0_ => absurd ((hoff 28 (by kernel_rfl)).symm.trans h0_) (by decide), fun h0_ => absurd ((hoff 3 (by kernel_rfl)).symm.trans h0_) (by decide), Q_X13_, Q_X20_, Q_X27_⟩
    refine steps_cons ?_ ?_
    ·rintro b a w' ⟨v118, adz_v118, v123, adz_v123, v127, adz_v127, gb131, m3_, m13_, m20_, m27_, ha, Q_BK116, Q_HB, Q_HO119, Q_HA_HO119, Q_HO124, Q_HA_HO124, Q_HO128, Q_HA_HO128, Q_BK131, Q_GW131, Q_GE131, Q_NB116_131, Q_NB131_116, Q_BK131_e28, Q_X3_, Q_X13_, Q_X20_, Q_X27_⟩ hb_ hon hoff
     refine ⟨_, rfl, fun K hK => ?_⟩
     have e4 : a.tmps[4]? = some (v118) := by rw [ha]; exact putSel_on (e := (0, 4, v118)) 0 rfl rfl (hon 0 (by kernel_rfl)) rfl
     have e6 : a.tmps[6]? = some (.int .i64 (Go.bits .and .i64 a0 1)) := by rw [ha]; exact putSel_on (e := (2, 6, .int .i64 (Go.bits .and .i64 a0 1))) 1 rfl rfl (hon 2 (by kernel_rfl)) rfl
     replace ha := Aside0.mk ha
     have BK116 := Aside0.mk Q_BK116
     have HB := Aside0.mk Q_HB
     have HO119 := Aside0.mk (Q_HO119 (hon 0 (by kernel_rfl)))
     have HA_HO119 := Aside0.mk (Q_HA_HO119 (hon 0 (by kernel_rfl)))
     obtain ⟨c_, hv_⟩ := HA_HO119.out
     rw [hv_] at e4
     refine value_ (w1 := w') (v := .pointer (some (adz_v118.add ((Go.bits .and .i64 a0 1)).toNat))) (by rfl) rfl ?_ ?_
     ·go_simp
      (try simp only [i64_w])
      try rfl
     refine hK.out _ _ ⟨v118, adz_v118, v123, adz_v123, v127, adz_v127, gb131, (.pointer (some (adz_v118.add ((Go.bits .and .i64 a0 1)).toNat))), m13_, m20_, m27_, (by rw [ha.out]; exact putSel_upk 2 hb_ rfl rfl rfl), Q_BK116, Q_HB, Q_HO119, Q_HA_HO119, Q_HO124, Q_HA_HO124, Q_HO128, Q_HA_HO128, Q_BK131, Q_GW131, Q_GE131, Q_NB116_131, Q_NB131_116, fun h0_ => absurd ((hoff 28 (by kernel_rfl)).symm.trans h0_) (by decide), fun _ => rfl, Q_X13_, Q_X20_, Q_X27_⟩
    refine steps_cons ?_ ?_
    ·rintro b a w' ⟨v118, adz_v118, v123, adz_v123, v127, adz_v127, gb131, m3_, m13_, m20_, m27_, ha, Q_BK116, Q_HB, Q_HO119, Q_HA_HO119, Q_HO124, Q_HA_HO124, Q_HO128, Q_HA_HO128, Q_BK131, Q_GW131, Q_GE131, Q_NB116_131, Q_NB131_116, Q_BK131_e28, Q_X3_, Q_X13_, Q_X20_, Q_X27_⟩ hb_ hon hoff
     refine ⟨_, rfl, fun K hK => ?_⟩
     have e7 : a.tmps[7]? = some (m3_) := by rw [ha]; exact putSel_on (e := (3, 7, m3_)) 2 rfl rfl (hon 3 (by kernel_rfl)) rfl
     rw [Q_X3_ (hon 3 (by kernel_rfl))] at e7
     replace ha := Aside0.mk ha
     have BK116 := Aside0.mk Q_BK116
     have HB := Aside0.mk Q_HB
     have HO119 := Aside0.mk (Q_HO119 (hon 0 (by kernel_rfl)))
     have HA_HO119 := Aside0.mk (Q_HA_HO119 (hon 0 (by kernel_rfl)))
     obtain ⟨c_, hv_⟩ := HA_HO119.out
     have hF_ := HO119.out
     rw [hv_] at hF_
     obtain ⟨ad_, ea_, hx_⟩ := Kd.at_string (Kd.R_reads' hF_).2.2 (Go.bits .and .i64 a0 1) (of_eq_true pi120) (of_eq_true qi120)
     cases ea_
     refine value_ (w1 := w') (v := .string (rdOf ByteArray.empty y117 (Go.bits .and .i64 a0 1))) (by rfl) rfl ?_ ?_
     ·go_simp
      (try simp only [i64_w])
      try rfl
     refine hK.out _ _ ⟨v118, adz_v118, v123, adz_v123, v127, adz_v127, gb131, m3_, m13_, m20_, m27_, (by rw [ha.out]; exact putSel_upk 3 hb_ rfl rfl rfl), Q_BK116, Q_HB, Q_HO119, Q_HA_HO119, Q_HO124, Q_HA_HO124, Q_HO128, Q_HA_HO128, Q_BK131, Q_GW131, Q_GE131, Q_NB116_131, Q_NB131_116, fun h0_ => absurd ((hoff 28 (by kernel_rfl)).symm.trans h0_) (by decide), Q_X3_, Q_X13_, Q_X20_, Q_X27_⟩
    refine steps_cons ?_ ?_
    ·rintro b a w' ⟨v118, adz_v118, v123, adz_v123, v127, adz_v127, gb131, m3_, m13_, m20_, m27_, ha, Q_BK116, Q_HB, Q_HO119, Q_HA_HO119, Q_HO124, Q_HA_HO124, Q_HO128, Q_HA_HO128, Q_BK131, Q_GW131, Q_GE131, Q_NB116_131, Q_NB131_116, Q_BK131_e28, Q_X3_, Q_X13_, Q_X20_, Q_X27_⟩ hb_ hon hoff
     refine ⟨_, rfl, fun K hK => ?_⟩
     have e9 : a.tmps[9]? = some (.int .i64 a0) := by rw [ha]; exact (putSel_off rfl).trans rfl
     replace ha := Aside0.mk ha
     have BK116 := Aside0.mk Q_BK116
     have HB := Aside0.mk Q_HB
     refine value_ (w1 := w') (v := .int .i64 (a0 / 2)) (by rfl) rfl ?_ ?_
     ·go_simp
      (try simp only [i64_w])
      try rfl
     refine hK.out _ _ ⟨v118, adz_v118, v123, adz_v123, v127, adz_v127, gb131, m3_, m13_, m20_, m27_, (by rw [ha.out]; exact putSel_upk 4 hb_ rfl rfl rfl), Q_BK116, Q_HB, Q_HO119, Q_HA_HO119, Q_HO124, Q_HA_HO124, Q_HO128, Q_HA_HO128, Q_BK131, Q_GW131, Q_GE131, Q_NB116_131, Q_NB131_116, fun h0_ => absurd ((hoff 28 (by kernel_rfl)).symm.trans h0_) (by decide), Q_X3_, Q_X13_, Q_X20_, Q_X27_⟩
    refine steps_cons ?_ ?_
    ·rintro b a w' ⟨v118, adz_v118, v123, adz_v123, v127, adz_v127, gb131, m3_, m13_, m20_, m27_, ha, Q_BK116, Q_HB, Q_HO119, Q_HA_HO119, Q_HO124, Q_HA_HO124, Q_HO128, Q_HA_HO128, Q_BK131, Q_GW131, Q_GE131, Q_NB116_131, Q_NB131_116, Q_BK131_e28, Q_X3_, Q_X13_, Q_X20_, Q_X27_⟩ hb_ hon hoff
     refine ⟨_, rfl, fun K hK => ?_⟩
     have e10 : a.tmps[10]? = some (.int .i64 (a0 / 2)) := by rw [ha]; exact putSel_on (e := (6, 10, .int .i64 (a0 / 2))) 4 rfl rfl (hon 6 (by kernel_rfl)) rfl
     replace ha := Aside0.mk ha
     have BK116 := Aside0.mk Q_BK116
     have HB := Aside0.mk Q_HB
     refine goes_ Try.func46 (by kernel_rfl) rfl #[.int .i64 (a0 / 2)] (by rfl) rfl rfl (by first | (simp only [List.map_toArray, List.map_cons, List.map_nil, Act.eval, Array.getD_eq_getD_getElem?, Option.getD_some, e10]; done) | (simp only [List.map_toArray, List.map_cons, List.map_nil, Act.eval, Array.getD_eq_getD_getElem?, Option.getD_some, e10]; rfl)) ?_
     with_reducible refine (entaillaw1_Nm.calls (a0 / 2) t121 _ A4.out).mono ?_
     rintro e w48 ⟨rfl, hb⟩
     refine ⟨_, rfl, ?_⟩
     have n0_ := Aside0.mk (blk_below (g := gb116) (o := .cells #[.string (⟨#[]⟩ : ByteArray), .string (⟨#[]⟩ : ByteArray), .string (⟨#[]⟩ : ByteArray), .string (⟨#[]⟩ : ByteArray), .string (⟨#[]⟩ : ByteArray), .string (⟨#[]⟩ : ByteArray)] 41 (0, 0)) (by (with_reducible repeat (first | refine blk_drewN ?_ _ | refine blk_drew ?_ | refine blk_alloc ?_ _)); exact BK116.out) hb)
     have n1_ := Aside0.mk (below_step (by repeat (first | (with_reducible first | exact HB.out | apply below_alloc | apply pw_below_drewN | apply below_drew1 | refine below_set ?_ GE116.out) | exact HB.out)) hb)
     have z_HO119 := fun (h0_ : b 0 = true) => (show Kd.R Kd.string 9 w48 w.heap.size (fun _ => True) v118 y117 from by first | exact (Kd.R_below (by (with_reducible repeat (first | apply Kd.R_alloc | apply Kd.R_drewN | apply Kd.R_drew)); exact (Q_HO119 h0_)) hb) | exact Kd.R_mono (Kd.R_below (by (with_reducible repeat (first | apply Kd.R_alloc | apply Kd.R_drewN | apply Kd.R_drew)); exact (Q_HO119 h0_)) hb) (fun _ h_ => by first | trivial | exact h_ | exact h_.1))
     have z_HO124 := fun (h0_ : b 9 = true) => (show Kd.R Kd.string 9 w48 w.heap.size (fun _ => True) v123 y122 from by first | exact (Kd.R_below (by (with_reducible repeat (first | apply Kd.R_alloc | apply Kd.R_drewN | apply Kd.R_drew)); exact (Q_HO124 h0_)) hb) | exact Kd.R_mono (Kd.R_below (by (with_reducible repeat (first | apply Kd.R_alloc | apply Kd.R_drewN | apply Kd.R_drew)); exact (Q_HO124 h0_)) hb) (fun _ h_ => by first | trivial | exact h_ | exact h_.1))
     have z_HO128 := fun (h0_ : b 15 = true) => (show Kd.R Kd.string 9 w48 w.heap.size (fun _ => True) v127 y126 from by first | exact (Kd.R_below (by (with_reducible repeat (first | apply Kd.R_alloc | apply Kd.R_drewN | apply Kd.R_drew)); exact (Q_HO128 h0_)) hb) | exact Kd.R_mono (Kd.R_below (by (with_reducible repeat (first | apply Kd.R_alloc | apply Kd.R_drewN | apply Kd.R_drew)); exact (Q_HO128 h0_)) hb) (fun _ h_ => by first | trivial | exact h_ | exact h_.1))
     have z_BK131 := fun (h0_ : b 27 = true) (h1_ : b 28 = false) => (show w48.heap[gb131]? = some (.cells #[.string (⟨#[]⟩ : ByteArray), .string (⟨#[]⟩ : ByteArray), .string (⟨#[]⟩ : ByteArray), .string (⟨#[]⟩ : ByteArray), .string (⟨#[]⟩ : ByteArray), .string (⟨#[]⟩ : ByteArray)] 41 (0, 0)) from by first | exact (blk_below (g := gb131) (o := .cells #[.string (⟨#[]⟩ : ByteArray), .string (⟨#[]⟩ : ByteArray), .string (⟨#[]⟩ : ByteArray), .string (⟨#[]⟩ : ByteArray), .string (⟨#[]⟩ : ByteArray), .string (⟨#[]⟩ : ByteArray)] 41 (0, 0)) (by (with_reducible repeat (first | refine blk_drewN ?_ _ | refine blk_drew ?_ | refine blk_alloc ?_ _)); exact (Q_BK131 h0_ h1_)) hb))
     clear BK116
     clear HB
     have BK116 := n0_
     have HB := n1_
     clear n0_ n1_
     (try clear hb)
     (try clear hb2)
     (try clear hk)
     (try clear hi)
     refine hK.out _ _ ⟨v118, adz_v118, v123, adz_v123, v127, adz_v127, gb131, m3_, m13_, m20_, m27_, (by rw [ha.out]; exact putSel_upk 5 hb_ rfl rfl rfl), (by (with_reducible repeat (first | refine blk_drewN ?_ _ | refine blk_drew ?_ | refine blk_alloc ?_ _)); exact BK116.out), (by repeat (first | (with_reducible first | exact HB.out | apply below_alloc | apply pw_below_drewN | apply below_drew1 | refine below_set ?_ GE116.out) | exact HB.out)), z_HO119, Q_HA_HO119, z_HO124, Q_HA_HO124, z_HO128, Q_HA_HO128, z_BK131, Q_GW131, Q_GE131, Q_NB116_131, Q_NB131_116, fun h0_ => absurd ((hoff 28 (by kernel_rfl)).symm.trans h0_) (by decide), Q_X3_, Q_X13_, Q_X20_, Q_X27_⟩
    refine steps_cons ?_ ?_
    ·rintro b a w' ⟨v118, adz_v118, v123, adz_v123, v127, adz_v127, gb131, m3_, m13_, m20_, m27_, ha, Q_BK116, Q_HB, Q_HO119, Q_HA_HO119, Q_HO124, Q_HA_HO124, Q_HO128, Q_HA_HO128, Q_BK131, Q_GW131, Q_GE131, Q_NB116_131, Q_NB131_116, Q_BK131_e28, Q_X3_, Q_X13_, Q_X20_, Q_X27_⟩ hb_ hon hoff
     refine ⟨_, rfl, fun K hK => ?_⟩
     have e8 : a.tmps[8]? = some (.string (rdOf ByteArray.empty y117 (Go.bits .and .i64 a0 1))) := by rw [ha]; exact putSel_on (e := (4, 8, .string (rdOf ByteArray.empty y117 (Go.bits .and .i64 a0 1)))) 3 rfl rfl (hon 4 (by kernel_rfl)) rfl
     have e11 : a.tmps[11]? = some (.string t121) := by rw [ha]; exact putSel_on (e := (7, 11, .string t121)) 5 rfl rfl (hon 7 (by kernel_rfl)) rfl
     replace ha := Aside0.mk ha
     have BK116 := Aside0.mk Q_BK116
     have HB := Aside0.mk Q_HB
     have HO119 := Aside0.mk (Q_HO119 (hon 0 (by kernel_rfl)))
     have HA_HO119 := Aside0.mk (Q_HA_HO119 (hon 0 (by kernel_rfl)))
     refine value_ (w1 := w') (v := .agg #[.string (rdOf ByteArray.empty y117 (Go.bits .and .i64 a0 1)), .string t121]) (by rfl) rfl ?_ ?_
     ·go_simp
      (try simp only [i64_w])
      try rfl
     refine hK.out _ _ ⟨v118, adz_v118, v123, adz_v123, v127, adz_v127, gb131, m3_, m13_, m20_, m27_, (by rw [ha.out]; exact putSel_upk 6 hb_ rfl rfl rfl), Q_BK116, Q_HB, Q_HO119, Q_HA_HO119, Q_HO124, Q_HA_HO124, Q_HO128, Q_HA_HO128, Q_BK131, Q_GW131, Q_GE131, Q_NB116_131, Q_NB131_116, fun h0_ => absurd ((hoff 28 (by kernel_rfl)).symm.trans h0_) (by decide), Q_X3_, Q_X13_, Q_X20_, Q_X27_⟩
    refine steps_cons ?_ ?_
    ·rintro b a w' ⟨v118, adz_v118, v123, adz_v123, v127, adz_v127, gb131, m3_, m13_, m20_, m27_, ha, Q_BK116, Q_HB, Q_HO119, Q_HA_HO119, Q_HO124, Q_HA_HO124, Q_HO128, Q_HA_HO128, Q_BK131, Q_GW131, Q_GE131, Q_NB116_131, Q_NB131_116, Q_BK131_e28, Q_X3_, Q_X13_, Q_X20_, Q_X27_⟩ hb_ hon hoff
     refine ⟨_, rfl, fun K hK => ?_⟩
     replace ha := Aside0.mk ha
     have BK116 := Aside0.mk Q_BK116
     have HB := Aside0.mk Q_HB
     refine Kd.R_lit_step Kd.string _ 9 ?hg (N := 13) ?hd (xs := ([(⟨#[114]⟩ : ByteArray), (⟨#[115]⟩ : ByteArray)] : List ByteArray)) (inner := [.string (⟨#[114]⟩ : ByteArray), .string (⟨#[115]⟩ : ByteArray)]) (ok := fun _ => True) (okp := fun _ => True) ?hr ?hp (fun _ hk => hk) trivial (Below.refl _ _) (Nat.le_refl _) (by simp) ?_; (case hd => rfl); (case hg => rfl); (case hr => first | (go_simp; done) | (go_simp; rfl)); (case hp => exact (Reps.one (show Kd.M Kd.string _ _ _ (⟨#[114]⟩ : ByteArray) [.string (⟨#[114]⟩ : ByteArray)] from rfl) (Reps.one (show Kd.M Kd.string _ _ _ (⟨#[115]⟩ : ByteArray) [.string (⟨#[115]⟩ : ByteArray)] from rfl) (Reps.none _ _))))
     intro v123 w48 ho49 hb hg_ hnew_
     clear hg_ hnew_
     (first | rw [← Ny122.out] at ho49 | (simp only [Int.reduceToNat] at ho49; rw [← Ny122.out] at ho49))
     have n0_ := Aside0.mk (Kd.R_lower ho49 (below_size (by repeat (first | (with_reducible first | exact HB.out | apply below_alloc | apply pw_below_drewN | apply below_drew1 | refine below_set ?_ GE116.out) | exact HB.out))))
     have n1_ := Aside0.mk (blk_below (g := gb116) (o := .cells #[.string (⟨#[]⟩ : ByteArray), .string (⟨#[]⟩ : ByteArray), .string (⟨#[]⟩ : ByteArray), .string (⟨#[]⟩ : ByteArray), .string (⟨#[]⟩ : ByteArray), .string (⟨#[]⟩ : ByteArray)] 41 (0, 0)) (by (with_reducible repeat (first | refine blk_drewN ?_ _ | refine blk_drew ?_ | refine blk_alloc ?_ _)); exact BK116.out) hb)
     have n2_ := Aside0.mk (below_step (by repeat (first | (with_reducible first | exact HB.out | apply below_alloc | apply pw_below_drewN | apply below_drew1 | refine below_set ?_ GE116.out) | exact HB.out)) hb)
     have z_HO119 := fun (h0_ : b 0 = true) => (show Kd.R Kd.string 9 w48 w.heap.size (fun _ => True) v118 y117 from by first | exact (Kd.R_elder' (by (with_reducible repeat (first | apply Kd.R_alloc | apply Kd.R_drewN | apply Kd.R_drew)); exact (Q_HO119 h0_)) (Kd.R_base ho49) hb) | exact Kd.R_mono (Kd.R_elder' (by (with_reducible repeat (first | apply Kd.R_alloc | apply Kd.R_drewN | apply Kd.R_drew)); exact (Q_HO119 h0_)) (Kd.R_base ho49) hb) (fun _ h_ => by first | trivial | exact h_ | exact h_.1))
     have z_HO128 := fun (h0_ : b 15 = true) => (show Kd.R Kd.string 9 w48 w.heap.size (fun _ => True) v127 y126 from by first | exact (Kd.R_elder' (by (with_reducible repeat (first | apply Kd.R_alloc | apply Kd.R_drewN | apply Kd.R_drew)); exact (Q_HO128 h0_)) (Kd.R_base ho49) hb) | exact Kd.R_mono (Kd.R_elder' (by (with_reducible repeat (first | apply Kd.R_alloc | apply Kd.R_drewN | apply Kd.R_drew)); exact (Q_HO128 h0_)) (Kd.R_base ho49) hb) (fun _ h_ => by first | trivial | exact h_ | exact h_.1))
     have z_BK131 := fun (h0_ : b 27 = true) (h1_ : b 28 = false) => (show w48.heap[gb131]? = some (.cells #[.string (⟨#[]⟩ : ByteArray), .string (⟨#[]⟩ : ByteArray), .string (⟨#[]⟩ : ByteArray), .string (⟨#[]⟩ : ByteArray), .string (⟨#[]⟩ : ByteArray), .string (⟨#[]⟩ : ByteArray)] 41 (0, 0)) from by first | exact (blk_below (g := gb131) (o := .cells #[.string (⟨#[]⟩ : ByteArray), .string (⟨#[]⟩ : ByteArray), .string (⟨#[]⟩ : ByteArray), .string (⟨#[]⟩ : ByteArray), .string (⟨#[]⟩ : ByteArray), .string (⟨#[]⟩ : ByteArray)] 41 (0, 0)) (by (with_reducible repeat (first | refine blk_drewN ?_ _ | refine blk_drew ?_ | refine blk_alloc ?_ _)); exact (Q_BK131 h0_ h1_)) hb))
     clear BK116
     clear HB
     have HO124 := n0_
     have BK116 := n1_
     have HB := n2_
     clear n0_ n1_ n2_
     clear hb ho49
     obtain ⟨Ao50, co50, eo50⟩ := Kd.R_slice HO124.out
     subst eo50
     obtain ⟨ado50, fo50, _⟩ := Kd.at_string (Kd.R_reads' HO124.out).2.2 0 (by decide) (by rw [Ny122.out]; simp)
     cases fo50
     refine hK.out _ _ ⟨v118, adz_v118, .slice (some ado50) y122.length co50, ado50, v127, adz_v127, gb131, m3_, m13_, m20_, m27_, (by rw [ha.out]; exact putSel_upk 7 hb_ rfl rfl rfl), (by (with_reducible repeat (first | refine blk_drewN ?_ _ | refine blk_drew ?_ | refine blk_alloc ?_ _)); exact BK116.out), (by repeat (first | (with_reducible first | exact HB.out | apply below_alloc | apply pw_below_drewN | apply below_drew1 | refine below_set ?_ GE116.out) | exact HB.out)), z_HO119, Q_HA_HO119, fun _ => (by (with_reducible repeat (first | apply Kd.R_alloc | apply Kd.R_drewN | apply Kd.R_drew)); exact HO124.out), fun _ => ⟨_, rfl⟩, z_HO128, Q_HA_HO128, z_BK131, Q_GW131, Q_GE131, Q_NB116_131, Q_NB131_116, fun h0_ => absurd ((hoff 28 (by kernel_rfl)).symm.trans h0_) (by decide), Q_X3_, fun h0_ => absurd ((hoff 13 (by kernel_rfl)).symm.trans h0_) (by decide), Q_X20_, Q_X27_⟩
    refine steps_cons ?_ ?_
    ·rintro b a w' ⟨v118, adz_v118, v123, adz_v123, v127, adz_v127, gb131, m3_, m13_, m20_, m27_, ha, Q_BK116, Q_HB, Q_HO119, Q_HA_HO119, Q_HO124, Q_HA_HO124, Q_HO128, Q_HA_HO128, Q_BK131, Q_GW131, Q_GE131, Q_NB116_131, Q_NB131_116, Q_BK131_e28, Q_X3_, Q_X13_, Q_X20_, Q_X27_⟩ hb_ hon hoff
     refine ⟨_, rfl, fun K hK => ?_⟩
     have e14 : a.tmps[14]? = some (.int .i64 a0) := by rw [ha]; exact (putSel_off rfl).trans rfl
     replace ha := Aside0.mk ha
     have BK116 := Aside0.mk Q_BK116
     have HB := Aside0.mk Q_HB
     refine value_ (w1 := w') (v := .int .i64 (a0 / 16)) (by rfl) rfl ?_ ?_
     ·go_simp
      (try simp only [i64_w])
      try rfl
     refine hK.out _ _ ⟨v118, adz_v118, v123, adz_v123, v127, adz_v127, gb131, m3_, m13_, m20_, m27_, (by rw [ha.out]; exact putSel_upk 8 hb_ rfl rfl rfl), Q_BK116, Q_HB, Q_HO119, Q_HA_HO119, Q_HO124, Q_HA_HO124, Q_HO128, Q_HA_HO128, Q_BK131, Q_GW131, Q_GE131, Q_NB116_131, Q_NB131_116, fun h0_ => absurd ((hoff 28 (by kernel_rfl)).symm.trans h0_) (by decide), Q_X3_, fun h0_ => absurd ((hoff 13 (by kernel_rfl)).symm.trans h0_) (by decide), Q_X20_, Q_X27_⟩
    refine steps_cons ?_ ?_
    ·rintro b a w' ⟨v118, adz_v118, v123, adz_v123, v127, adz_v127, gb131, m3_, m13_, m20_, m27_, ha, Q_BK116, Q_HB, Q_HO119, Q_HA_HO119, Q_HO124, Q_HA_HO124, Q_HO128, Q_HA_HO128, Q_BK131, Q_GW131, Q_GE131, Q_NB116_131, Q_NB131_116, Q_BK131_e28, Q_X3_, Q_X13_, Q_X20_, Q_X27_⟩ hb_ hon hoff
     refine ⟨_, rfl, fun K hK => ?_⟩
     have e15 : a.tmps[15]? = some (.int .i64 (a0 / 16)) := by rw [ha]; exact putSel_on (e := (11, 15, .int .i64 (a0 / 16))) 8 rfl rfl (hon 11 (by kernel_rfl)) rfl
     replace ha := Aside0.mk ha
     have BK116 := Aside0.mk Q_BK116
     have HB := Aside0.mk Q_HB
     refine value_ (w1 := w') (v := .int .i64 ji5) (by rfl) rfl ?_ ?_
     ·go_simp
      (try simp only [i64_w])
      try rfl
     refine hK.out _ _ ⟨v118, adz_v118, v123, adz_v123, v127, adz_v127, gb131, m3_, m13_, m20_, m27_, (by rw [ha.out]; exact putSel_upk 9 hb_ rfl rfl rfl), Q_BK116, Q_HB, Q_HO119, Q_HA_HO119, Q_HO124, Q_HA_HO124, Q_HO128, Q_HA_HO128, Q_BK131, Q_GW131, Q_GE131, Q_NB116_131, Q_NB131_116, fun h0_ => absurd ((hoff 28 (by kernel_rfl)).symm.trans h0_) (by decide), Q_X3_, fun h0_ => absurd ((hoff 13 (by kernel_rfl)).symm.trans h0_) (by decide), Q_X20_, Q_X27_⟩
    refine steps_cons ?_ ?_
    ·rintro b a w' ⟨v118, adz_v118, v123, adz_v123, v127, adz_v127, gb131, m3_, m13_, m20_, m27_, ha, Q_BK116, Q_HB, Q_HO119, Q_HA_HO119, Q_HO124, Q_HA_HO124, Q_HO128, Q_HA_HO128, Q_BK131, Q_GW131, Q_GE131, Q_NB116_131, Q_NB131_116, Q_BK131_e28, Q_X3_, Q_X13_, Q_X20_, Q_X27_⟩ hb_ hon hoff
     refine ⟨_, rfl, fun K hK => ?_⟩
     have e13 : a.tmps[13]? = some (v123) := by rw [ha]; exact putSel_on (e := (9, 13, v123)) 7 rfl rfl (hon 9 (by kernel_rfl)) rfl
     have e16 : a.tmps[16]? = some (.int .i64 ji5) := by rw [ha]; exact putSel_on (e := (12, 16, .int .i64 ji5)) 9 rfl rfl (hon 12 (by kernel_rfl)) rfl
     replace ha := Aside0.mk ha
     have BK116 := Aside0.mk Q_BK116
     have HB := Aside0.mk Q_HB
     have HO124 := Aside0.mk (Q_HO124 (hon 9 (by kernel_rfl)))
     have HA_HO124 := Aside0.mk (Q_HA_HO124 (hon 9 (by kernel_rfl)))
     obtain ⟨c_, hv_⟩ := HA_HO124.out
     rw [hv_] at e13
     refine value_ (w1 := w') (v := .pointer (some (adz_v123.add ((ji5)).toNat))) (by rfl) rfl ?_ ?_
     ·go_simp
      (try simp only [i64_w])
      try rfl
     refine hK.out _ _ ⟨v118, adz_v118, v123, adz_v123, v127, adz_v127, gb131, m3_, (.pointer (some (adz_v123.add ((ji5)).toNat))), m20_, m27_, (by rw [ha.out]; exact putSel_upk 10 hb_ rfl rfl rfl), Q_BK116, Q_HB, Q_HO119, Q_HA_HO119, Q_HO124, Q_HA_HO124, Q_HO128, Q_HA_HO128, Q_BK131, Q_GW131, Q_GE131, Q_NB116_131, Q_NB131_116, fun h0_ => absurd ((hoff 28 (by kernel_rfl)).symm.trans h0_) (by decide), Q_X3_, fun _ => rfl, Q_X20_, Q_X27_⟩
    refine steps_cons ?_ ?_
    ·rintro b a w' ⟨v118, adz_v118, v123, adz_v123, v127, adz_v127, gb131, m3_, m13_, m20_, m27_, ha, Q_BK116, Q_HB, Q_HO119, Q_HA_HO119, Q_HO124, Q_HA_HO124, Q_HO128, Q_HA_HO128, Q_BK131, Q_GW131, Q_GE131, Q_NB116_131, Q_NB131_116, Q_BK131_e28, Q_X3_, Q_X13_, Q_X20_, Q_X27_⟩ hb_ hon hoff
     refine ⟨_, rfl, fun K hK => ?_⟩
     have e17 : a.tmps[17]? = some (m13_) := by rw [ha]; exact putSel_on (e := (13, 17, m13_)) 10 rfl rfl (hon 13 (by kernel_rfl)) rfl
     rw [Q_X13_ (hon 13 (by kernel_rfl))] at e17
     replace ha := Aside0.mk ha
     have BK116 := Aside0.mk Q_BK116
     have HB := Aside0.mk Q_HB
     have HO124 := Aside0.mk (Q_HO124 (hon 9 (by kernel_rfl)))
     have HA_HO124 := Aside0.mk (Q_HA_HO124 (hon 9 (by kernel_rfl)))
     obtain ⟨c_, hv_⟩ := HA_HO124.out
     have hF_ := HO124.out
     rw [hv_] at hF_
     obtain ⟨ad_, ea_, hx_⟩ := Kd.at_string (Kd.R_reads' hF_).2.2 (ji5) (of_eq_true pi125) (of_eq_true qi125)
     cases ea_
     refine value_ (w1 := w') (v := .string (rdOf ByteArray.empty y122 (ji5))) (by rfl) rfl ?_ ?_
     ·go_simp
      (try simp only [i64_w])
      try rfl
     refine hK.out _ _ ⟨v118, adz_v118, v123, adz_v123, v127, adz_v127, gb131, m3_, m13_, m20_, m27_, (by rw [ha.out]; exact putSel_upk 11 hb_ rfl rfl rfl), Q_BK116, Q_HB, Q_HO119, Q_HA_HO119, Q_HO124, Q_HA_HO124, Q_HO128, Q_HA_HO128, Q_BK131, Q_GW131, Q_GE131, Q_NB116_131, Q_NB131_116, fun h0_ => absurd ((hoff 28 (by kernel_rfl)).symm.trans h0_) (by decide), Q_X3_, Q_X13_, Q_X20_, Q_X27_⟩
    refine steps_cons ?_ ?_
    ·rintro b a w' ⟨v118, adz_v118, v123, adz_v123, v127, adz_v127, gb131, m3_, m13_, m20_, m27_, ha, Q_BK116, Q_HB, Q_HO119, Q_HA_HO119, Q_HO124, Q_HA_HO124, Q_HO128, Q_HA_HO128, Q_BK131, Q_GW131, Q_GE131, Q_NB116_131, Q_NB131_116, Q_BK131_e28, Q_X3_, Q_X13_, Q_X20_, Q_X27_⟩ hb_ hon hoff
     refine ⟨_, rfl, fun K hK => ?_⟩
     replace ha := Aside0.mk ha
     have BK116 := Aside0.mk Q_BK116
     have HB := Aside0.mk Q_HB
     refine Kd.R_lit_step Kd.string _ 9 ?hg (N := 19) ?hd (xs := ([(⟨#[117]⟩ : ByteArray), (⟨#[97]⟩ : ByteArray), (⟨#[98]⟩ : ByteArray)] : List ByteArray)) (inner := [.string (⟨#[117]⟩ : ByteArray), .string (⟨#[97]⟩ : ByteArray), .string (⟨#[98]⟩ : ByteArray)]) (ok := fun _ => True) (okp := fun _ => True) ?hr ?hp (fun _ hk => hk) trivial (Below.refl _ _) (Nat.le_refl _) (by simp) ?_; (case hd => rfl); (case hg => rfl); (case hr => first | (go_simp; done) | (go_simp; rfl)); (case hp => exact (Reps.one (show Kd.M Kd.string _ _ _ (⟨#[117]⟩ : ByteArray) [.string (⟨#[117]⟩ : ByteArray)] from rfl) (Reps.one (show Kd.M Kd.string _ _ _ (⟨#[97]⟩ : ByteArray) [.string (⟨#[97]⟩ : ByteArray)] from rfl) (Reps.one (show Kd.M Kd.string _ _ _ (⟨#[98]⟩ : ByteArray) [.string (⟨#[98]⟩ : ByteArray)] from rfl) (Reps.none _ _)))))
     intro v127 w48 ho49 hb hg_ hnew_
     clear hg_ hnew_
     (first | rw [← Ny126.out] at ho49 | (simp only [Int.reduceToNat] at ho49; rw [← Ny126.out] at ho49))
     have n0_ := Aside0.mk (Kd.R_lower ho49 (below_size (by repeat (first | (with_reducible first | exact HB.out | apply below_alloc | apply pw_below_drewN | apply below_drew1 | refine below_set ?_ GE116.out) | exact HB.out))))
     have n1_ := Aside0.mk (blk_below (g := gb116) (o := .cells #[.string (⟨#[]⟩ : ByteArray), .string (⟨#[]⟩ : ByteArray), .string (⟨#[]⟩ : ByteArray), .string (⟨#[]⟩ : ByteArray), .string (⟨#[]⟩ : ByteArray), .string (⟨#[]⟩ : ByteArray)] 41 (0, 0)) (by (with_reducible repeat (first | refine blk_drewN ?_ _ | refine blk_drew ?_ | refine blk_alloc ?_ _)); exact BK116.out) hb)
     have n2_ := Aside0.mk (below_step (by repeat (first | (with_reducible first | exact HB.out | apply below_alloc | apply pw_below_drewN | apply below_drew1 | refine below_set ?_ GE116.out) | exact HB.out)) hb)
     have z_HO119 := fun (h0_ : b 0 = true) => (show Kd.R Kd.string 9 w48 w.heap.size (fun _ => True) v118 y117 from by first | exact (Kd.R_elder' (by (with_reducible repeat (first | apply Kd.R_alloc | apply Kd.R_drewN | apply Kd.R_drew)); exact (Q_HO119 h0_)) (Kd.R_base ho49) hb) | exact Kd.R_mono (Kd.R_elder' (by (with_reducible repeat (first | apply Kd.R_alloc | apply Kd.R_drewN | apply Kd.R_drew)); exact (Q_HO119 h0_)) (Kd.R_base ho49) hb) (fun _ h_ => by first | trivial | exact h_ | exact h_.1))
     have z_HO124 := fun (h0_ : b 9 = true) => (show Kd.R Kd.string 9 w48 w.heap.size (fun _ => True) v123 y122 from by first | exact (Kd.R_elder' (by (with_reducible repeat (first | apply Kd.R_alloc | apply Kd.R_drewN | apply Kd.R_drew)); exact (Q_HO124 h0_)) (Kd.R_base ho49) hb) | exact Kd.R_mono (Kd.R_elder' (by (with_reducible repeat (first | apply Kd.R_alloc | apply Kd.R_drewN | apply Kd.R_drew)); exact (Q_HO124 h0_)) (Kd.R_base ho49) hb) (fun _ h_ => by first | trivial | exact h_ | exact h_.1))
     have z_BK131 := fun (h0_ : b 27 = true) (h1_ : b 28 = false) => (show w48.heap[gb131]? = some (.cells #[.string (⟨#[]⟩ : ByteArray), .string (⟨#[]⟩ : ByteArray), .string (⟨#[]⟩ : ByteArray), .string (⟨#[]⟩ : ByteArray), .string (⟨#[]⟩ : ByteArray), .string (⟨#[]⟩ : ByteArray)] 41 (0, 0)) from by first | exact (blk_below (g := gb131) (o := .cells #[.string (⟨#[]⟩ : ByteArray), .string (⟨#[]⟩ : ByteArray), .string (⟨#[]⟩ : ByteArray), .string (⟨#[]⟩ : ByteArray), .string (⟨#[]⟩ : ByteArray), .string (⟨#[]⟩ : ByteArray)] 41 (0, 0)) (by (with_reducible repeat (first | refine blk_drewN ?_ _ | refine blk_drew ?_ | refine blk_alloc ?_ _)); exact (Q_BK131 h0_ h1_)) hb))
     clear BK116
     clear HB
     have HO128 := n0_
     have BK116 := n1_
     have HB := n2_
     clear n0_ n1_ n2_
     clear hb ho49
     obtain ⟨Ao50, co50, eo50⟩ := Kd.R_slice HO128.out
     subst eo50
     obtain ⟨ado50, fo50, _⟩ := Kd.at_string (Kd.R_reads' HO128.out).2.2 0 (by decide) (by rw [Ny126.out]; simp)
     cases fo50
     refine hK.out _ _ ⟨v118, adz_v118, v123, adz_v123, .slice (some ado50) y126.length co50, ado50, gb131, m3_, m13_, m20_, m27_, (by rw [ha.out]; exact putSel_upk 12 hb_ rfl rfl rfl), (by (with_reducible repeat (first | refine blk_drewN ?_ _ | refine blk_drew ?_ | refine blk_alloc ?_ _)); exact BK116.out), (by repeat (first | (with_reducible first | exact HB.out | apply below_alloc | apply pw_below_drewN | apply below_drew1 | refine below_set ?_ GE116.out) | exact HB.out)), z_HO119, Q_HA_HO119, z_HO124, Q_HA_HO124, fun _ => (by (with_reducible repeat (first | apply Kd.R_alloc | apply Kd.R_drewN | apply Kd.R_drew)); exact HO128.out), fun _ => ⟨_, rfl⟩, z_BK131, Q_GW131, Q_GE131, Q_NB116_131, Q_NB131_116, fun h0_ => absurd ((hoff 28 (by kernel_rfl)).symm.trans h0_) (by decide), Q_X3_, Q_X13_, fun h0_ => absurd ((hoff 20 (by kernel_rfl)).symm.trans h0_) (by decide), Q_X27_⟩
    refine steps_cons ?_ ?_
    ·rintro b a w' ⟨v118, adz_v118, v123, adz_v123, v127, adz_v127, gb131, m3_, m13_, m20_, m27_, ha, Q_BK116, Q_HB, Q_HO119, Q_HA_HO119, Q_HO124, Q_HA_HO124, Q_HO128, Q_HA_HO128, Q_BK131, Q_GW131, Q_GE131, Q_NB116_131, Q_NB131_116, Q_BK131_e28, Q_X3_, Q_X13_, Q_X20_, Q_X27_⟩ hb_ hon hoff
     refine ⟨_, rfl, fun K hK => ?_⟩
     have e20 : a.tmps[20]? = some (.int .i64 a0) := by rw [ha]; exact (putSel_off rfl).trans rfl
     replace ha := Aside0.mk ha
     have BK116 := Aside0.mk Q_BK116
     have HB := Aside0.mk Q_HB
     refine value_ (w1 := w') (v := .int .i64 (a0 / 32)) (by rfl) rfl ?_ ?_
     ·go_simp
      (try simp only [i64_w])
      try rfl
     refine hK.out _ _ ⟨v118, adz_v118, v123, adz_v123, v127, adz_v127, gb131, m3_, m13_, m20_, m27_, (by rw [ha.out]; exact putSel_upk 13 hb_ rfl rfl rfl), Q_BK116, Q_HB, Q_HO119, Q_HA_HO119, Q_HO124, Q_HA_HO124, Q_HO128, Q_HA_HO128, Q_BK131, Q_GW131, Q_GE131, Q_NB116_131, Q_NB131_116, fun h0_ => absurd ((hoff 28 (by kernel_rfl)).symm.trans h0_) (by decide), Q_X3_, Q_X13_, fun h0_ => absurd ((hoff 20 (by kernel_rfl)).symm.trans h0_) (by decide), Q_X27_⟩
    refine steps_cons ?_ ?_
    ·rintro b a w' ⟨v118, adz_v118, v123, adz_v123, v127, adz_v127, gb131, m3_, m13_, m20_, m27_, ha, Q_BK116, Q_HB, Q_HO119, Q_HA_HO119, Q_HO124, Q_HA_HO124, Q_HO128, Q_HA_HO128, Q_BK131, Q_GW131, Q_GE131, Q_NB116_131, Q_NB131_116, Q_BK131_e28, Q_X3_, Q_X13_, Q_X20_, Q_X27_⟩ hb_ hon hoff
     refine ⟨_, rfl, fun K hK => ?_⟩
     have e21 : a.tmps[21]? = some (.int .i64 (a0 / 32)) := by rw [ha]; exact putSel_on (e := (17, 21, .int .i64 (a0 / 32))) 13 rfl rfl (hon 17 (by kernel_rfl)) rfl
     replace ha := Aside0.mk ha
     have BK116 := Aside0.mk Q_BK116
     have HB := Aside0.mk Q_HB
     refine value_ (w1 := w') (v := .int .i64 (Go.bits .and .i64 (a0 / 32) 255)) (by rfl) rfl ?_ ?_
     ·go_simp
      (try simp only [i64_w])
      try rfl
     refine hK.out _ _ ⟨v118, adz_v118, v123, adz_v123, v127, adz_v127, gb131, m3_, m13_, m20_, m27_, (by rw [ha.out]; exact putSel_upk 14 hb_ rfl rfl rfl), Q_BK116, Q_HB, Q_HO119, Q_HA_HO119, Q_HO124, Q_HA_HO124, Q_HO128, Q_HA_HO128, Q_BK131, Q_GW131, Q_GE131, Q_NB116_131, Q_NB131_116, fun h0_ => absurd ((hoff 28 (by kernel_rfl)).symm.trans h0_) (by decide), Q_X3_, Q_X13_, fun h0_ => absurd ((hoff 20 (by kernel_rfl)).symm.trans h0_) (by decide), Q_X27_⟩
    refine steps_cons ?_ ?_
    ·rintro b a w' ⟨v118, adz_v118, v123, adz_v123, v127, adz_v127, gb131, m3_, m13_, m20_, m27_, ha, Q_BK116, Q_HB, Q_HO119, Q_HA_HO119, Q_HO124, Q_HA_HO124, Q_HO128, Q_HA_HO128, Q_BK131, Q_GW131, Q_GE131, Q_NB116_131, Q_NB131_116, Q_BK131_e28, Q_X3_, Q_X13_, Q_X20_, Q_X27_⟩ hb_ hon hoff
     refine ⟨_, rfl, fun K hK => ?_⟩
     have e22 : a.tmps[22]? = some (.int .i64 (Go.bits .and .i64 (a0 / 32) 255)) := by rw [ha]; exact putSel_on (e := (18, 22, .int .i64 (Go.bits .and .i64 (a0 / 32) 255))) 14 rfl rfl (hon 18 (by kernel_rfl)) rfl
     replace ha := Aside0.mk ha
     have BK116 := Aside0.mk Q_BK116
     have HB := Aside0.mk Q_HB
     refine value_ (w1 := w') (v := .int .i64 ji8) (by rfl) rfl ?_ ?_
     ·go_simp
      (try simp only [i64_w])
      try rfl
     refine hK.out _ _ ⟨v118, adz_v118, v123, adz_v123, v127, adz_v127, gb131, m3_, m13_, m20_, m27_, (by rw [ha.out]; exact putSel_upk 15 hb_ rfl rfl rfl), Q_BK116, Q_HB, Q_HO119, Q_HA_HO119, Q_HO124, Q_HA_HO124, Q_HO128, Q_HA_HO128, Q_BK131, Q_GW131, Q_GE131, Q_NB116_131, Q_NB131_116, fun h0_ => absurd ((hoff 28 (by kernel_rfl)).symm.trans h0_) (by decide), Q_X3_, Q_X13_, fun h0_ => absurd ((hoff 20 (by kernel_rfl)).symm.trans h0_) (by decide), Q_X27_⟩
    refine steps_cons ?_ ?_
    ·rintro b a w' ⟨v118, adz_v118, v123, adz_v123, v127, adz_v127, gb131, m3_, m13_, m20_, m27_, ha, Q_BK116, Q_HB, Q_HO119, Q_HA_HO119, Q_HO124, Q_HA_HO124, Q_HO128, Q_HA_HO128, Q_BK131, Q_GW131, Q_GE131, Q_NB116_131, Q_NB131_116, Q_BK131_e28, Q_X3_, Q_X13_, Q_X20_, Q_X27_⟩ hb_ hon hoff
     refine ⟨_, rfl, fun K hK => ?_⟩
     have e19 : a.tmps[19]? = some (v127) := by rw [ha]; exact putSel_on (e := (15, 19, v127)) 12 rfl rfl (hon 15 (by kernel_rfl)) rfl
     have e23 : a.tmps[23]? = some (.int .i64 ji8) := by rw [ha]; exact putSel_on (e := (19, 23, .int .i64 ji8)) 15 rfl rfl (hon 19 (by kernel_rfl)) rfl
     replace ha := Aside0.mk ha
     have BK116 := Aside0.mk Q_BK116
     have HB := Aside0.mk Q_HB
     have HO128 := Aside0.mk (Q_HO128 (hon 15 (by kernel_rfl)))
     have HA_HO128 := Aside0.mk (Q_HA_HO128 (hon 15 (by kernel_rfl)))
     obtain ⟨c_, hv_⟩ := HA_HO128.out
     rw [hv_] at e19
     refine value_ (w1 := w') (v := .pointer (some (adz_v127.add ((ji8)).toNat))) (by rfl) rfl ?_ ?_
     ·go_simp
      (try simp only [i64_w])
      try rfl
     refine hK.out _ _ ⟨v118, adz_v118, v123, adz_v123, v127, adz_v127, gb131, m3_, m13_, (.pointer (some (adz_v127.add ((ji8)).toNat))), m27_, (by rw [ha.out]; exact putSel_upk 16 hb_ rfl rfl rfl), Q_BK116, Q_HB, Q_HO119, Q_HA_HO119, Q_HO124, Q_HA_HO124, Q_HO128, Q_HA_HO128, Q_BK131, Q_GW131, Q_GE131, Q_NB116_131, Q_NB131_116, fun h0_ => absurd ((hoff 28 (by kernel_rfl)).symm.trans h0_) (by decide), Q_X3_, Q_X13_, fun _ => rfl, Q_X27_⟩
    refine steps_cons ?_ ?_
    ·rintro b a w' ⟨v118, adz_v118, v123, adz_v123, v127, adz_v127, gb131, m3_, m13_, m20_, m27_, ha, Q_BK116, Q_HB, Q_HO119, Q_HA_HO119, Q_HO124, Q_HA_HO124, Q_HO128, Q_HA_HO128, Q_BK131, Q_GW131, Q_GE131, Q_NB116_131, Q_NB131_116, Q_BK131_e28, Q_X3_, Q_X13_, Q_X20_, Q_X27_⟩ hb_ hon hoff
     refine ⟨_, rfl, fun K hK => ?_⟩
     have e24 : a.tmps[24]? = some (m20_) := by rw [ha]; exact putSel_on (e := (20, 24, m20_)) 16 rfl rfl (hon 20 (by kernel_rfl)) rfl
     rw [Q_X20_ (hon 20 (by kernel_rfl))] at e24
     replace ha := Aside0.mk ha
     have BK116 := Aside0.mk Q_BK116
     have HB := Aside0.mk Q_HB
     have HO128 := Aside0.mk (Q_HO128 (hon 15 (by kernel_rfl)))
     have HA_HO128 := Aside0.mk (Q_HA_HO128 (hon 15 (by kernel_rfl)))
     obtain ⟨c_, hv_⟩ := HA_HO128.out
     have hF_ := HO128.out
     rw [hv_] at hF_
     obtain ⟨ad_, ea_, hx_⟩ := Kd.at_string (Kd.R_reads' hF_).2.2 (ji8) (of_eq_true pi129) (of_eq_true qi129)
     cases ea_
     refine value_ (w1 := w') (v := .string (rdOf ByteArray.empty y126 (ji8))) (by rfl) rfl ?_ ?_
     ·go_simp
      (try simp only [i64_w])
      try rfl
     refine hK.out _ _ ⟨v118, adz_v118, v123, adz_v123, v127, adz_v127, gb131, m3_, m13_, m20_, m27_, (by rw [ha.out]; exact putSel_upk 17 hb_ rfl rfl rfl), Q_BK116, Q_HB, Q_HO119, Q_HA_HO119, Q_HO124, Q_HA_HO124, Q_HO128, Q_HA_HO128, Q_BK131, Q_GW131, Q_GE131, Q_NB116_131, Q_NB131_116, fun h0_ => absurd ((hoff 28 (by kernel_rfl)).symm.trans h0_) (by decide), Q_X3_, Q_X13_, Q_X20_, Q_X27_⟩
    refine steps_cons ?_ ?_
    ·rintro b a w' ⟨v118, adz_v118, v123, adz_v123, v127, adz_v127, gb131, m3_, m13_, m20_, m27_, ha, Q_BK116, Q_HB, Q_HO119, Q_HA_HO119, Q_HO124, Q_HA_HO124, Q_HO128, Q_HA_HO128, Q_BK131, Q_GW131, Q_GE131, Q_NB116_131, Q_NB131_116, Q_BK131_e28, Q_X3_, Q_X13_, Q_X20_, Q_X27_⟩ hb_ hon hoff
     refine ⟨_, rfl, fun K hK => ?_⟩
     have e26 : a.tmps[26]? = some (.int .i64 a0) := by rw [ha]; exact (putSel_off rfl).trans rfl
     replace ha := Aside0.mk ha
     have BK116 := Aside0.mk Q_BK116
     have HB := Aside0.mk Q_HB
     refine value_ (w1 := w') (v := .int .i64 (a0 / 8192)) (by rfl) rfl ?_ ?_
     ·go_simp
      (try simp only [i64_w])
      try rfl
     refine hK.out _ _ ⟨v118, adz_v118, v123, adz_v123, v127, adz_v127, gb131, m3_, m13_, m20_, m27_, (by rw [ha.out]; exact putSel_upk 18 hb_ rfl rfl rfl), Q_BK116, Q_HB, Q_HO119, Q_HA_HO119, Q_HO124, Q_HA_HO124, Q_HO128, Q_HA_HO128, Q_BK131, Q_GW131, Q_GE131, Q_NB116_131, Q_NB131_116, fun h0_ => absurd ((hoff 28 (by kernel_rfl)).symm.trans h0_) (by decide), Q_X3_, Q_X13_, Q_X20_, Q_X27_⟩
    refine steps_cons ?_ ?_
    ·rintro b a w' ⟨v118, adz_v118, v123, adz_v123, v127, adz_v127, gb131, m3_, m13_, m20_, m27_, ha, Q_BK116, Q_HB, Q_HO119, Q_HA_HO119, Q_HO124, Q_HA_HO124, Q_HO128, Q_HA_HO128, Q_BK131, Q_GW131, Q_GE131, Q_NB116_131, Q_NB131_116, Q_BK131_e28, Q_X3_, Q_X13_, Q_X20_, Q_X27_⟩ hb_ hon hoff
     refine ⟨_, rfl, fun K hK => ?_⟩
     have e27 : a.tmps[27]? = some (.int .i64 (a0 / 8192)) := by rw [ha]; exact putSel_on (e := (23, 27, .int .i64 (a0 / 8192))) 18 rfl rfl (hon 23 (by kernel_rfl)) rfl
     replace ha := Aside0.mk ha
     have BK116 := Aside0.mk Q_BK116
     have HB := Aside0.mk Q_HB
     refine goes_ Try.func46 (by kernel_rfl) rfl #[.int .i64 (a0 / 8192)] (by rfl) rfl rfl (by first | (simp only [List.map_toArray, List.map_cons, List.map_nil, Act.eval, Array.getD_eq_getD_getElem?, Option.getD_some, e27]; done) | (simp only [List.map_toArray, List.map_cons, List.map_nil, Act.eval, Array.getD_eq_getD_getElem?, Option.getD_some, e27]; rfl)) ?_
     with_reducible refine (entaillaw1_Nm.calls (a0 / 8192) t130 _ A11.out).mono ?_
     rintro e w50 ⟨rfl, hb⟩
     refine ⟨_, rfl, ?_⟩
     have n0_ := Aside0.mk (blk_below (g := gb116) (o := .cells #[.string (⟨#[]⟩ : ByteArray), .string (⟨#[]⟩ : ByteArray), .string (⟨#[]⟩ : ByteArray), .string (⟨#[]⟩ : ByteArray), .string (⟨#[]⟩ : ByteArray), .string (⟨#[]⟩ : ByteArray)] 41 (0, 0)) (by (with_reducible repeat (first | refine blk_drewN ?_ _ | refine blk_drew ?_ | refine blk_alloc ?_ _)); exact BK116.out) hb)
     have n1_ := Aside0.mk (below_step (by repeat (first | (with_reducible first | exact HB.out | apply below_alloc | apply pw_below_drewN | apply below_drew1 | refine below_set ?_ GE116.out) | exact HB.out)) hb)
     have z_HO119 := fun (h0_ : b 0 = true) => (show Kd.R Kd.string 9 w50 w.heap.size (fun _ => True) v118 y117 from by first | exact (Kd.R_below (by (with_reducible repeat (first | apply Kd.R_alloc | apply Kd.R_drewN | apply Kd.R_drew)); exact (Q_HO119 h0_)) hb) | exact Kd.R_mono (Kd.R_below (by (with_reducible repeat (first | apply Kd.R_alloc | apply Kd.R_drewN | apply Kd.R_drew)); exact (Q_HO119 h0_)) hb) (fun _ h_ => by first | trivial | exact h_ | exact h_.1))
     have z_HO124 := fun (h0_ : b 9 = true) => (show Kd.R Kd.string 9 w50 w.heap.size (fun _ => True) v123 y122 from by first | exact (Kd.R_below (by (with_reducible repeat (first | apply Kd.R_alloc | apply Kd.R_drewN | apply Kd.R_drew)); exact (Q_HO124 h0_)) hb) | exact Kd.R_mono (Kd.R_below (by (with_reducible repeat (first | apply Kd.R_alloc | apply Kd.R_drewN | apply Kd.R_drew)); exact (Q_HO124 h0_)) hb) (fun _ h_ => by first | trivial | exact h_ | exact h_.1))
     have z_HO128 := fun (h0_ : b 15 = true) => (show Kd.R Kd.string 9 w50 w.heap.size (fun _ => True) v127 y126 from by first | exact (Kd.R_below (by (with_reducible repeat (first | apply Kd.R_alloc | apply Kd.R_drewN | apply Kd.R_drew)); exact (Q_HO128 h0_)) hb) | exact Kd.R_mono (Kd.R_below (by (with_reducible repeat (first | apply Kd.R_alloc | apply Kd.R_drewN | apply Kd.R_drew)); exact (Q_HO128 h0_)) hb) (fun _ h_ => by first | trivial | exact h_ | exact h_.1))
     have z_BK131 := fun (h0_ : b 27 = true) (h1_ : b 28 = false) => (show w50.heap[gb131]? = some (.cells #[.string (⟨#[]⟩ : ByteArray), .string (⟨#[]⟩ : ByteArray), .string (⟨#[]⟩ : ByteArray), .string (⟨#[]⟩ : ByteArray), .string (⟨#[]⟩ : ByteArray), .string (⟨#[]⟩ : ByteArray)] 41 (0, 0)) from by first | exact (blk_below (g := gb131) (o := .cells #[.string (⟨#[]⟩ : ByteArray), .string (⟨#[]⟩ : ByteArray), .string (⟨#[]⟩ : ByteArray), .string (⟨#[]⟩ : ByteArray), .string (⟨#[]⟩ : ByteArray), .string (⟨#[]⟩ : ByteArray)] 41 (0, 0)) (by (with_reducible repeat (first | refine blk_drewN ?_ _ | refine blk_drew ?_ | refine blk_alloc ?_ _)); exact (Q_BK131 h0_ h1_)) hb))
     clear BK116
     clear HB
     have BK116 := n0_
     have HB := n1_
     clear n0_ n1_
     (try clear hb)
     (try clear hb2)
     (try clear hk)
     (try clear hi)
     refine hK.out _ _ ⟨v118, adz_v118, v123, adz_v123, v127, adz_v127, gb131, m3_, m13_, m20_, m27_, (by rw [ha.out]; exact putSel_upk 19 hb_ rfl rfl rfl), (by (with_reducible repeat (first | refine blk_drewN ?_ _ | refine blk_drew ?_ | refine blk_alloc ?_ _)); exact BK116.out), (by repeat (first | (with_reducible first | exact HB.out | apply below_alloc | apply pw_below_drewN | apply below_drew1 | refine below_set ?_ GE116.out) | exact HB.out)), z_HO119, Q_HA_HO119, z_HO124, Q_HA_HO124, z_HO128, Q_HA_HO128, z_BK131, Q_GW131, Q_GE131, Q_NB116_131, Q_NB131_116, fun h0_ => absurd ((hoff 28 (by kernel_rfl)).symm.trans h0_) (by decide), Q_X3_, Q_X13_, Q_X20_, Q_X27_⟩
    refine steps_cons ?_ ?_
    ·rintro b a w' ⟨v118, adz_v118, v123, adz_v123, v127, adz_v127, gb131, m3_, m13_, m20_, m27_, ha, Q_BK116, Q_HB, Q_HO119, Q_HA_HO119, Q_HO124, Q_HA_HO124, Q_HO128, Q_HA_HO128, Q_BK131, Q_GW131, Q_GE131, Q_NB116_131, Q_NB131_116, Q_BK131_e28, Q_X3_, Q_X13_, Q_X20_, Q_X27_⟩ hb_ hon hoff
     refine ⟨_, rfl, fun K hK => ?_⟩
     have e25 : a.tmps[25]? = some (.string (rdOf ByteArray.empty y126 (ji8))) := by rw [ha]; exact putSel_on (e := (21, 25, .string (rdOf ByteArray.empty y126 (ji8)))) 17 rfl rfl (hon 21 (by kernel_rfl)) rfl
     have e28 : a.tmps[28]? = some (.string t130) := by rw [ha]; exact putSel_on (e := (24, 28, .string t130)) 19 rfl rfl (hon 24 (by kernel_rfl)) rfl
     replace ha := Aside0.mk ha
     have BK116 := Aside0.mk Q_BK116
     have HB := Aside0.mk Q_HB
     have HO128 := Aside0.mk (Q_HO128 (hon 15 (by kernel_rfl)))
     have HA_HO128 := Aside0.mk (Q_HA_HO128 (hon 15 (by kernel_rfl)))
     refine value_ (w1 := w') (v := .agg #[.string (rdOf ByteArray.empty y126 (ji8)), .string t130, .string (⟨#[]⟩ : ByteArray)]) (by rfl) rfl ?_ ?_
     ·go_simp
      (try simp only [i64_w])
      try rfl
     refine hK.out _ _ ⟨v118, adz_v118, v123, adz_v123, v127, adz_v127, gb131, m3_, m13_, m20_, m27_, (by rw [ha.out]; exact putSel_upk 20 hb_ rfl rfl rfl), Q_BK116, Q_HB, Q_HO119, Q_HA_HO119, Q_HO124, Q_HA_HO124, Q_HO128, Q_HA_HO128, Q_BK131, Q_GW131, Q_GE131, Q_NB116_131, Q_NB131_116, fun h0_ => absurd ((hoff 28 (by kernel_rfl)).symm.trans h0_) (by decide), Q_X3_, Q_X13_, Q_X20_, Q_X27_⟩
    refine steps_cons ?_ ?_
    ·rintro b a w' ⟨v118, adz_v118, v123, adz_v123, v127, adz_v127, gb131, m3_, m13_, m20_, m27_, ha, Q_BK116, Q_HB, Q_HO119, Q_HA_HO119, Q_HO124, Q_HA_HO124, Q_HO128, Q_HA_HO128, Q_BK131, Q_GW131, Q_GE131, Q_NB116_131, Q_NB131_116, Q_BK131_e28, Q_X3_, Q_X13_, Q_X20_, Q_X27_⟩ hb_ hon hoff
     refine ⟨_, rfl, fun K hK => ?_⟩
     have e12 : a.tmps[12]? = some (.agg #[.string (rdOf ByteArray.empty y117 (Go.bits .and .i64 a0 1)), .string t121]) := by rw [ha]; exact putSel_on (e := (8, 12, .agg #[.string (rdOf ByteArray.empty y117 (Go.bits .and .i64 a0 1)), .string t121])) 6 rfl rfl (hon 8 (by kernel_rfl)) rfl
     have e18 : a.tmps[18]? = some (.string (rdOf ByteArray.empty y122 (ji5))) := by rw [ha]; exact putSel_on (e := (14, 18, .string (rdOf ByteArray.empty y122 (ji5)))) 11 rfl rfl (hon 14 (by kernel_rfl)) rfl
     have e29 : a.tmps[29]? = some (.agg #[.string (rdOf ByteArray.empty y126 (ji8)), .string t130, .string (⟨#[]⟩ : ByteArray)]) := by rw [ha]; exact putSel_on (e := (25, 29, .agg #[.string (rdOf ByteArray.empty y126 (ji8)), .string t130, .string (⟨#[]⟩ : ByteArray)])) 20 rfl rfl (hon 25 (by kernel_rfl)) rfl
     replace ha := Aside0.mk ha
     have BK116 := Aside0.mk Q_BK116
     have HB := Aside0.mk Q_HB
     have HO119 := Aside0.mk (Q_HO119 (hon 0 (by kernel_rfl)))
     have HA_HO119 := Aside0.mk (Q_HA_HO119 (hon 0 (by kernel_rfl)))
     have HO124 := Aside0.mk (Q_HO124 (hon 9 (by kernel_rfl)))
     have HA_HO124 := Aside0.mk (Q_HA_HO124 (hon 9 (by kernel_rfl)))
     have HO128 := Aside0.mk (Q_HO128 (hon 15 (by kernel_rfl)))
     have HA_HO128 := Aside0.mk (Q_HA_HO128 (hon 15 (by kernel_rfl)))
     refine value_ (w1 := w') (v := .agg #[.string (rdOf ByteArray.empty y117 (Go.bits .and .i64 a0 1)), .string t121, .string (rdOf ByteArray.empty y122 (ji5)), .string (rdOf ByteArray.empty y126 (ji8)), .string t130, .string (⟨#[]⟩ : ByteArray)]) (by rfl) rfl ?_ ?_
     ·go_simp
      (try simp only [i64_w])
      try rfl
     refine hK.out _ _ ⟨v118, adz_v118, v123, adz_v123, v127, adz_v127, gb131, m3_, m13_, m20_, m27_, (by rw [ha.out]; exact putSel_upk 21 hb_ rfl rfl rfl), Q_BK116, Q_HB, Q_HO119, Q_HA_HO119, Q_HO124, Q_HA_HO124, Q_HO128, Q_HA_HO128, Q_BK131, Q_GW131, Q_GE131, Q_NB116_131, Q_NB131_116, fun h0_ => absurd ((hoff 28 (by kernel_rfl)).symm.trans h0_) (by decide), Q_X3_, Q_X13_, Q_X20_, Q_X27_⟩
    refine steps_cons ?_ ?_
    ·rintro b a w' ⟨v118, adz_v118, v123, adz_v123, v127, adz_v127, gb131, m3_, m13_, m20_, m27_, ha, Q_BK116, Q_HB, Q_HO119, Q_HA_HO119, Q_HO124, Q_HA_HO124, Q_HO128, Q_HA_HO128, Q_BK131, Q_GW131, Q_GE131, Q_NB116_131, Q_NB131_116, Q_BK131_e28, Q_X3_, Q_X13_, Q_X20_, Q_X27_⟩ hb_ hon hoff
     refine ⟨_, rfl, fun K hK => ?_⟩
     replace ha := Aside0.mk ha
     have BK116 := Aside0.mk Q_BK116
     have HB := Aside0.mk Q_HB
     refine box_step ?hg (N := 3) ?hd (cs := #[.string (⟨#[]⟩ : ByteArray), .string (⟨#[]⟩ : ByteArray), .string (⟨#[]⟩ : ByteArray), .string (⟨#[]⟩ : ByteArray), .string (⟨#[]⟩ : ByteArray), .string (⟨#[]⟩ : ByteArray)]) (t := 41) ?hr ?_; (case hd => rfl); (case hg => rfl); (case hr => first | (go_simp; done) | (go_simp; rfl))
     intro gb131 hg w48 hbox hb
     have n0_ := Aside0.mk (blk_below (g := gb116) (o := .cells #[.string (⟨#[]⟩ : ByteArray), .string (⟨#[]⟩ : ByteArray), .string (⟨#[]⟩ : ByteArray), .string (⟨#[]⟩ : ByteArray), .string (⟨#[]⟩ : ByteArray), .string (⟨#[]⟩ : ByteArray)] 41 (0, 0)) (by (with_reducible repeat (first | refine blk_drewN ?_ _ | refine blk_drew ?_ | refine blk_alloc ?_ _)); exact BK116.out) hb)
     have n1_ := Aside0.mk (below_step (by repeat (first | (with_reducible first | exact HB.out | apply below_alloc | apply pw_below_drewN | apply below_drew1 | refine below_set ?_ GE116.out) | exact HB.out)) hb)
     have n2_ := Aside0.mk (hbox)
     have n3_ := Aside0.mk ((by rw [hg]; exact (below_size (by repeat (first | (with_reducible first | exact HB.out | apply below_alloc | apply pw_below_drewN | apply below_drew1 | refine below_set ?_ GE116.out) | exact HB.out))) : w.heap.size ≤ gb131))
     have n4_ := Aside0.mk ((by rw [hg]; exact (below_size (by repeat (first | (with_reducible first | exact HB.out | apply below_alloc | apply pw_below_drewN | apply below_drew1 | refine below_set ?_ GE116.out) | exact HB.out))) : w.heap.size ≤ gb131))
     have n5_ := Aside0.mk ((by rw [hg]; exact Nat.ne_of_lt (blk_lt (g := gb116) (o := .cells #[.string (⟨#[]⟩ : ByteArray), .string (⟨#[]⟩ : ByteArray), .string (⟨#[]⟩ : ByteArray), .string (⟨#[]⟩ : ByteArray), .string (⟨#[]⟩ : ByteArray), .string (⟨#[]⟩ : ByteArray)] 41 (0, 0)) (by (with_reducible repeat (first | refine blk_drewN ?_ _ | refine blk_drew ?_ | refine blk_alloc ?_ _)); exact BK116.out)) : gb116 ≠ gb131))
     have n6_ := Aside0.mk ((by rw [hg]; exact Nat.ne_of_gt (blk_lt (g := gb116) (o := .cells #[.string (⟨#[]⟩ : ByteArray), .string (⟨#[]⟩ : ByteArray), .string (⟨#[]⟩ : ByteArray), .string (⟨#[]⟩ : ByteArray), .string (⟨#[]⟩ : ByteArray), .string (⟨#[]⟩ : ByteArray)] 41 (0, 0)) (by (with_reducible repeat (first | refine blk_drewN ?_ _ | refine blk_drew ?_ | refine blk_alloc ?_ _)); exact BK116.out)) : gb131 ≠ gb116))
     have z_HO119 := fun (h0_ : b 0 = true) => (show Kd.R Kd.string 9 w48 w.heap.size (fun _ => True) v118 y117 from by first | exact (Kd.R_below (by (with_reducible repeat (first | apply Kd.R_alloc | apply Kd.R_drewN | apply Kd.R_drew)); exact (Q_HO119 h0_)) hb) | exact Kd.R_mono (Kd.R_below (by (with_reducible repeat (first | apply Kd.R_alloc | apply Kd.R_drewN | apply Kd.R_drew)); exact (Q_HO119 h0_)) hb) (fun _ h_ => by first | trivial | exact h_ | exact h_.1))
     have z_HO124 := fun (h0_ : b 9 = true) => (show Kd.R Kd.string 9 w48 w.heap.size (fun _ => True) v123 y122 from by first | exact (Kd.R_below (by (with_reducible repeat (first | apply Kd.R_alloc | apply Kd.R_drewN | apply Kd.R_drew)); exact (Q_HO124 h0_)) hb) | exact Kd.R_mono (Kd.R_below (by (with_reducible repeat (first | apply Kd.R_alloc | apply Kd.R_drewN | apply Kd.R_drew)); exact (Q_HO124 h0_)) hb) (fun _ h_ => by first | trivial | exact h_ | exact h_.1))
     have z_HO128 := fun (h0_ : b 15 = true) => (show Kd.R Kd.string 9 w48 w.heap.size (fun _ => True) v127 y126 from by first | exact (Kd.R_below (by (with_reducible repeat (first | apply Kd.R_alloc | apply Kd.R_drewN | apply Kd.R_drew)); exact (Q_HO128 h0_)) hb) | exact Kd.R_mono (Kd.R_below (by (with_reducible repeat (first | apply Kd.R_alloc | apply Kd.R_drewN | apply Kd.R_drew)); exact (Q_HO128 h0_)) hb) (fun _ h_ => by first | trivial | exact h_ | exact h_.1))
     clear BK116
     clear HB
     have BK116 := n0_
     have HB := n1_
     have BK131 := n2_
     have GW131 := n3_
     have GE131 := n4_
     have NB116_131 := n5_
     have NB131_116 := n6_
     clear n0_ n1_ n2_ n3_ n4_ n5_ n6_
     clear hb hbox hg
     refine hK.out _ _ ⟨v118, adz_v118, v123, adz_v123, v127, adz_v127, gb131, m3_, m13_, m20_, (.pointer (some ⟨gb131, 0, none⟩)), (by rw [ha.out]; exact putSel_upk 22 hb_ rfl rfl rfl), (by (with_reducible repeat (first | refine blk_drewN ?_ _ | refine blk_drew ?_ | refine blk_alloc ?_ _)); exact BK116.out), (by repeat (first | (with_reducible first | exact HB.out | apply below_alloc | apply pw_below_drewN | apply below_drew1 | refine below_set ?_ GE116.out | refine below_set ?_ GE131.out) | exact HB.out)), z_HO119, Q_HA_HO119, z_HO124, Q_HA_HO124, z_HO128, Q_HA_HO128, fun _ _ => (by (with_reducible repeat (first | refine blk_drewN ?_ _ | refine blk_drew ?_ | refine blk_alloc ?_ _)); exact BK131.out), fun _ => GW131.out, fun _ => GE131.out, fun _ => NB116_131.out, fun _ => NB131_116.out, fun h0_ => absurd ((hoff 28 (by kernel_rfl)).symm.trans h0_) (by decide), Q_X3_, Q_X13_, Q_X20_, fun _ => rfl⟩
    refine steps_cons ?_ ?_
    ·rintro b a w' ⟨v118, adz_v118, v123, adz_v123, v127, adz_v127, gb131, m3_, m13_, m20_, m27_, ha, Q_BK116, Q_HB, Q_HO119, Q_HA_HO119, Q_HO124, Q_HA_HO124, Q_HO128, Q_HA_HO128, Q_BK131, Q_GW131, Q_GE131, Q_NB116_131, Q_NB131_116, Q_BK131_e28, Q_X3_, Q_X13_, Q_X20_, Q_X27_⟩ hb_ hon hoff
     refine ⟨_, rfl, fun K hK => ?_⟩
     have e3 : a.tmps[3]? = some (m27_) := by rw [ha]; exact putSel_on (e := (27, 3, m27_)) 22 rfl rfl (hon 27 (by kernel_rfl)) rfl
     rw [Q_X27_ (hon 27 (by kernel_rfl))] at e3
     have e30 : a.tmps[30]? = some (.agg #[.string (rdOf ByteArray.empty y117 (Go.bits .and .i64 a0 1)), .string t121, .string (rdOf ByteArray.empty y122 (ji5)), .string (rdOf ByteArray.empty y126 (ji8)), .string t130, .string (⟨#[]⟩ : ByteArray)]) := by rw [ha]; exact putSel_on (e := (26, 30, .agg #[.string (rdOf ByteArray.empty y117 (Go.bits .and .i64 a0 1)), .string t121, .string (rdOf ByteArray.empty y122 (ji5)), .string (rdOf ByteArray.empty y126 (ji8)), .string t130, .string (⟨#[]⟩ : ByteArray)])) 21 rfl rfl (hon 26 (by kernel_rfl)) rfl
     replace ha := Aside0.mk ha
     have BK116 := Aside0.mk Q_BK116
     have HB := Aside0.mk Q_HB
     have HO119 := Aside0.mk (Q_HO119 (hon 0 (by kernel_rfl)))
     have HA_HO119 := Aside0.mk (Q_HA_HO119 (hon 0 (by kernel_rfl)))
     have HO124 := Aside0.mk (Q_HO124 (hon 9 (by kernel_rfl)))
     have HA_HO124 := Aside0.mk (Q_HA_HO124 (hon 9 (by kernel_rfl)))
     have HO128 := Aside0.mk (Q_HO128 (hon 15 (by kernel_rfl)))
     have HA_HO128 := Aside0.mk (Q_HA_HO128 (hon 15 (by kernel_rfl)))
     have BK131 := Aside0.mk (Q_BK131 (hon 27 (by kernel_rfl)) hb_)
     have GW131 := Aside0.mk (Q_GW131 (hon 27 (by kernel_rfl)))
     have GE131 := Aside0.mk (Q_GE131 (hon 27 (by kernel_rfl)))
     have NB116_131 := Aside0.mk (Q_NB116_131 (hon 27 (by kernel_rfl)))
     have NB131_116 := Aside0.mk (Q_NB131_116 (hon 27 (by kernel_rfl)))
     obtain ⟨co61, eo61⟩ := HA_HO119.out
     clear HA_HO119
     subst eo61
     obtain ⟨co62, eo62⟩ := HA_HO124.out
     clear HA_HO124
     subst eo62
     obtain ⟨co63, eo63⟩ := HA_HO128.out
     clear HA_HO128
     subst eo63
     have hs64 : w'.cell? ⟨gb131, 0, none⟩ = some (.string (⟨#[]⟩ : ByteArray)) := (blk_cell BK131.out 0).trans rfl
     have hfs64 := blk_frozen BK131.out 0
     have hns64_0 := NB116_131.out
     have hms64_0 := NB131_116.out
     have hs65 : w'.cell? ⟨gb131, 1, none⟩ = some (.string (⟨#[]⟩ : ByteArray)) := (blk_cell BK131.out 1).trans rfl
     have hfs65 := blk_frozen BK131.out 1
     have hns65_0 := NB116_131.out
     have hms65_0 := NB131_116.out
     have hs66 : w'.cell? ⟨gb131, 2, none⟩ = some (.string (⟨#[]⟩ : ByteArray)) := (blk_cell BK131.out 2).trans rfl
     have hfs66 := blk_frozen BK131.out 2
     have hns66_0 := NB116_131.out
     have hms66_0 := NB131_116.out
     have hs67 : w'.cell? ⟨gb131, 3, none⟩ = some (.string (⟨#[]⟩ : ByteArray)) := (blk_cell BK131.out 3).trans rfl
     have hfs67 := blk_frozen BK131.out 3
     have hns67_0 := NB116_131.out
     have hms67_0 := NB131_116.out
     have hs68 : w'.cell? ⟨gb131, 4, none⟩ = some (.string (⟨#[]⟩ : ByteArray)) := (blk_cell BK131.out 4).trans rfl
     have hfs68 := blk_frozen BK131.out 4
     have hns68_0 := NB116_131.out
     have hms68_0 := NB131_116.out
     have hs69 : w'.cell? ⟨gb131, 5, none⟩ = some (.string (⟨#[]⟩ : ByteArray)) := (blk_cell BK131.out 5).trans rfl
     have hfs69 := blk_frozen BK131.out 5
     have hns69_0 := NB116_131.out
     have hms69_0 := NB131_116.out
     refine skip_ (w1 := ?_) (by rfl) rfl ?_ ?_
     rotate_left
     ·go_simp
      rfl
     refine hK.out _ _ ⟨.slice (some adz_v118) y117.length co61, adz_v118, .slice (some adz_v123) y122.length co62, adz_v123, .slice (some adz_v127) y126.length co63, adz_v127, gb131, m3_, m13_, m20_, m27_, (by rw [ha.out]; exact putSel_none (v := undef) rfl), (by (with_reducible repeat (first | refine blk_drewN ?_ _ | refine blk_drew ?_ | refine blk_alloc ?_ _)); refine blk_far ?_ NB116_131.out _; (with_reducible repeat (first | refine blk_drewN ?_ _ | refine blk_drew ?_ | refine blk_alloc ?_ _)); refine blk_far ?_ NB116_131.out _; (with_reducible repeat (first | refine blk_drewN ?_ _ | refine blk_drew ?_ | refine blk_alloc ?_ _)); refine blk_far ?_ NB116_131.out _; (with_reducible repeat (first | refine blk_drewN ?_ _ | refine blk_drew ?_ | refine blk_alloc ?_ _)); refine blk_far ?_ NB116_131.out _; (with_reducible repeat (first | refine blk_drewN ?_ _ | refine blk_drew ?_ | refine blk_alloc ?_ _)); refine blk_far ?_ NB116_131.out _; (with_reducible repeat (first | refine blk_drewN ?_ _ | refine blk_drew ?_ | refine blk_alloc ?_ _)); refine blk_far ?_ NB116_131.out _; (with_reducible repeat (first | refine blk_drewN ?_ _ | refine blk_drew ?_ | refine blk_alloc ?_ _)); exact BK116.out), (by repeat (first | (with_reducible first | exact HB.out | apply below_alloc | apply pw_below_drewN | apply below_drew1 | refine below_set ?_ GE116.out | refine below_set ?_ GE131.out) | exact HB.out)), fun _ => (by (with_reducible repeat (first | apply Kd.R_alloc | apply Kd.R_drewN | apply Kd.R_drew)); exact Kd.R_mono (Kd.R_far (p := ⟨gb131, 5, none⟩) (Kd.R_far (p := ⟨gb131, 4, none⟩) (Kd.R_far (p := ⟨gb131, 3, none⟩) (Kd.R_far (p := ⟨gb131, 2, none⟩) (Kd.R_far (p := ⟨gb131, 1, none⟩) (Kd.R_far (p := ⟨gb131, 0, none⟩) (Kd.R_types HO119.out BK131.out (by decide)) (fun _ hk => hk.2) (.string (rdOf ByteArray.empty y117 (Go.bits .and .i64 a0 1)))) (fun _ hk => hk.2) (.string t121)) (fun _ hk => hk.2) (.string (rdOf ByteArray.empty y122 (ji5)))) (fun _ hk => hk.2) (.string (rdOf ByteArray.empty y126 (ji8)))) (fun _ hk => hk.2) (.string t130)) (fun _ hk => hk.2) (.string (⟨#[]⟩ : ByteArray))) (fun _ hk => by first | exact ⟨hk.1.1, hk.1.2⟩ | trivial)), fun _ => ⟨_, rfl⟩, fun _ => (by (with_reducible repeat (first | apply Kd.R_alloc | apply Kd.R_drewN | apply Kd.R_drew)); exact Kd.R_mono (Kd.R_far (p := ⟨gb131, 5, none⟩) (Kd.R_far (p := ⟨gb131, 4, none⟩) (Kd.R_far (p := ⟨gb131, 3, none⟩) (Kd.R_far (p := ⟨gb131, 2, none⟩) (Kd.R_far (p := ⟨gb131, 1, none⟩) (Kd.R_far (p := ⟨gb131, 0, none⟩) (Kd.R_types HO124.out BK131.out (by decide)) (fun _ hk => hk.2) (.string (rdOf ByteArray.empty y117 (Go.bits .and .i64 a0 1)))) (fun _ hk => hk.2) (.string t121)) (fun _ hk => hk.2) (.string (rdOf ByteArray.empty y122 (ji5)))) (fun _ hk => hk.2) (.string (rdOf ByteArray.empty y126 (ji8)))) (fun _ hk => hk.2) (.string t130)) (fun _ hk => hk.2) (.string (⟨#[]⟩ : ByteArray))) (fun _ hk => by first | exact ⟨hk.1.1, hk.1.2⟩ | trivial)), fun _ => ⟨_, rfl⟩, fun _ => (by (with_reducible repeat (first | apply Kd.R_alloc | apply Kd.R_drewN | apply Kd.R_drew)); exact Kd.R_mono (Kd.R_far (p := ⟨gb131, 5, none⟩) (Kd.R_far (p := ⟨gb131, 4, none⟩) (Kd.R_far (p := ⟨gb131, 3, none⟩) (Kd.R_far (p := ⟨gb131, 2, none⟩) (Kd.R_far (p := ⟨gb131, 1, none⟩) (Kd.R_far (p := ⟨gb131, 0, none⟩) (Kd.R_types HO128.out BK131.out (by decide)) (fun _ hk => hk.2) (.string (rdOf ByteArray.empty y117 (Go.bits .and .i64 a0 1)))) (fun _ hk => hk.2) (.string t121)) (fun _ hk => hk.2) (.string (rdOf ByteArray.empty y122 (ji5)))) (fun _ hk => hk.2) (.string (rdOf ByteArray.empty y126 (ji8)))) (fun _ hk => hk.2) (.string t130)) (fun _ hk => hk.2) (.string (⟨#[]⟩ : ByteArray))) (fun _ hk => by first | exact ⟨hk.1.1, hk.1.2⟩ | trivial)), fun _ => ⟨_, rfl⟩, fun _ h1_ => absurd ((up_self b 28).symm.trans h1_) (by decide), fun _ => GW131.out, fun _ => GE131.out, fun _ => NB116_131.out, fun _ => NB131_116.out, fun _ => (by (with_reducible repeat (first | refine blk_drewN ?_ _ | refine blk_drew ?_ | refine blk_alloc ?_ _)); refine blk_put (cs := #[.string (rdOf ByteArray.empty y117 (Go.bits .and .i64 a0 1)), .string t121, .string (rdOf ByteArray.empty y122 (ji5)), .string (rdOf ByteArray.empty y126 (ji8)), .string t130, .string (⟨#[]⟩ : ByteArray)]) ?_ 5 _ rfl; (with_reducible repeat (first | refine blk_drewN ?_ _ | refine blk_drew ?_ | refine blk_alloc ?_ _)); refine blk_put (cs := #[.string (rdOf ByteArray.empty y117 (Go.bits .and .i64 a0 1)), .string t121, .string (rdOf ByteArray.empty y122 (ji5)), .string (rdOf ByteArray.empty y126 (ji8)), .string (⟨#[]⟩ : ByteArray), .string (⟨#[]⟩ : ByteArray)]) ?_ 4 _ rfl; (with_reducible repeat (first | refine blk_drewN ?_ _ | refine blk_drew ?_ | refine blk_alloc ?_ _)); refine blk_put (cs := #[.string (rdOf ByteArray.empty y117 (Go.bits .and .i64 a0 1)), .string t121, .string (rdOf ByteArray.empty y122 (ji5)), .string (⟨#[]⟩ : ByteArray), .string (⟨#[]⟩ : ByteArray), .string (⟨#[]⟩ : ByteArray)]) ?_ 3 _ rfl; (with_reducible repeat (first | refine blk_drewN ?_ _ | refine blk_drew ?_ | refine blk_alloc ?_ _)); refine blk_put (cs := #[.string (rdOf ByteArray.empty y117 (Go.bits .and .i64 a0 1)), .string t121, .string (⟨#[]⟩ : ByteArray), .string (⟨#[]⟩ : ByteArray), .string (⟨#[]⟩ : ByteArray), .string (⟨#[]⟩ : ByteArray)]) ?_ 2 _ rfl; (with_reducible repeat (first | refine blk_drewN ?_ _ | refine blk_drew ?_ | refine blk_alloc ?_ _)); refine blk_put (cs := #[.string (rdOf ByteArray.empty y117 (Go.bits .and .i64 a0 1)), .string (⟨#[]⟩ : ByteArray), .string (⟨#[]⟩ : ByteArray), .string (⟨#[]⟩ : ByteArray), .string (⟨#[]⟩ : ByteArray), .string (⟨#[]⟩ : ByteArray)]) ?_ 1 _ rfl; (with_reducible repeat (first | refine blk_drewN ?_ _ | refine blk_drew ?_ | refine blk_alloc ?_ _)); refine blk_put (cs := #[.string (⟨#[]⟩ : ByteArray), .string (⟨#[]⟩ : ByteArray), .string (⟨#[]⟩ : ByteArray), .string (⟨#[]⟩ : ByteArray), .string (⟨#[]⟩ : ByteArray), .string (⟨#[]⟩ : ByteArray)]) ?_ 0 _ rfl; (with_reducible repeat (first | refine blk_drewN ?_ _ | refine blk_drew ?_ | refine blk_alloc ?_ _)); exact BK131.out), Q_X3_, Q_X13_, Q_X20_, Q_X27_⟩
    exact steps_nil
   rintro b a w66 hall ⟨v118, adz_v118, v123, adz_v123, v127, adz_v127, gb131, m3_, m13_, m20_, m27_, ha, Q_BK116, Q_HB, Q_HO119, Q_HA_HO119, Q_HO124, Q_HA_HO124, Q_HO128, Q_HA_HO128, Q_BK131, Q_GW131, Q_GE131, Q_NB116_131, Q_NB131_116, Q_BK131_e28, Q_X3_, Q_X13_, Q_X20_, Q_X27_⟩
   clear BK116 HB
   have hb0_ := hall 0 (by kernel_rfl)
   have hb2_ := hall 2 (by kernel_rfl)
   have hb3_ := hall 3 (by kernel_rfl)
   have hb4_ := hall 4 (by kernel_rfl)
   have hb6_ := hall 6 (by kernel_rfl)
   have hb7_ := hall 7 (by kernel_rfl)
   have hb8_ := hall 8 (by kernel_rfl)
   have hb9_ := hall 9 (by kernel_rfl)
   have hb11_ := hall 11 (by kernel_rfl)
   have hb12_ := hall 12 (by kernel_rfl)
   have hb13_ := hall 13 (by kernel_rfl)
   have hb14_ := hall 14 (by kernel_rfl)
   have hb15_ := hall 15 (by kernel_rfl)
   have hb17_ := hall 17 (by kernel_rfl)
   have hb18_ := hall 18 (by kernel_rfl)
   have hb19_ := hall 19 (by kernel_rfl)
   have hb20_ := hall 20 (by kernel_rfl)
   have hb21_ := hall 21 (by kernel_rfl)
   have hb23_ := hall 23 (by kernel_rfl)
   have hb24_ := hall 24 (by kernel_rfl)
   have hb25_ := hall 25 (by kernel_rfl)
   have hb26_ := hall 26 (by kernel_rfl)
   have hb27_ := hall 27 (by kernel_rfl)
   have hb28_ := hall 28 (by kernel_rfl)
   subst ha
   obtain rfl := Q_X3_ hb3_
   obtain rfl := Q_X13_ hb13_
   obtain rfl := Q_X20_ hb20_
   obtain rfl := Q_X27_ hb27_
   simp only [putSel, hb0_, hb2_, hb3_, hb4_, hb6_, hb7_, hb8_, hb9_, hb11_, hb12_, hb13_, hb14_, hb15_, hb17_, hb18_, hb19_, hb20_, hb21_, hb23_, hb24_, hb25_, hb26_, hb27_, hb28_, if_true, Act.put, sa_, sz_, ss_]
   have BK116 := Aside0.mk Q_BK116
   clear Q_BK116
   have HB := Aside0.mk Q_HB
   clear Q_HB
   have HO119 := Aside0.mk (Q_HO119 hb0_)
   clear Q_HO119
   have HA_HO119 := Aside0.mk (Q_HA_HO119 hb0_)
   clear Q_HA_HO119
   have HO124 := Aside0.mk (Q_HO124 hb9_)
   clear Q_HO124
   have HA_HO124 := Aside0.mk (Q_HA_HO124 hb9_)
   clear Q_HA_HO124
   have HO128 := Aside0.mk (Q_HO128 hb15_)
   clear Q_HO128
   have HA_HO128 := Aside0.mk (Q_HA_HO128 hb15_)
   clear Q_HA_HO128
   clear Q_BK131
   have GW131 := Aside0.mk (Q_GW131 hb27_)
   clear Q_GW131
   have GE131 := Aside0.mk (Q_GE131 hb27_)
   clear Q_GE131
   have NB116_131 := Aside0.mk (Q_NB116_131 hb27_)
   clear Q_NB116_131
   have NB131_116 := Aside0.mk (Q_NB131_116 hb27_)
   clear Q_NB131_116
   have BK131 := Aside0.mk (Q_BK131_e28 hb28_)
   clear Q_BK131_e28
   clear hall hb0_ hb2_ hb3_ hb4_ hb6_ hb7_ hb8_ hb9_ hb11_ hb12_ hb13_ hb14_ hb15_ hb17_ hb18_ hb19_ hb20_ hb21_ hb23_ hb24_ hb25_ hb26_ hb27_ hb28_
   obtain ⟨co67, eo67⟩ := HA_HO119.out
   clear HA_HO119
   subst eo67
   obtain ⟨co68, eo68⟩ := HA_HO124.out
   clear HA_HO124
   subst eo68
   obtain ⟨co69, eo69⟩ := HA_HO128.out
   clear HA_HO128
   subst eo69
   have hnb70 := NB131_116.out
   have hnc70 := NB116_131.out
   have hcz71_0 : w66.cell? ⟨gb131, 0, none⟩ = some (.string (rdOf ByteArray.empty y117 (Go.bits .and .i64 a0 1))) := (blk_cell BK131.out 0).trans rfl
   have hcz71_1 : w66.cell? ⟨gb131, 1, none⟩ = some (.string t121) := (blk_cell BK131.out 1).trans rfl
   have hcz71_2 : w66.cell? ⟨gb131, 2, none⟩ = some (.string (rdOf ByteArray.empty y122 (ji5))) := (blk_cell BK131.out 2).trans rfl
   have hcz71_3 : w66.cell? ⟨gb131, 3, none⟩ = some (.string (rdOf ByteArray.empty y126 (ji8))) := (blk_cell BK131.out 3).trans rfl
   have hcz71_4 : w66.cell? ⟨gb131, 4, none⟩ = some (.string t130) := (blk_cell BK131.out 4).trans rfl
   have hcz71_5 : w66.cell? ⟨gb131, 5, none⟩ = some (.string (⟨#[]⟩ : ByteArray)) := (blk_cell BK131.out 5).trans rfl
   have hfz71_0 := blk_frozen BK131.out 0
   have hfz71_1 := blk_frozen BK131.out 1
   have hfz71_2 := blk_frozen BK131.out 2
   have hfz71_3 := blk_frozen BK131.out 3
   have hfz71_4 := blk_frozen BK131.out 4
   have hfz71_5 := blk_frozen BK131.out 5
   have hcz72_0 : w66.cell? ⟨gb116, 0, none⟩ = some (.string (⟨#[]⟩ : ByteArray)) := (blk_cell BK116.out 0).trans rfl
   have hcz72_1 : w66.cell? ⟨gb116, 1, none⟩ = some (.string (⟨#[]⟩ : ByteArray)) := (blk_cell BK116.out 1).trans rfl
   have hcz72_2 : w66.cell? ⟨gb116, 2, none⟩ = some (.string (⟨#[]⟩ : ByteArray)) := (blk_cell BK116.out 2).trans rfl
   have hcz72_3 : w66.cell? ⟨gb116, 3, none⟩ = some (.string (⟨#[]⟩ : ByteArray)) := (blk_cell BK116.out 3).trans rfl
   have hcz72_4 : w66.cell? ⟨gb116, 4, none⟩ = some (.string (⟨#[]⟩ : ByteArray)) := (blk_cell BK116.out 4).trans rfl
   have hcz72_5 : w66.cell? ⟨gb116, 5, none⟩ = some (.string (⟨#[]⟩ : ByteArray)) := (blk_cell BK116.out 5).trans rfl
   have hfz72_0 := blk_frozen BK116.out 0
   have hfz72_1 := blk_frozen BK116.out 1
   have hfz72_2 := blk_frozen BK116.out 2
   have hfz72_3 := blk_frozen BK116.out 3
   have hfz72_4 := blk_frozen BK116.out 4
   have hfz72_5 := blk_frozen BK116.out 5
   try go_wp2
   refine bodyPost_ret (results_cell_row rfl _ _ gb116 41 #[.string (rdOf ByteArray.empty y117 (Go.bits .and .i64 a0 1)), .string t121, .string (rdOf ByteArray.empty y122 (ji5)), .string (rdOf ByteArray.empty y126 (ji8)), .string t130, .string (⟨#[]⟩ : ByteArray)] (0, 0) _ rfl (by (with_reducible repeat (first | refine blk_drewN ?_ _ | refine blk_drew ?_ | refine blk_alloc ?_ _)); refine blk_put (cs := #[.string (rdOf ByteArray.empty y117 (Go.bits .and .i64 a0 1)), .string t121, .string (rdOf ByteArray.empty y122 (ji5)), .string (rdOf ByteArray.empty y126 (ji8)), .string t130, .string (⟨#[]⟩ : ByteArray)]) ?_ 5 _ rfl; (with_reducible repeat (first | refine blk_drewN ?_ _ | refine blk_drew ?_ | refine blk_alloc ?_ _)); refine blk_put (cs := #[.string (rdOf ByteArray.empty y117 (Go.bits .and .i64 a0 1)), .string t121, .string (rdOf ByteArray.empty y122 (ji5)), .string (rdOf ByteArray.empty y126 (ji8)), .string (⟨#[]⟩ : ByteArray), .string (⟨#[]⟩ : ByteArray)]) ?_ 4 _ rfl; (with_reducible repeat (first | refine blk_drewN ?_ _ | refine blk_drew ?_ | refine blk_alloc ?_ _)); refine blk_put (cs := #[.string (rdOf ByteArray.empty y117 (Go.bits .and .i64 a0 1)), .string t121, .string (rdOf ByteArray.empty y122 (ji5)), .string (⟨#[]⟩ : ByteArray), .string (⟨#[]⟩ : ByteArray), .string (⟨#[]⟩ : ByteArray)]) ?_ 3 _ rfl; (with_reducible repeat (first | refine blk_drewN ?_ _ | refine blk_drew ?_ | refine blk_alloc ?_ _)); refine blk_put (cs := #[.string (rdOf ByteArray.empty y117 (Go.bits .and .i64 a0 1)), .string t121, .string (⟨#[]⟩ : ByteArray), .string (⟨#[]⟩ : ByteArray), .string (⟨#[]⟩ : ByteArray), .string (⟨#[]⟩ : ByteArray)]) ?_ 2 _ rfl; (with_reducible repeat (first | refine blk_drewN ?_ _ | refine blk_drew ?_ | refine blk_alloc ?_ _)); refine blk_put (cs := #[.string (rdOf ByteArray.empty y117 (Go.bits .and .i64 a0 1)), .string (⟨#[]⟩ : ByteArray), .string (⟨#[]⟩ : ByteArray), .string (⟨#[]⟩ : ByteArray), .string (⟨#[]⟩ : ByteArray), .string (⟨#[]⟩ : ByteArray)]) ?_ 1 _ rfl; (with_reducible repeat (first | refine blk_drewN ?_ _ | refine blk_drew ?_ | refine blk_alloc ?_ _)); refine blk_put (cs := #[.string (⟨#[]⟩ : ByteArray), .string (⟨#[]⟩ : ByteArray), .string (⟨#[]⟩ : ByteArray), .string (⟨#[]⟩ : ByteArray), .string (⟨#[]⟩ : ByteArray), .string (⟨#[]⟩ : ByteArray)]) ?_ 0 _ rfl; (with_reducible repeat (first | refine blk_drewN ?_ _ | refine blk_drew ?_ | refine blk_alloc ?_ _)); exact BK116.out) Try.underlying41 rfl (by kernel_rfl)) rfl ?_
   exact ⟨by first | rfl | (simp [errW_none, errW_some] <;> rfl) | (simp only [← hji5, ← hji8]; first | rfl | (simp [errW_none, errW_some] <;> rfl)) | (simp [*, errW_none, errW_some] <;> rfl), by repeat (first | (with_reducible first | exact HB.out | apply below_alloc | apply pw_below_drewN | apply below_drew1 | refine below_set ?_ GE116.out | refine below_set ?_ GE131.out) | exact HB.out)⟩
 ·rw [if_neg c2] at H
  exact absurd H (by simp)

end Go.Proofs.Ytpgmeaofmlipkaa.PT
