/- The closed example of layer 3 answers true. -/
import Derived.Test.YtpgmeaofmlipkaaRPlain
import Derived.Test.YtpgmeaofmlipkaaPTx1016
set_option linter.unusedVariables false
set_option linter.unusedSimpArgs false
namespace Go.Proofs.Ytpgmeaofmlipkaa.PT
open Go.RowKit Go.Proofs.YtpgmeaofmlipkaaW.PrintWords Go.Proofs.YtpgmeaofmlipkaaW.PrintLast Go.Proofs.YtpgmeaofmlipkaaH
def tA : S41 := ⟨⟨⟨#[97]⟩, ⟨#[97]⟩⟩, ⟨#[114]⟩, ⟨⟨#[117]⟩, ⟨#[97]⟩, ⟨#[114]⟩⟩⟩
def tB : S41 := ⟨⟨⟨#[98]⟩, ⟨#[97]⟩⟩, ⟨#[114]⟩, ⟨⟨#[117]⟩, ⟨#[97]⟩, ⟨#[114]⟩⟩⟩
theorem tame0 : entaillaw2_Tame.f 0 = some (tA.f0.f0, tA.f0.f1, tA.f1, tA.f2.f0, tA.f2.f1, tA.f2.f2) := by decide +kernel
theorem tame1 : entaillaw2_Tame.f 1 = some (tB.f0.f0, tB.f0.f1, tB.f1, tB.f2.f0, tB.f2.f1, tB.f2.f2) := by decide +kernel
theorem cAB : cmpT tA tB < 0 := by decide +kernel
theorem cBA : ¬ cmpT tB tA < 0 := by decide +kernel
theorem norm_bab : norm cmpT [tB, tA, tB] = [tA, tB] := by decide +kernel
theorem ss_ab : SS cmpT [tA, tB] := by simp [SS, cAB]
theorem awake_ev : Ev (fun k => entaillaw3_awake.f k) true := by
  unfold entaillaw3_awake.f
  simp only [tame0, tame1, Option.bind_some]
  have e1 : rows_Of.f [tB, tA, tB] = some [tA, tB] := by rw [of_some _ (by simp), norm_bab]
  have e2 : rows_Has.f [tA, tB] tA.f0.f0 tA.f0.f1 tA.f1 tA.f2.f0 tA.f2.f1 tA.f2.f2 = some true := by decide +kernel
  have e3 : rows_Plus.f [tA, tB] [tA] = some [tA, tB] := by
    rw [plus_some _ _ (by simp)]
    exact congrArg some (by decide +kernel)
  have d1 := diff_ev [tA, tB] [tB] (by simp) (by simp)
  rw [show less (norm cmpT [tB]) [tA, tB] = [] by decide +kernel, show less (norm cmpT [tA, tB]) [tB] = [tA] by decide +kernel] at d1
  have i1 := is_ev [tA, tB] (by simp)
  rw [show rises cmpT [tA, tB] = true by decide +kernel] at i1
  have i2 := is_ev [tB, tA] (by simp)
  rw [show rises cmpT [tB, tA] = false by decide +kernel] at i2
  have m1 := minus_ev [tA, tB] [tA] (by simp) (by simp)
  rw [show less (norm cmpT [tA, tB]) [tA] = [tB] by decide +kernel] at m1
  show Ev (fun k => (rows_Of.f [tB, tA, tB]).bind _) true
  simp only [e1, Option.bind_some]
  refine Ev.bind d1 ?_
  simp only [if_pos (show ((List.length [tA, tB] : Nat) : Int) = 2 from rfl), if_pos (show ((List.length ([] : List S41) : Nat) : Int) = 0 from rfl), if_pos (show ((List.length [tA] : Nat) : Int) = 1 from rfl)]
  refine Ev.bind i1 ?_
  simp only [if_true]
  show Ev (fun k => (rows_Has.f [tA, tB] tA.f0.f0 tA.f0.f1 tA.f1 tA.f2.f0 tA.f2.f1 tA.f2.f2).bind _) true
  simp only [e2, Option.bind_some, if_true]
  refine Ev.bind i2 ?_
  simp only [Bool.false_eq_true, if_false]
  show Ev (fun k => (rows_Plus.f [tA, tB] [tA]).bind _) true
  simp only [e3, Option.bind_some, if_pos (show ((List.length [tA, tB] : Nat) : Int) = 2 from rfl)]
  refine Ev.bind m1 ?_
  simp only [if_pos (show ((List.length [tB] : Nat) : Int) = 1 from rfl), if_pos (show (0 : Int) < ((List.length [tA] : Nat) : Int) by decide), show rd_T41 [tA] 0 = tA from rfl, beq_self_eq_true, Bool.and_self]
  exact Ev.now _
end Go.Proofs.Ytpgmeaofmlipkaa.PT
