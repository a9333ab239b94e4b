/- RowsTells answers true for any two rows of tuples and any two lists of numbers: the sets that the program makes are those that the document says. -/
import Derived.Test.YtpgmeaofmlipkaaRAwake
import Derived.Test.YtpgmeaofmlipkaaRefPlain
import Derived.Test.YtpgmeaofmlipkaaPTx1004
set_option linter.unusedVariables false
set_option linter.unusedSimpArgs false
namespace Go.Proofs.Ytpgmeaofmlipkaa.Pure
open Go.RowKit Go.Proofs.Ytpgmeaofmlipkaa.PT Go.Proofs.YtpgmeaofmlipkaaW.PrintWords Go.Proofs.YtpgmeaofmlipkaaW.PrintLast Go.Proofs.YtpgmeaofmlipkaaH
theorem tells_has (l : List S41) (hl : l.length < 1466015503701) (hs : SS cmpT l) (t : S41) : rows_Has.f l t.f0.f0 t.f0.f1 t.f1 t.f2.f0 t.f2.f1 t.f2.f2 = some (decide (t ∈ l)) := by
  have : rises cmpT l = true := (rises_ss cmpT_tot l).2 hs
  simp [rows_Has.f, hl, this]
theorem same_true (x : List S41) (hx : x.length ≤ 281474976710656) : Ev (fun k => entailref1_Same.f k x x) true := by
  have := same_ev x x hx
  rwa [decide_eq_true rfl] at this
theorem round_ev (l m : List S41) (hl : l.length ≤ 80) (hm : m.length ≤ 80) (C : Nat → List S41 → Option Bool) (e : Ev (fun k => C k (norm cmpT l)) true) :
    Ev (fun k => (rows_Diff.f k l m).bind fun bt375 => ((rows_Of.f l).bind fun t381 => ((entailref1_Of.f k l).bind fun t384 => ((entailref1_Same.f k t381 t384).bind fun t387 => (if t387 = true then ((rows_Is.f k l).bind fun t388 => ((entailref1_Is.f k l).bind fun t389 => (if (t388 != t389) = true then (none) else ((rows_Plus.f l m).bind fun t390 => ((entailref1_Plus.f k l m).bind fun t393 => ((entailref1_Same.f k t390 t393).bind fun t396 => (if t396 = true then ((rows_Minus.f k l m).bind fun t397 => ((entailref1_Minus.f k l m).bind fun t400 => ((entailref1_Same.f k t397 t400).bind fun t403 => (if t403 = true then ((entailref1_Minus.f k m l).bind fun t404 => ((entailref1_Same.f k bt375.1 t404).bind fun t407 => (if t407 = true then ((entailref1_Minus.f k l m).bind fun t408 => ((entailref1_Same.f k bt375.2 t408).bind fun t411 => (if t411 = true then ((entailref1_Of.f k l).bind fun t412 => (C k t412)) else (none)))) else (none)))) else (none))))) else (none)))))))) else (none)))))) true := by
  have nl := norm_length cmpT l
  have nm := norm_length cmpT m
  have np := norm_length cmpT (l ++ m)
  rw [List.length_append] at np
  have b1 := less_length (norm cmpT l) m
  have b2 := less_length (norm cmpT m) l
  refine Ev.bind (diff_ev l m (by omega) (by omega)) ?_
  refine sb (of_some l (by omega)) ?_
  refine Ev.bind (refOf_ev l (by omega)) ?_
  refine Ev.bind (same_true (norm cmpT l) (by omega)) ?_
  refine it rfl ?_
  refine Ev.bind (is_ev l (by omega)) ?_
  refine Ev.bind (refIs_ev l (by omega)) ?_
  refine ife (by simp) ?_
  refine sb (plus_some l m (by omega)) ?_
  refine Ev.bind (refPlus_ev l m (by omega)) ?_
  refine Ev.bind (same_true (norm cmpT (l ++ m)) (by omega)) ?_
  refine it rfl ?_
  refine Ev.bind (minus_ev l m (by omega) (by omega)) ?_
  refine Ev.bind (refMinus_ev l m (by omega) (by omega)) ?_
  refine Ev.bind (same_true (less (norm cmpT l) m) (by omega)) ?_
  refine it rfl ?_
  refine Ev.bind (refMinus_ev m l (by omega) (by omega)) ?_
  refine Ev.bind (same_true (less (norm cmpT m) l) (by omega)) ?_
  refine it rfl ?_
  refine Ev.bind (refMinus_ev l m (by omega) (by omega)) ?_
  refine Ev.bind (same_true (less (norm cmpT l) m) (by omega)) ?_
  refine it rfl ?_
  exact Ev.bind (refOf_ev l (by omega)) e
theorem loop3 (m : List S41) (a b : List Int) (s : List S41) (ss : SS cmpT s) (hs : s.length ≤ 80) (hm : m.length ≤ 80) (ha : a.length ≤ 281474976710656) (hb : b.length ≤ 281474976710656) :
    Ev (fun k => entaillaw3_RowsTells.l3 k m a b (wrap64 (0 + 1)) s 0) true := by
  have key : ∀ (n i : Nat), i ≤ m.length → m.length - i = n → Ev (fun k => entaillaw3_RowsTells.l3 k m a b (wrap64 (0 + 1)) s (i : Int)) true := by
    intro n
    induction n with
    | zero =>
      intro i hi hn
      refine Ev.step (f := fun k => (entaillaw2_Tames.f k a).bind fun t469 => ((entaillaw2_Tames.f k b).bind fun t472 => (if (wrap64 (wrap64 (0 + 1) + 1)) < 2 then (none) else ((entaillaw3_awake.f k).bind fun t475 => (some t475))))) (fun k => ?_) ?_
      · simp only [entaillaw3_RowsTells.l3]
        rw [if_neg (by omega)]
      · refine Ev.bind (tames_ev a ha) ?_
        refine Ev.bind (tames_ev b hb) ?_
        refine ife (by decide +kernel) ?_
        exact Ev.bind awake_ev (Ev.now _)
    | succ n ih =>
      intro i hi hn
      have hlt : i < m.length := by omega
      refine Ev.step (f := fun k => (entailref1_Has.f k s m[i].f0.f0 m[i].f0.f1 m[i].f1 m[i].f2.f0 m[i].f2.f1 m[i].f2.f2).bind fun t418 => (if ((decide (m[i] ∈ s)) != t418) = true then (none) else (entaillaw3_RowsTells.l3 k m a b (wrap64 (0 + 1)) s ((i + 1 : Nat) : Int)))) (fun k => ?_) ?_
      · simp only [entaillaw3_RowsTells.l3]
        rw [if_pos (by omega), if_pos (by omega), rd_tup m i hlt, tells_has s (by omega) ss, wrap_succ i (by omega)]
        rfl
      · refine Ev.bind (refHas_ev s m[i] ss (by omega)) ?_
        refine ife (by simp) ?_
        exact ih (i + 1) (by omega) (by omega)
  exact key m.length 0 (by omega) (by omega)
theorem loop2 (m : List S41) (a b : List Int) (s : List S41) (ss : SS cmpT s) (hs : s.length ≤ 80) (hm : m.length ≤ 80) (ha : a.length ≤ 281474976710656) (hb : b.length ≤ 281474976710656) :
    Ev (fun k => entaillaw3_RowsTells.l2 k m a b 0 s 0) true := by
  have key : ∀ (n i : Nat), i ≤ m.length → m.length - i = n → Ev (fun k => entaillaw3_RowsTells.l2 k m a b 0 s (i : Int)) true := by
    intro n
    induction n with
    | zero =>
      intro i hi hn
      have t0 := tames_ev a ha
      have t1 := tames_ev b hb
      have z0 : ((a.take 80).map tm).length ≤ 80 := by simp; omega
      have z1 : ((b.take 80).map tm).length ≤ 80 := by simp; omega
      generalize (a.take 80).map tm = l at t0 z0
      generalize (b.take 80).map tm = m' at t1 z1
      refine Ev.step (f := fun k => (entaillaw2_Tames.f k a).bind fun t419 => ((entaillaw2_Tames.f k b).bind fun t422 => (if (wrap64 (0 + 1)) < 2 then ((rows_Diff.f k t419 t422).bind fun bt425 => ((rows_Of.f t419).bind fun t431 => ((entailref1_Of.f k t419).bind fun t434 => ((entailref1_Same.f k t431 t434).bind fun t437 => (if t437 = true then ((rows_Is.f k t419).bind fun t438 => ((entailref1_Is.f k t419).bind fun t439 => (if (t438 != t439) = true then (none) else ((rows_Plus.f t419 t422).bind fun t440 => ((entailref1_Plus.f k t419 t422).bind fun t443 => ((entailref1_Same.f k t440 t443).bind fun t446 => (if t446 = true then ((rows_Minus.f k t419 t422).bind fun t447 => ((entailref1_Minus.f k t419 t422).bind fun t450 => ((entailref1_Same.f k t447 t450).bind fun t453 => (if t453 = true then ((entailref1_Minus.f k t422 t419).bind fun t454 => ((entailref1_Same.f k bt425.1 t454).bind fun t457 => (if t457 = true then ((entailref1_Minus.f k t419 t422).bind fun t458 => ((entailref1_Same.f k bt425.2 t458).bind fun t461 => (if t461 = true then ((entailref1_Of.f k t419).bind fun t462 => (entaillaw3_RowsTells.l3 k t422 a b (wrap64 (0 + 1)) t462 0)) else (none)))) else (none)))) else (none))))) else (none)))))))) else (none)))))) else (none)))) (fun k => ?_) ?_
      · simp only [entaillaw3_RowsTells.l2]
        rw [if_neg (by omega)]
      · refine Ev.bind t0 ?_
        refine Ev.bind t1 ?_
        refine it (by decide +kernel) ?_
        exact round_ev l m' z0 z1 (fun k t => entaillaw3_RowsTells.l3 k m' a b (wrap64 (0 + 1)) t 0) (loop3 m' a b _ (ss_norm cmpT_tot l) (by have := norm_length cmpT l; omega) z1 ha hb)
    | succ n ih =>
      intro i hi hn
      have hlt : i < m.length := by omega
      refine Ev.step (f := fun k => (entailref1_Has.f k s m[i].f0.f0 m[i].f0.f1 m[i].f1 m[i].f2.f0 m[i].f2.f1 m[i].f2.f2).bind fun t418 => (if ((decide (m[i] ∈ s)) != t418) = true then (none) else (entaillaw3_RowsTells.l2 k m a b 0 s ((i + 1 : Nat) : Int)))) (fun k => ?_) ?_
      · simp only [entaillaw3_RowsTells.l2]
        rw [if_pos (by omega), if_pos (by omega), rd_tup m i hlt, tells_has s (by omega) ss, wrap_succ i (by omega)]
        rfl
      · refine Ev.bind (refHas_ev s m[i] ss (by omega)) ?_
        refine ife (by simp) ?_
        exact ih (i + 1) (by omega) (by omega)
  exact key m.length 0 (by omega) (by omega)
theorem RowsTells (l m : List S41) (a b : List Int) (ha : a.length ≤ 281474976710656) (hb : b.length ≤ 281474976710656) : ∃ k, entaillaw3_RowsTells.f k l m a b = some true := by
  refine Ev.rounds (g := fun k => entaillaw3_RowsTells.f k l m a b) ?_
  unfold entaillaw3_RowsTells.f
  by_cases h1 : (l.length : Int) > 60
  · exact it h1 (Ev.bind awake_ev (Ev.now _))
  · refine ife h1 ?_
    by_cases h2 : (m.length : Int) > 60
    · exact it h2 (Ev.bind awake_ev (Ev.now _))
    · refine ife h2 ?_
      refine it (by decide +kernel) ?_
      exact round_ev l m (by omega) (by omega) (fun k t => entaillaw3_RowsTells.l2 k m a b 0 t 0) (loop2 m a b _ (ss_norm cmpT_tot l) (by have := norm_length cmpT l; omega) (by omega) ha hb)
end Go.Proofs.Ytpgmeaofmlipkaa.Pure
