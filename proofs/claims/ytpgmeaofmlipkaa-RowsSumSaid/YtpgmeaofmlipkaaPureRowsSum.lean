/- RowsSum answers true for any two lists of numbers: sums and rests of the sets that they name go together. No condition beyond the row's own. -/
import Derived.Test.YtpgmeaofmlipkaaRAwake
import Derived.Test.YtpgmeaofmlipkaaPTx1003
set_option linter.unusedVariables false
set_option linter.unusedSimpArgs false
namespace Go.Proofs.Ytpgmeaofmlipkaa.Pure
open Go.RowKit Go.Proofs.Ytpgmeaofmlipkaa.PT Go.Proofs.YtpgmeaofmlipkaaW.PrintWords Go.Proofs.YtpgmeaofmlipkaaW.PrintLast Go.Proofs.YtpgmeaofmlipkaaH
theorem sb {α β : Type} {o : Option α} {a : α} {f : Nat → α → Option β} {r : β} (h : o = some a) (e : Ev (fun k => f k a) r) : Ev (fun k => o.bind (f k)) r := by subst h; exact e
theorem it {c : Prop} [Decidable c] {β : Type} {f g : Nat → Option β} {r : β} (h : c) (e : Ev f r) : Ev (fun k => if c then f k else g k) r := by
  have : (fun k => if c then f k else g k) = f := by funext k; exact if_pos h
  rw [this]; exact e
theorem wrap_sum (a b : Nat) (h : a + b < 4611686018427387904) : wrap64 ((a : Int) + (b : Int)) = ((a + b : Nat) : Int) := by unfold wrap64; omega
theorem RowsSum : entaillaw3_RowsSum.Pure := by
  intro l0 l1 _ hl0 _ _ hl1 _
  refine Ev.rounds (g := fun k => entaillaw3_RowsSum.f k l0 l1) ?_
  unfold entaillaw3_RowsSum.f
  have t0 := tames_ev l0 (by omega)
  have t1 := tames_ev l1 (by omega)
  have z0 : ((l0.take 80).map tm).length ≤ 80 := by simp; omega
  have z1 : ((l1.take 80).map tm).length ≤ 80 := by simp; omega
  generalize (l0.take 80).map tm = l at t0 z0
  generalize (l1.take 80).map tm = m at t1 z1
  refine Ev.bind t0 ?_
  refine Ev.bind t1 ?_
  refine sb (of_some l (by omega)) ?_
  refine sb (of_some m (by omega)) ?_
  have nl := norm_length cmpT l
  have nm := norm_length cmpT m
  have sl := ss_norm cmpT_tot l
  have sm := ss_norm cmpT_tot m
  generalize hx : norm cmpT l = x at nl sl
  generalize hy : norm cmpT m = y at nm sm
  have nx := norm_self cmpT_tot sl
  have ny := norm_self cmpT_tot sm
  have b1 := less_length x y
  have b2 := less_length y x
  have g1 := minus_ev x y (by omega) (by omega)
  have g2 := minus_ev x (less x y) (by omega) (by omega)
  have g3 := minus_ev y x (by omega) (by omega)
  have g4 := minus_ev y (less y x) (by omega) (by omega)
  rw [nx] at g1 g2
  rw [ny] at g3 g4
  refine Ev.bind g1 ?_
  refine Ev.bind g2 ?_
  refine Ev.bind g3 ?_
  refine Ev.bind g4 ?_
  have b3 := less_length x (less x y)
  have s1 := same_ev (less x (less x y)) (less y (less y x)) (by omega)
  rw [decide_eq_true (both_eq cmpT_tot sl sm)] at s1
  refine Ev.bind s1 ?_
  refine it rfl ?_
  refine sb (plus_some x y (by omega)) ?_
  have hs := sum_length cmpT_tot sl sm
  refine it (by rw [wrap_sum _ _ (Nat.lt_of_le_of_lt (Nat.le_of_eq hs) (by omega)), wrap_sum x.length y.length (by omega), hs]) ?_
  refine sb (plus_some l m (by omega)) ?_
  refine sb (plus_some m l (by omega)) ?_
  have s2 := same_ev (norm cmpT (l ++ m)) (norm cmpT (m ++ l)) (Nat.le_trans (norm_length cmpT (l ++ m)) (by rw [List.length_append]; omega))
  rw [decide_eq_true (norm_same cmpT_tot (fun t => by simp only [List.mem_append]; exact Or.comm))] at s2
  refine Ev.bind s2 ?_
  refine it rfl ?_
  refine sb (plus_some x [] (by simp only [List.length_nil]; omega)) ?_
  rw [List.append_nil, nx]
  have s3 := same_ev x x (by omega)
  rw [decide_eq_true rfl] at s3
  refine Ev.bind s3 ?_
  refine it rfl ?_
  have g5 := minus_ev x l (by omega) (by omega)
  rw [nx] at g5
  have e5 : less x l = [] := by
    rw [← less_norm cmpT_tot x l, hx]
    unfold less
    rw [List.filter_eq_nil_iff]
    intro a ha
    simp [ha]
  rw [e5] at g5
  refine Ev.bind g5 ?_
  refine it rfl ?_
  exact Ev.bind awake_ev (Ev.now _)
end Go.Proofs.Ytpgmeaofmlipkaa.Pure
