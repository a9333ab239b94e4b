/- RowsDiff answers true for any two lists of numbers: what is to be added and dropped makes the one set of the other. -/
import Derived.Test.YtpgmeaofmlipkaaRAwake
import Derived.Test.YtpgmeaofmlipkaaPTx1005
set_option linter.unusedVariables false
set_option linter.unusedSimpArgs false
namespace Go.Proofs.Ytpgmeaofmlipkaa.Pure
open Go.RowKit Go.Proofs.Ytpgmeaofmlipkaa.PT Go.Proofs.YtpgmeaofmlipkaaW.PrintWords Go.Proofs.YtpgmeaofmlipkaaW.PrintLast Go.Proofs.YtpgmeaofmlipkaaH
theorem has_ss (l : List S41) (hl : l.length < 1466015503701) (hs : SS cmpT l) (t : S41) : rows_Has.f l t.f0.f0 t.f0.f1 t.f1 t.f2.f0 t.f2.f1 t.f2.f2 = some (decide (t ∈ l)) := by
 have : rises cmpT l = true := (rises_ss cmpT_tot l).2 hs
 simp [rows_Has.f, hl, this]
theorem dloop0 (x y a d p q r s : List S41) (hx : x.length < 1466015503701) (hy : y.length < 1466015503701) (sx : SS cmpT x) (sy : SS cmpT y) (ha : a.length ≤ 1000) (h1 : ∀ t ∈ a, t ∉ x ∧ t ∈ y) (e : Ev (fun k => entaillaw3_RowsDiff.l1 k x y a d p q r s 0) true) : Ev (fun k => entaillaw3_RowsDiff.l0 k x y a d p q r s 0) true := by
 have key : ∀ (n i : Nat), i ≤ a.length → a.length - i = n → Ev (fun k => entaillaw3_RowsDiff.l0 k x y a d p q r s (i : Int)) true := by
  intro n
  induction n with
  | zero =>
   intro i hi hn
   refine Ev.step (f := fun k => entaillaw3_RowsDiff.l1 k x y a d p q r s 0) (fun k => ?_) e
   simp only [entaillaw3_RowsDiff.l0]
   rw [if_neg (by omega)]
  | succ n ih =>
   intro i hi hn
   have hlt : i < a.length := by omega
   obtain ⟨g1, g2⟩ := h1 a[i] (List.getElem_mem hlt)
   refine Ev.step (f := fun k => entaillaw3_RowsDiff.l0 k x y a d p q r s ((i + 1 : Nat) : Int)) (fun k => ?_) (ih (i + 1) (by omega) (by omega))
   simp only [entaillaw3_RowsDiff.l0]
   rw [if_pos (by omega), if_pos (by omega), rd_tup a i hlt, has_ss x hx sx, has_ss y hy sy, decide_eq_false g1, decide_eq_true g2, wrap_succ i (by omega)]
   rfl
 exact key a.length 0 (by omega) (by omega)
theorem dloop1 (x y a d p q r s : List S41) (hx : x.length < 1466015503701) (hy : y.length < 1466015503701) (sx : SS cmpT x) (sy : SS cmpT y) (hd : d.length ≤ 1000) (h1 : ∀ t ∈ d, t ∈ x ∧ t ∉ y) (e : Ev (fun k => entaillaw3_RowsDiff.l1 k x y a d p q r s (d.length : Int)) true) : Ev (fun k => entaillaw3_RowsDiff.l1 k x y a d p q r s 0) true := by
 have key : ∀ (n i : Nat), i ≤ d.length → d.length - i = n → Ev (fun k => entaillaw3_RowsDiff.l1 k x y a d p q r s (i : Int)) true := by
  intro n
  induction n with
  | zero =>
   intro i hi hn
   rw [show i = d.length by omega]
   exact e
  | succ n ih =>
   intro i hi hn
   have hlt : i < d.length := by omega
   obtain ⟨g1, g2⟩ := h1 d[i] (List.getElem_mem hlt)
   refine Ev.step (f := fun k => entaillaw3_RowsDiff.l1 k x y a d p q r s ((i + 1 : Nat) : Int)) (fun k => ?_) (ih (i + 1) (by omega) (by omega))
   simp only [entaillaw3_RowsDiff.l1]
   rw [if_pos (by omega), if_pos (by omega), rd_tup d i hlt, has_ss x hx sx, has_ss y hy sy, decide_eq_true g1, decide_eq_false g2, wrap_succ i (by omega)]
   rfl
 exact key d.length 0 (by omega) (by omega)
theorem RowsDiff : entaillaw3_RowsDiff.Pure := by
 intro l0 l1 _ hl0 _ _ hl1 _
 refine Ev.rounds (g := fun k => entaillaw3_RowsDiff.f k l0 l1) ?_
 unfold entaillaw3_RowsDiff.f
 have t0 := tames_ev l0 (by omega)
 have t1 := tames_ev l1 (by omega)
 have z0 : ((l0.take 80).map tm).length ≤ 80 := by simp; omega
 have z1 : ((l1.take 80).map tm).length ≤ 80 := by simp; omega
 generalize (l0.take 80).map tm = l at t0 z0
 generalize (l1.take 80).map tm = m at t1 z1
 refine Ev.bind t0 ?_
 refine Ev.bind t1 ?_
 refine sb (of_some l (by omega)) ?_
 refine sb (of_some m (by omega)) ?_
 have nl := norm_length cmpT l
 have nm := norm_length cmpT m
 have sl := ss_norm cmpT_tot l
 have sm := ss_norm cmpT_tot m
 have d1 := diff_ev l m (by omega) (by omega)
 have d2 := diff_ev m l (by omega) (by omega)
 have d3 := diff_ev (norm cmpT l) l (by omega) (by omega)
 rw [← less_norm cmpT_tot (norm cmpT m) l, ← less_norm cmpT_tot (norm cmpT l) m] at d1 d2
 rw [norm_norm cmpT_tot, ← less_norm cmpT_tot (norm cmpT l) l] at d3
 generalize hx : norm cmpT l = x at nl sl d1 d2 d3
 generalize hy : norm cmpT m = y at nm sm d1 d2
 have nx := norm_self cmpT_tot sl
 have ny := norm_self cmpT_tot sm
 have b1 := less_length x y
 have b2 := less_length y x
 have e0 : less x x = [] := by
  unfold less
  rw [List.filter_eq_nil_iff]
  intro a ha
  simp [ha]
 rw [e0] at d3
 refine Ev.bind d1 ?_
 refine Ev.bind d2 ?_
 refine Ev.bind d3 ?_
 refine dloop0 x y _ _ _ _ _ _ (by omega) (by omega) sl sm (by show (less y x).length ≤ _; omega) (fun t ht => ((mem_less t y x).1 ht).symm) ?_
 refine dloop1 x y _ _ _ _ _ _ (by omega) (by omega) sl sm (by show (less x y).length ≤ _; omega) (fun t ht => (mem_less t x y).1 ht) ?_
 have g1 := minus_ev x (less x y) (by omega) (by omega)
 rw [nx] at g1
 have b3 := less_length x (less x y)
 refine Ev.step (f := fun k => _) (fun k => by simp only [entaillaw3_RowsDiff.l1]; rw [if_neg (by omega)]) ?_
 refine Ev.bind g1 ?_
 refine sb (plus_some (less x (less x y)) (less y x) (by omega)) ?_
 rw [diff_back cmpT_tot sl sm]
 have s1 := same_ev y y (by omega)
 rw [decide_eq_true rfl] at s1
 refine Ev.bind s1 ?_
 refine it rfl ?_
 have s2 := same_ev (less y x) (less y x) (by omega)
 rw [decide_eq_true rfl] at s2
 refine Ev.bind s2 ?_
 refine it rfl ?_
 have s3 := same_ev (less x y) (less x y) (by omega)
 rw [decide_eq_true rfl] at s3
 refine Ev.bind s3 ?_
 refine it rfl ?_
 refine it (by simp only [List.length_nil]; decide +kernel) ?_
 have i1 := is_ev (less y x) (by omega)
 rw [(rises_ss cmpT_tot (less y x)).2 (ss_less sm x)] at i1
 refine Ev.bind i1 ?_
 refine it rfl ?_
 have i2 := is_ev (less x y) (by omega)
 rw [(rises_ss cmpT_tot (less x y)).2 (ss_less sl y)] at i2
 refine Ev.bind i2 ?_
 refine it rfl ?_
 exact Ev.bind awake_ev (Ev.now _)
end Go.Proofs.Ytpgmeaofmlipkaa.Pure
