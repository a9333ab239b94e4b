/- What the printed functions over sets of tuples answer, as plain laws of lists. -/
import Derived.Test.YtpgmeaofmlipkaaPTx1025
import Derived.Test.YtpgmeaofmlipkaaPTx1012
import Derived.Test.YtpgmeaofmlipkaaPTx1013
import Derived.Test.YtpgmeaofmlipkaaPTx1014
import Derived.Test.YtpgmeaofmlipkaaPTx1015
import Derived.Test.YtpgmeaofmlipkaaPTx1041
import Derived.Test.YtpgmeaofmlipkaaHSets
set_option linter.unusedVariables false
set_option linter.unusedSimpArgs false
namespace Go.Proofs.Ytpgmeaofmlipkaa.PT
open Go.RowKit Go.Proofs.YtpgmeaofmlipkaaW.PrintWords Go.Proofs.YtpgmeaofmlipkaaW.PrintLast Go.Proofs.YtpgmeaofmlipkaaH

/-- What a few numbers' tuple is. -/
theorem nm_some (n : Int) : ∃ s, entaillaw1_Nm.f n = some s := by
  unfold entaillaw1_Nm.f
  simp only [and7, Option.bind_some]
  rw [if_pos (by omega), if_pos (by simp only [List.length_cons, List.length_nil]; omega)]
  exact ⟨_, rfl⟩
theorem tame_some (n : Int) : ∃ t : S41, entaillaw2_Tame.f n = some (t.f0.f0, t.f0.f1, t.f1, t.f2.f0, t.f2.f1, t.f2.f2) := by
  obtain ⟨s1, h1⟩ := nm_some (n / 2)
  obtain ⟨s2, h2⟩ := nm_some (n / 8192)
  unfold entaillaw2_Tame.f
  simp only [and1, and3, and255, Option.bind_some, h1, h2, List.length_cons, List.length_nil]
  have t0 : 0 ≤ Int.tmod (n / 32 % 256) 3 ∧ Int.tmod (n / 32 % 256) 3 < 3 := by
    rw [Int.tmod_eq_emod_of_nonneg (by omega)]; omega
  rw [if_pos (by omega), if_pos (by omega), if_pos (by omega), if_pos (by omega), if_pos t0.1, if_pos (by have := t0.2; omega)]
  by_cases hz : n / 65536 % 4 = 0
  · rw [if_pos hz, if_pos (by omega), if_pos (by omega)]
    exact ⟨⟨⟨_, _⟩, _, ⟨_, _, _⟩⟩, rfl⟩
  · rw [if_neg hz]
    exact ⟨⟨⟨_, _⟩, _, ⟨_, _, _⟩⟩, rfl⟩
/-- The tuple of a number. -/
noncomputable def tm (n : Int) : S41 := Classical.choose (tame_some n)
theorem tm_eq (n : Int) : entaillaw2_Tame.f n = some ((tm n).f0.f0, (tm n).f0.f1, (tm n).f1, (tm n).f2.f0, (tm n).f2.f1, (tm n).f2.f2) := Classical.choose_spec (tame_some n)
theorem rd_at (l : List Int) (i : Nat) (h : i < l.length) : rd l (i : Int) = l[i] := by simp [rd, h]
theorem wrap_succ (i : Nat) (h : i < 9223372036854775807) : wrap64 ((i : Int) + 1) = ((i + 1 : Nat) : Int) := by unfold wrap64; omega
theorem of_some (l : List S41) (h : l.length < 1466015503701) : rows_Of.f l = some (norm cmpT l) := by simp [rows_Of.f, h]
theorem less_tup (x y : S41) : tupl_Less.f x.f0.f0 x.f0.f1 x.f1 x.f2.f0 x.f2.f1 x.f2.f2 y.f0.f0 y.f0.f1 y.f1 y.f2.f0 y.f2.f1 y.f2.f2 = some (decide (cmpT x y < 0)) := rfl
theorem neT_bool (x y : S41) : ((!(x.f0.f0.toList == y.f0.f0.toList) || (!(x.f0.f1.toList == y.f0.f1.toList))) || (!(x.f1.toList == y.f1.toList) || ((!(x.f2.f0.toList == y.f2.f0.toList) || (!(x.f2.f1.toList == y.f2.f1.toList) || (!(x.f2.f2.toList == y.f2.f2.toList))))))) = !decide (x = y) := by
  rw [← eqT_bool x y]
  simp only [Bool.not_and]
theorem rd_tup (l : List S41) (i : Nat) (h : i < l.length) : rd_T41 l (i : Int) = l[i] := by simp [rd_T41, h]

/-- 'Same' is equality. -/
theorem same_ev (x y : List S41) (hx : x.length ≤ 281474976710656) : Ev (fun k => entailref1_Same.f k x y) (decide (x = y)) := by
  unfold entailref1_Same.f
  by_cases hl : x.length = y.length
  · simp only [if_pos (show (x.length : Int) = (y.length : Int) by omega)]
    have key : ∀ (d i : Nat), i ≤ x.length → x.length - i = d → x.take i = y.take i → Ev (fun k => entailref1_Same.l0 k x y (i : Int)) (decide (x = y)) := by
      intro d
      induction d with
      | zero =>
        intro i hi hd he
        refine Ev.step (f := fun _ => some true) (fun k => ?_) ?_
        · simp only [entailref1_Same.l0]
          rw [if_neg (by omega)]
        · have : x = y := by
            rw [List.take_of_length_le (by omega), List.take_of_length_le (by omega)] at he
            exact he
          rw [decide_eq_true this]; exact Ev.now _
      | succ d ih =>
        intro i hi hd he
        have h1 : i < x.length := by omega
        have h2 : i < y.length := by omega
        by_cases e : x[i] = y[i]
        · refine Ev.step (f := fun k => entailref1_Same.l0 k x y ((i + 1 : Nat) : Int)) (fun k => ?_) (ih (i + 1) (by omega) (by omega) (by rw [List.take_succ_eq_append_getElem h1, List.take_succ_eq_append_getElem h2, he, e]))
          simp only [entailref1_Same.l0]
          rw [if_pos (by omega), if_pos (by omega), if_pos (by omega), rd_tup x i h1, rd_tup y i h2, neT_bool, if_neg (by simp [e]), wrap_succ i (by omega)]
        · refine Ev.step (f := fun _ => some false) (fun k => ?_) ?_
          · simp only [entailref1_Same.l0]
            rw [if_pos (by omega), if_pos (by omega), if_pos (by omega), rd_tup x i h1, rd_tup y i h2, neT_bool, if_pos (by simp [e])]
          · have : ¬ x = y := fun h => e (by subst h; rfl)
            rw [decide_eq_false this]; exact Ev.now _
    exact key x.length 0 (by omega) (by omega) rfl
  · simp only [if_neg (show ¬ (x.length : Int) = (y.length : Int) by omega)]
    have : ¬ x = y := fun h => hl (by rw [h])
    rw [decide_eq_false this]; exact Ev.now _

/-- One set without another one. -/
theorem without_ev (a b : List S41) (ha : SS cmpT a) (hb : SS cmpT b) (hl : a.length < 1466015503701) : Ev (fun k => rows_without.f k a b) (less a b) := by
  unfold rows_without.f
  have keep : ∀ (t : S41) (b : List S41) (x : S41), cmpT x t < 0 → (decide (t ∈ x :: b)) = decide (t ∈ b) := fun t b x h => by
    have : ¬ t = x := fun e => cmpT_tot.ne h e.symm
    simp [this]
  have outer : ∀ (d i : Nat) (b acc : List S41), i ≤ a.length → a.length - i = d → SS cmpT b → acc.length ≤ i → Ev (fun k => rows_without.l0 k b acc a (a.length : Int) (i : Int)) (acc ++ less (a.drop i) b) := by
    intro d
    induction d with
    | zero =>
      intro i b acc hi hd hb hacc
      refine Ev.step (f := fun _ => some acc) (fun k => ?_) ?_
      · simp only [rows_without.l0]
        rw [if_neg (by omega)]
      · have : acc = acc ++ less (a.drop i) b := by rw [List.drop_eq_nil_of_le (by omega)]; simp [less]
        rw [← this]; exact Ev.now _
    | succ d ih =>
      intro i b acc hi hd hb hacc
      have hlt : i < a.length := by omega
      have hdrop : a.drop i = a[i] :: a.drop (i + 1) := List.drop_eq_getElem_cons hlt
      have hlater : ∀ z ∈ a.drop (i + 1), cmpT a[i] z < 0 := by
        have := List.Pairwise.drop (i := i) ha
        rw [hdrop] at this
        exact (List.pairwise_cons.1 this).1
      refine Ev.step (f := fun k => rows_without.l1 k b acc a (a.length : Int) (i : Int) a[i].f0.f0 a[i].f0.f1 a[i].f1 a[i].f2.f0 a[i].f2.f1 a[i].f2.f2) (fun k => ?_) ?_
      · simp only [rows_without.l0]
        rw [if_pos (by omega), if_pos (by omega), if_pos (by omega), rd_tup a i hlt]
      have inner : ∀ (b : List S41), SS cmpT b → Ev (fun k => rows_without.l1 k b acc a (a.length : Int) (i : Int) a[i].f0.f0 a[i].f0.f1 a[i].f1 a[i].f2.f0 a[i].f2.f1 a[i].f2.f2) (acc ++ less (a.drop i) b) := by
        intro b
        induction b with
        | nil =>
          intro _
          refine Ev.step (f := fun k => rows_without.l0 k [] (acc ++ [a[i]]) a (a.length : Int) ((i + 1 : Nat) : Int)) (fun k => ?_) ?_
          · simp only [rows_without.l1]
            rw [if_neg (by simp), if_pos (by simp), if_pos (by omega), wrap_succ i (by omega)]
          · have := ih (i + 1) [] (acc ++ [a[i]]) (by omega) (by omega) (by simp [SS]) (by simp; omega)
            have e0 : ∀ z : List S41, less z [] = z := fun z => by simp [less]
            have e : acc ++ less (a.drop i) [] = acc ++ [a[i]] ++ less (a.drop (i + 1)) [] := by rw [e0, e0, List.append_assoc]; exact congrArg (acc ++ ·) hdrop
            rw [e]; exact this
        | cons x b ihb =>
          intro hs
          obtain ⟨hs1, hs2⟩ := List.pairwise_cons.1 hs
          have hr0 : rd_T41 (x :: b) 0 = x := rfl
          by_cases hc : cmpT x a[i] < 0
          · refine Ev.step (f := fun k => rows_without.l1 k b acc a (a.length : Int) (i : Int) a[i].f0.f0 a[i].f0.f1 a[i].f1 a[i].f2.f0 a[i].f2.f1 a[i].f2.f2) (fun k => ?_) ?_
            · simp only [rows_without.l1]
              rw [if_pos (by simp only [List.length_cons]; omega), if_pos (by simp only [List.length_cons]; omega), hr0, less_tup]
              simp only [Option.bind_some]
              rw [if_pos (decide_eq_true hc), if_pos (by simp only [List.length_cons]; omega)]
              rfl
            · have e : less (a.drop i) (x :: b) = less (a.drop i) b := by
                unfold less
                refine List.filter_congr fun t ht => ?_
                rw [hdrop] at ht
                have : cmpT x t < 0 := by
                  rcases List.mem_cons.1 ht with h | h
                  · rw [h]; exact hc
                  · exact cmpT_tot.lt_lt hc (hlater t h)
                rw [keep t b x this]
              rw [e]
              exact ihb hs2
          · by_cases he : x = a[i]
            · refine Ev.step (f := fun k => rows_without.l0 k (x :: b) acc a (a.length : Int) ((i + 1 : Nat) : Int)) (fun k => ?_) ?_
              · simp only [rows_without.l1]
                rw [if_pos (by simp only [List.length_cons]; omega), if_pos (by simp only [List.length_cons]; omega), hr0, less_tup]
                simp only [Option.bind_some]
                rw [if_neg (by simp [hc]), if_neg (by simp only [List.length_cons]; omega)]
                have hq := neT_bool x a[i]
                rw [hq, if_neg (by simp [he]), wrap_succ i (by omega)]
              · have e1 : less (a[i] :: a.drop (i + 1)) (x :: b) = less (a.drop (i + 1)) (x :: b) := by
                  unfold less
                  rw [List.filter_cons, if_neg (by rw [he]; simp)]
                have e : less (a.drop i) (x :: b) = less (a.drop (i + 1)) (x :: b) := (congrArg (fun z => less z (x :: b)) hdrop).trans e1
                rw [e]
                exact ih (i + 1) (x :: b) acc (by omega) (by omega) hs (by omega)
            · have hgt : cmpT a[i] x < 0 := by
                have h1 := cmpT_tot.anti x a[i]
                have h2 : ¬ cmpT x a[i] = 0 := fun z => he (cmpT_tot.eq _ _ z)
                omega
              have hnot : a[i] ∉ x :: b := fun hm => by
                rcases List.mem_cons.1 hm with h | h
                · exact he h.symm
                · have := cmpT_tot.lt_lt hgt (hs1 _ h)
                  rw [cmpT_tot.refl] at this; omega
              refine Ev.step (f := fun k => rows_without.l0 k (x :: b) (acc ++ [a[i]]) a (a.length : Int) ((i + 1 : Nat) : Int)) (fun k => ?_) ?_
              · simp only [rows_without.l1]
                rw [if_pos (by simp only [List.length_cons]; omega), if_pos (by simp only [List.length_cons]; omega), hr0, less_tup]
                simp only [Option.bind_some]
                rw [if_neg (by simp [hc]), if_neg (by simp only [List.length_cons]; omega)]
                have hq := neT_bool x a[i]
                rw [hq, if_pos (by simp [he]), if_pos (by omega), wrap_succ i (by omega)]
              · have e : acc ++ less (a.drop i) (x :: b) = acc ++ [a[i]] ++ less (a.drop (i + 1)) (x :: b) := by
                  rw [hdrop]
                  have : less (a[i] :: a.drop (i + 1)) (x :: b) = a[i] :: less (a.drop (i + 1)) (x :: b) := by
                    unfold less
                    rw [List.filter_cons, if_pos (by simp only [hnot]; decide)]
                  rw [this, List.append_assoc]; rfl
                rw [e]
                exact ih (i + 1) (x :: b) _ (by omega) (by omega) hs (by simp; omega)
      exact inner b hb
  exact outer a.length 0 b [] (by omega) (by omega) hb (by simp)
theorem minus_ev (a b : List S41) (ha : a.length < 1466015503701) (hb : b.length < 1466015503701) : Ev (fun k => rows_Minus.f k a b) (less (norm cmpT a) b) := by
  unfold rows_Minus.f
  simp only [of_some a ha, of_some b hb, Option.bind_some]
  have := without_ev (norm cmpT a) (norm cmpT b) (ss_norm cmpT_tot a) (ss_norm cmpT_tot b) (Nat.lt_of_le_of_lt (norm_length _ _) ha)
  rw [less_norm cmpT_tot] at this
  exact Ev.bind this (Ev.now _)
theorem plus_some (a b : List S41) (h : a.length + b.length < 1466015503701) : rows_Plus.f a b = some (norm cmpT (a ++ b)) := by
  unfold rows_Plus.f api_Tuple_37.f
  rw [if_pos (by omega)]
  simp only [Option.bind_some]
  rw [if_pos h, of_some _ (by simpa using h)]
  rfl
theorem sb {α β : Type} {o : Option α} {a : α} {f : Nat → α → Option β} {r : β} (h : o = some a) (e : Ev (fun k => f k a) r) : Ev (fun k => o.bind (f k)) r := by subst h; exact e
theorem it {c : Prop} [Decidable c] {β : Type} {f g : Nat → Option β} {r : β} (h : c) (e : Ev f r) : Ev (fun k => if c then f k else g k) r := by
  have : (fun k => if c then f k else g k) = f := by funext k; exact if_pos h
  rw [this]; exact e
theorem wrap_sum (a b : Nat) (h : a + b < 4611686018427387904) : wrap64 ((a : Int) + (b : Int)) = ((a + b : Nat) : Int) := by unfold wrap64; omega
theorem ife {c : Prop} [Decidable c] {β : Type} {f g : Nat → Option β} {r : β} (h : ¬ c) (e : Ev g r) : Ev (fun k => if c then f k else g k) r := by
  have : (fun k => if c then f k else g k) = g := by funext k; exact if_neg h
  rw [this]; exact e
end Go.Proofs.Ytpgmeaofmlipkaa.PT
