/- What the document's own functions over sets of tuples answer, as plain laws of lists. -/
import Derived.Test.YtpgmeaofmlipkaaRPlain2
import Derived.Test.YtpgmeaofmlipkaaPTx1024
import Derived.Test.YtpgmeaofmlipkaaPTx1018
import Derived.Test.YtpgmeaofmlipkaaPTx1022
import Derived.Test.YtpgmeaofmlipkaaPTx1021
set_option linter.unusedVariables false
set_option linter.unusedSimpArgs false
namespace Go.Proofs.Ytpgmeaofmlipkaa.PT
open Go.RowKit Go.Proofs.YtpgmeaofmlipkaaW.PrintWords Go.Proofs.YtpgmeaofmlipkaaW.PrintLast Go.Proofs.YtpgmeaofmlipkaaH
theorem refLess_tup (x y : S41) : entailref1_Less.f x.f0.f0 x.f0.f1 x.f1 x.f2.f0 x.f2.f1 x.f2.f2 y.f0.f0 y.f0.f1 y.f1 y.f2.f0 y.f2.f1 y.f2.f2 = some (decide (cmpT x y < 0)) := rfl
theorem wrap_half (a b n : Nat) (h : a + b < 9223372036854775807) : wrap64 (Int.tdiv (wrap64 ((a : Int) + (b : Int))) 2) = (((a + b) / 2 : Nat) : Int) := by
  have e : wrap64 ((a : Int) + (b : Int)) = ((a + b : Nat) : Int) := by unfold wrap64; omega
  rw [e, Int.tdiv_eq_ediv_of_nonneg (by omega)]
  unfold wrap64; omega
theorem place_ev (l : List S41) (t : S41) (hs : SS cmpT l) (hl : l.length ≤ 281474976710656) : ∃ n : Nat, n ≤ l.length ∧ Ev (fun k => entailref1_place.f k l t.f0.f0 t.f0.f1 t.f1 t.f2.f0 t.f2.f1 t.f2.f2) (n : Int) ∧ (∀ i (h : i < l.length), i < n → cmpT l[i] t < 0) ∧ (∀ i (h : i < l.length), n ≤ i → ¬ cmpT l[i] t < 0) := by
  unfold entailref1_place.f
  have key : ∀ (d a b : Nat), b - a = d → a ≤ b → b ≤ l.length → (∀ i (h : i < l.length), i < a → cmpT l[i] t < 0) → (∀ i (h : i < l.length), b ≤ i → ¬ cmpT l[i] t < 0) →
      ∃ n : Nat, n ≤ l.length ∧ Ev (fun k => entailref1_place.l0 k l (a : Int) (b : Int) t.f0.f0 t.f0.f1 t.f1 t.f2.f0 t.f2.f1 t.f2.f2) (n : Int) ∧ (∀ i (h : i < l.length), i < n → cmpT l[i] t < 0) ∧ (∀ i (h : i < l.length), n ≤ i → ¬ cmpT l[i] t < 0) := by
    intro d
    induction d using Nat.strongRecOn with
    | _ d ih =>
      intro a b hd hab hb h1 h2
      by_cases hlt : a < b
      · have hm : (a + b) / 2 < l.length := by omega
        have hh := wrap_half a b 0 (by omega)
        by_cases hc : cmpT l[(a + b) / 2] t < 0
        · obtain ⟨n, hn, e, g1, g2⟩ := ih (b - ((a + b) / 2 + 1)) (by omega) ((a + b) / 2 + 1) b rfl (by omega) hb (fun i h hi => by
            by_cases hq : i = (a + b) / 2
            · subst hq; exact hc
            · exact cmpT_tot.lt_lt ((List.pairwise_iff_getElem.1 hs) i ((a + b) / 2) h hm (by omega)) hc) h2
          refine ⟨n, hn, Ev.step (f := fun k => entailref1_place.l0 k l (((a + b) / 2 + 1 : Nat) : Int) (b : Int) t.f0.f0 t.f0.f1 t.f1 t.f2.f0 t.f2.f1 t.f2.f2) (fun k => ?_) e, g1, g2⟩
          simp only [entailref1_place.l0]
          rw [if_pos (by omega), hh, if_pos (by omega), if_pos (by omega), rd_tup l _ hm, refLess_tup]
          simp only [Option.bind_some]
          rw [if_pos (decide_eq_true hc), wrap_succ _ (by omega)]
        · obtain ⟨n, hn, e, g1, g2⟩ := ih ((a + b) / 2 - a) (by omega) a ((a + b) / 2) rfl (by omega) (by omega) h1 (fun i h hi hlt' => by
            by_cases hq : i = (a + b) / 2
            · subst hq; exact hc hlt'
            · exact hc (cmpT_tot.lt_lt ((List.pairwise_iff_getElem.1 hs) ((a + b) / 2) i hm h (by omega)) hlt'))
          refine ⟨n, hn, Ev.step (f := fun k => entailref1_place.l0 k l (a : Int) (((a + b) / 2 : Nat) : Int) t.f0.f0 t.f0.f1 t.f1 t.f2.f0 t.f2.f1 t.f2.f2) (fun k => ?_) e, g1, g2⟩
          simp only [entailref1_place.l0]
          rw [if_pos (by omega), hh, if_pos (by omega), if_pos (by omega), rd_tup l _ hm, refLess_tup]
          simp only [Option.bind_some]
          rw [if_neg (by simp [hc])]
      · refine ⟨a, by omega, Ev.step (f := fun _ => some (a : Int)) (fun k => ?_) (Ev.now _), h1, fun i h hi => h2 i h (by omega)⟩
        simp only [entailref1_place.l0]
        rw [if_neg (by omega)]
  exact key l.length 0 l.length rfl (by omega) (by omega) (fun i h hi => absurd hi (by omega)) (fun i h hi => absurd hi (by omega))
theorem refHas_ev (l : List S41) (t : S41) (hs : SS cmpT l) (hl : l.length ≤ 281474976710656) : Ev (fun k => entailref1_Has.f k l t.f0.f0 t.f0.f1 t.f1 t.f2.f0 t.f2.f1 t.f2.f2) (decide (t ∈ l)) := by
  obtain ⟨n, hn, e, h1, h2⟩ := place_ev l t hs hl
  unfold entailref1_Has.f
  refine Ev.bind e ?_
  by_cases hlt : n < l.length
  · refine it (by omega) (it (by omega) ?_)
    rw [rd_tup l n hlt, eqT_bool]
    have : decide (l[n] = t) = decide (t ∈ l) := by
      rw [Bool.eq_iff_iff, decide_eq_true_eq, decide_eq_true_eq]
      refine ⟨fun h => h ▸ List.getElem_mem hlt, fun h => ?_⟩
      obtain ⟨i, hi, rfl⟩ := List.mem_iff_getElem.1 h
      have i1 : ¬ i < n := fun hin => by
        have := h1 i hi hin
        rw [cmpT_tot.refl] at this; omega
      have i2 : ¬ n < i := fun hin => h2 n hlt (by omega) ((List.pairwise_iff_getElem.1 hs) n i hlt hi hin)
      have : i = n := by omega
      subst this; rfl
    rw [this]; exact Ev.now _
  · refine ife (by omega) ?_
    have : ¬ t ∈ l := fun h => by
      obtain ⟨i, hi, rfl⟩ := List.mem_iff_getElem.1 h
      have := h1 i hi (by omega)
      rw [cmpT_tot.refl] at this; omega
    rw [decide_eq_false this]; exact Ev.now _
theorem less_in {x : S41} {a b : List S41} (h : x ∈ b) : less (x :: a) b = less a b := by
  unfold less
  rw [List.filter_cons, if_neg (by simp [h])]
theorem less_out {x : S41} {a b : List S41} (h : ¬ x ∈ b) : less (x :: a) b = x :: less a b := by
  unfold less
  rw [List.filter_cons, if_pos (by simp [h])]
theorem refMinus_rest (a b : List S41) (ha : a.length < 1466015503701) (sb_ : SS cmpT b) (hb : b.length < 1466015503701) : Ev (fun k => entailref1_Minus.l0 k a b [] 0) (less a b) := by
  have key : ∀ (d i : Nat) (acc : List S41), i ≤ a.length → a.length - i = d → acc.length ≤ i → Ev (fun k => entailref1_Minus.l0 k a b acc (i : Int)) (acc ++ less (a.drop i) b) := by
    intro d
    induction d with
    | zero =>
      intro i acc hi hd hacc
      refine Ev.step (f := fun _ => some acc) (fun k => ?_) ?_
      · simp only [entailref1_Minus.l0]
        rw [if_neg (by omega)]
      · have : acc = acc ++ less (a.drop i) b := by rw [List.drop_eq_nil_of_le (by omega)]; simp [less]
        rw [← this]; exact Ev.now _
    | succ d ih =>
      intro i acc hi hd hacc
      have hlt : i < a.length := by omega
      have hdrop : a.drop i = a[i] :: a.drop (i + 1) := List.drop_eq_getElem_cons hlt
      have hh := refHas_ev b a[i] sb_ (by omega)
      refine Ev.step (f := fun k => (entailref1_Has.f k b a[i].f0.f0 a[i].f0.f1 a[i].f1 a[i].f2.f0 a[i].f2.f1 a[i].f2.f2).bind fun t368 => (if t368 = true then (entailref1_Minus.l0 k a b acc ((i + 1 : Nat) : Int)) else (entailref1_Minus.l0 k a b (acc ++ [a[i]]) ((i + 1 : Nat) : Int)))) (fun k => ?_) ?_
      · simp only [entailref1_Minus.l0]
        rw [if_pos (by omega), if_pos (by omega), rd_tup a i hlt, wrap_succ i (by omega), if_pos (show acc.length < 1466015503701 by omega)]
      · refine Ev.bind hh ?_
        by_cases hm : a[i] ∈ b
        · rw [decide_eq_true hm]
          refine it rfl ?_
          have e : acc ++ less (a.drop i) b = acc ++ less (a.drop (i + 1)) b := by rw [hdrop, less_in hm]
          rw [e]
          exact ih (i + 1) acc (by omega) (by omega) (by omega)
        · rw [decide_eq_false hm]
          refine ife (by decide) ?_
          have e : acc ++ less (a.drop i) b = acc ++ [a[i]] ++ less (a.drop (i + 1)) b := by rw [hdrop, less_out hm, List.append_assoc]; rfl
          rw [e]
          exact ih (i + 1) (acc ++ [a[i]]) (by omega) (by omega) (by simp; omega)
  exact key a.length 0 [] (by omega) (by omega) (by simp)
theorem mem_n (t : S41) (l : List S41) : t ∈ norm cmpT l ↔ t ∈ l := mem_norm cmpT_tot t l
/-- The least one of two rising rows stands ahead. -/
theorem norm_head {a : S41} {l m : List S41} (h : ∀ t ∈ m, cmpT a t < 0) (e : ∀ t, t ∈ l ↔ t = a ∨ t ∈ m) : norm cmpT l = a :: norm cmpT m :=
  norm_eq cmpT_tot (List.pairwise_cons.2 ⟨fun t ht => h t ((mem_n t m).1 ht), ss_norm cmpT_tot m⟩) fun t => by
    rw [List.mem_cons, mem_n, e]
theorem merge_ev (x y : List S41) (sx : SS cmpT x) (sy : SS cmpT y) (hl : x.length + y.length < 1466015503701) : ∀ (d i j : Nat) (acc : List S41), i ≤ x.length → j ≤ y.length → (x.length - i) + (y.length - j) = d → acc.length ≤ i + j →
    Ev (fun k => entailref1_Of.l0 k x y acc (i : Int) (j : Int)) (acc ++ norm cmpT (x.drop i ++ y.drop j)) := by
  intro d
  induction d using Nat.strongRecOn with
  | _ d ih =>
    intro i j acc hi hj hd hacc
    have later : ∀ (z : List S41) (sz : SS cmpT z) (i : Nat) (h : i < z.length), ∀ t ∈ z.drop (i + 1), cmpT z[i] t < 0 := fun z sz i h => by
      have := List.Pairwise.drop (i := i) sz
      rw [List.drop_eq_getElem_cons h] at this
      exact (List.pairwise_cons.1 this).1
    have takeX : ∀ (h : i < x.length), (∀ t ∈ y.drop j, cmpT x[i] t < 0) → Ev (fun k => entailref1_Of.j2 k x y acc (i : Int) (j : Int) true) (acc ++ norm cmpT (x.drop i ++ y.drop j)) := fun h hy => by
      refine Ev.step (f := fun k => entailref1_Of.l0 k x y (acc ++ [x[i]]) ((i + 1 : Nat) : Int) (j : Int)) (fun k => ?_) ?_
      · simp only [entailref1_Of.j2]
        rw [if_pos trivial, if_pos (by omega), if_pos (by omega), if_pos (by omega), rd_tup x i h, wrap_succ i (by omega)]
      · have e : norm cmpT (x.drop i ++ y.drop j) = x[i] :: norm cmpT (x.drop (i + 1) ++ y.drop j) := norm_head (fun t ht => by
          rcases List.mem_append.1 ht with h' | h'
          · exact later x sx i h t h'
          · exact hy t h') (fun t => by rw [List.drop_eq_getElem_cons h, List.cons_append, List.mem_cons])
        have := ih (d - 1) (by omega) (i + 1) j (acc ++ [x[i]]) (by omega) hj (by omega) (by simp; omega)
        rw [e]
        rw [List.append_assoc] at this
        exact this
    by_cases h1 : i < x.length
    · have hlt1 : (i : Int) < (x.length : Int) := by omega
      by_cases h2 : j < y.length
      · -- both stand
        have hlt2 : (j : Int) < (y.length : Int) := by omega
        have start : ∀ (r : List S41), Ev (fun k => entailref1_Of.j2 k x y acc (i : Int) (j : Int) (decide (cmpT x[i] y[j] < 0))) r → Ev (fun k => entailref1_Of.l0 k x y acc (i : Int) (j : Int)) r := fun r e => by
          refine Ev.step (f := fun k => entailref1_Of.j1 k x y acc (i : Int) (j : Int) true) (fun k => ?_) ?_
          · simp only [entailref1_Of.l0]
            rw [if_pos hlt1]
          · refine Ev.step (f := fun k => entailref1_Of.j2 k x y acc (i : Int) (j : Int) (decide (cmpT x[i] y[j] < 0))) (fun k => ?_) e
            simp only [entailref1_Of.j1]
            rw [if_pos trivial, if_neg (by omega), if_pos hlt1, if_pos (by omega), if_pos (by omega), if_pos hlt2, rd_tup x i h1, rd_tup y j h2, refLess_tup]
            rfl
        refine start _ ?_
        by_cases hc : cmpT x[i] y[j] < 0
        · rw [decide_eq_true hc]
          exact takeX h1 fun t ht => by
            rw [List.drop_eq_getElem_cons h2] at ht
            rcases List.mem_cons.1 ht with h' | h'
            · rw [h']; exact hc
            · exact cmpT_tot.lt_lt hc (later y sy j h2 t h')
        · rw [decide_eq_false hc]
          by_cases hc2 : cmpT y[j] x[i] < 0
          · refine Ev.step (f := fun k => entailref1_Of.l0 k x y (acc ++ [y[j]]) (i : Int) ((j + 1 : Nat) : Int)) (fun k => ?_) ?_
            · simp only [entailref1_Of.j2]
              rw [if_neg (by decide), if_neg (by omega), if_pos (by omega), if_pos hlt2, if_pos (by omega), if_pos hlt1, rd_tup x i h1, rd_tup y j h2, refLess_tup]
              simp only [Option.bind_some]
              rw [if_pos (decide_eq_true hc2), if_pos (by omega), wrap_succ j (by omega)]
            · have e : norm cmpT (x.drop i ++ y.drop j) = y[j] :: norm cmpT (x.drop i ++ y.drop (j + 1)) := norm_head (fun t ht => by
                rcases List.mem_append.1 ht with h' | h'
                · rw [List.drop_eq_getElem_cons h1] at h'
                  rcases List.mem_cons.1 h' with h' | h'
                  · rw [h']; exact hc2
                  · exact cmpT_tot.lt_lt hc2 (later x sx i h1 t h')
                · exact later y sy j h2 t h') (fun t => by rw [List.drop_eq_getElem_cons h2, List.mem_append, List.mem_append, List.mem_cons]; exact ⟨fun h => by rcases h with h | h | h; exact .inr (.inl h); exact .inl h; exact .inr (.inr h), fun h => by rcases h with h | h | h; exact .inr (.inl h); exact .inl h; exact .inr (.inr h)⟩)
              have := ih (d - 1) (by omega) i (j + 1) (acc ++ [y[j]]) hi (by omega) (by omega) (by simp; omega)
              rw [e]
              rw [List.append_assoc] at this
              exact this
          · have he : x[i] = y[j] := cmpT_tot.eq _ _ (by have := cmpT_tot.anti x[i] y[j]; omega)
            refine Ev.step (f := fun k => entailref1_Of.l0 k x y acc ((i + 1 : Nat) : Int) (j : Int)) (fun k => ?_) ?_
            · simp only [entailref1_Of.j2]
              rw [if_neg (by decide), if_neg (by omega), if_pos (by omega), if_pos hlt2, if_pos (by omega), if_pos hlt1, rd_tup x i h1, rd_tup y j h2, refLess_tup]
              simp only [Option.bind_some]
              rw [if_neg (by simp [hc2]), wrap_succ i (by omega)]
            · have e : norm cmpT (x.drop i ++ y.drop j) = norm cmpT (x.drop (i + 1) ++ y.drop j) := norm_same cmpT_tot fun t => by
                rw [List.drop_eq_getElem_cons h1, List.cons_append, List.mem_cons]
                refine ⟨fun h => ?_, .inr⟩
                rcases h with h | h
                · rw [h, he]; exact List.mem_append.2 (.inr (by rw [List.drop_eq_getElem_cons h2]; exact List.mem_cons_self ..))
                · exact h
              rw [e]
              exact ih (d - 1) (by omega) (i + 1) j acc (by omega) hj (by omega) (by omega)
      · have hj' : j = y.length := by omega
        refine Ev.step (f := fun k => entailref1_Of.j1 k x y acc (i : Int) (j : Int) true) (fun k => ?_) ?_
        · simp only [entailref1_Of.l0]
          rw [if_pos hlt1]
        · refine Ev.step (f := fun k => entailref1_Of.j2 k x y acc (i : Int) (j : Int) true) (fun k => ?_) ?_
          · simp only [entailref1_Of.j1]
            rw [if_pos trivial, if_pos (by omega)]
          · exact takeX h1 fun t ht => by rw [List.drop_eq_nil_of_le (by omega)] at ht; cases ht
    · have hi' : i = x.length := by omega
      by_cases h2 : j < y.length
      · have hlt2 : (j : Int) < (y.length : Int) := by omega
        refine Ev.step (f := fun k => entailref1_Of.j1 k x y acc (i : Int) (j : Int) true) (fun k => ?_) ?_
        · simp only [entailref1_Of.l0]
          rw [if_neg (by omega), decide_eq_true hlt2]
        · refine Ev.step (f := fun k => entailref1_Of.j2 k x y acc (i : Int) (j : Int) false) (fun k => ?_) ?_
          · simp only [entailref1_Of.j1]
            rw [if_pos trivial, if_neg (by omega), if_neg (by omega)]
          · refine Ev.step (f := fun k => entailref1_Of.l0 k x y (acc ++ [y[j]]) (i : Int) ((j + 1 : Nat) : Int)) (fun k => ?_) ?_
            · simp only [entailref1_Of.j2]
              rw [if_neg (by decide), if_pos (by omega), if_pos (by omega), if_pos hlt2, if_pos (by omega), rd_tup y j h2, wrap_succ j (by omega)]
            · have e : norm cmpT (x.drop i ++ y.drop j) = y[j] :: norm cmpT (x.drop i ++ y.drop (j + 1)) := by
                rw [List.drop_eq_nil_of_le (show x.length ≤ i by omega), List.nil_append, List.nil_append]
                exact norm_head (fun t ht => later y sy j h2 t ht) (fun t => by rw [List.drop_eq_getElem_cons h2, List.mem_cons])
              have := ih (d - 1) (by omega) i (j + 1) (acc ++ [y[j]]) hi (by omega) (by omega) (by simp; omega)
              rw [e]
              rw [List.append_assoc] at this
              exact this
      · refine Ev.step (f := fun k => entailref1_Of.j1 k x y acc (i : Int) (j : Int) false) (fun k => ?_) ?_
        · simp only [entailref1_Of.l0]
          rw [if_neg (by omega), decide_eq_false (show ¬ (j : Int) < (y.length : Int) by omega)]
        · refine Ev.step (f := fun _ => some acc) (fun k => ?_) ?_
          · simp only [entailref1_Of.j1]
            rw [if_neg (by decide)]
          · have e : acc ++ norm cmpT (x.drop i ++ y.drop j) = acc := by
              rw [List.drop_eq_nil_of_le (by omega), List.drop_eq_nil_of_le (by omega)]
              simp [norm]
            rw [e]; exact Ev.now _
theorem refOf_ev (l : List S41) (hl : l.length < 1466015503701) : Ev (fun k => entailref1_Of.f k l) (norm cmpT l) := by
  have key : ∀ (n : Nat) (l : List S41), l.length = n → l.length < 1466015503701 → Ev (fun k => entailref1_Of.f k l) (norm cmpT l) := by
    intro n
    induction n using Nat.strongRecOn with
    | _ n ih =>
      intro l hn hl
      by_cases h2 : l.length < 2
      · refine Ev.step (f := fun _ => some l) (fun k => ?_) ?_
        · simp only [entailref1_Of.f]
          rw [if_pos (by omega)]
          simp only [Option.bind_some]
          rw [if_pos (by simp only [List.length_nil]; omega)]
          rfl
        · have : norm cmpT l = l := norm_self cmpT_tot (by
            match l, h2 with
            | [], _ => exact List.Pairwise.nil
            | [a], _ => exact List.pairwise_singleton _ _
            | _ :: _ :: _, h => exact absurd h (by simp only [List.length_cons]; omega))
          rw [this]; exact Ev.now _
      · have hw : wrap64 ((l.length : Int) / 2) = ((l.length / 2 : Nat) : Int) := by unfold wrap64; omega
        refine Ev.step (f := fun k => (entailref1_Of.f k (l.take (l.length / 2))).bind fun t312 => ((entailref1_Of.f k (l.drop (l.length / 2))).bind fun t319 => (entailref1_Of.l0 k t312 t319 ([] : List (S41)) 0 0))) (fun k => ?_) ?_
        · simp only [entailref1_Of.f]
          rw [if_neg (by omega), hw, if_pos (by omega), if_pos (by omega)]
          rfl
        · have l1 : (l.take (l.length / 2)).length = l.length / 2 := by rw [List.length_take]; omega
          have l2 : (l.drop (l.length / 2)).length = l.length - l.length / 2 := List.length_drop ..
          have e1 := ih (l.length / 2) (by omega) (l.take (l.length / 2)) l1 (by omega)
          have e2 := ih (l.length - l.length / 2) (by omega) (l.drop (l.length / 2)) l2 (by omega)
          refine Ev.bind e1 (Ev.bind e2 ?_)
          have n1 := norm_length cmpT (l.take (l.length / 2))
          have n2 := norm_length cmpT (l.drop (l.length / 2))
          have := merge_ev _ _ (ss_norm cmpT_tot (l.take (l.length / 2))) (ss_norm cmpT_tot (l.drop (l.length / 2))) (by omega) _ 0 0 [] (by omega) (by omega) rfl (by simp)
          have e : norm cmpT l = [] ++ norm cmpT (List.drop 0 (norm cmpT (l.take (l.length / 2))) ++ List.drop 0 (norm cmpT (l.drop (l.length / 2)))) := by
            rw [List.nil_append, List.drop_zero, List.drop_zero]
            refine norm_same cmpT_tot fun t => ?_
            rw [List.mem_append, mem_n, mem_n, ← List.mem_append, List.take_append_drop]
          rw [e]
          exact this
  exact key l.length l rfl hl
theorem refMinus_ev (a b : List S41) (ha : a.length < 1466015503701) (hb : b.length < 1466015503701) : Ev (fun k => entailref1_Minus.f k a b) (less (norm cmpT a) b) := by
  unfold entailref1_Minus.f
  refine Ev.bind (refOf_ev a ha) (Ev.bind (refOf_ev b hb) ?_)
  have := refMinus_rest (norm cmpT a) (norm cmpT b) (Nat.lt_of_le_of_lt (norm_length _ _) ha) (ss_norm cmpT_tot b) (Nat.lt_of_le_of_lt (norm_length _ _) hb)
  rw [less_norm cmpT_tot] at this
  exact this
theorem refPlus_ev (a b : List S41) (h : a.length + b.length < 1466015503701) : Ev (fun k => entailref1_Plus.f k a b) (norm cmpT (a ++ b)) := by
  unfold entailref1_Plus.f
  refine sb rfl (it (by simp only [List.length_nil]; omega) (sb rfl (it (by simp only [List.nil_append]; omega) ?_)))
  rw [List.nil_append]
  exact Ev.bind (refOf_ev (a ++ b) (by rw [List.length_append]; exact h)) (Ev.now _)
end Go.Proofs.Ytpgmeaofmlipkaa.PT
