/- Walks and contracts over the store of tuples (Calls2). No condition beyond those that each contract names. -/
import Derived.Test.YtpgmeaofmlipkaaPTx0
import Derived.Test.YtpgmeaofmlipkaaPTx1037
import Derived.Test.YtpgmeaofmlipkaaPTx3037
import Derived.Test.YtpgmeaofmlipkaaPTx1052
import Derived.Test.YtpgmeaofmlipkaaHFlat
import Derived.Test.YtpgmeaofmlipkaaRefPlain2
import Derived.Test.YtpgmeaofmlipkaaPTx1023
import Derived.Test.YtpgmeaofmlipkaaPTx1025
import Derived.Lib.Hide
import Derived.Laws.EntriesVeiled
import Derived.Shelf.SlicesQ.IndexFunc
namespace Go.Proofs.Ytpgmeaofmlipkaa.PT
open Go.RowKit Go.Proofs.YtpgmeaofmlipkaaW.PrintWords Go.Proofs.YtpgmeaofmlipkaaW.PrintLast Go.Proofs.YtpgmeaofmlipkaaW.PrintMore
attribute [local go_sem] max2_int min2_int max_two min_two max_three min_three max_four min_four
set_option linter.unusedVariables false
set_option linter.unusedSimpArgs false
open Go.Proofs.YtpgmeaofmlipkaaH
/-- A row of tuples that can be read. -/
structure Rd (w : World) (A : Option Addr) (c : Nat) (l : List S41) : Prop where
  le : l.length ≤ c
  C : Kd.C k41 w A l.length l
theorem Rd.below {w w1 : World} {A c l} (h : Rd w A c l) (hb : Below w.heap.size w w1) : Rd w1 A c l := ⟨h.le, Kd.C_below h.C hb⟩
/-- A row of tuples that was made from block B on. -/
structure Row (w : World) (B : Nat) (A : Option Addr) (c : Nat) (l : List S41) : Prop where
  mk :: (out : Kd.R k41 41 w B (fun _ => True) (.slice A l.length c) l)
theorem Row.below {w w1 : World} {B A c l} (h : Row w B A c l) (hb : Below w.heap.size w w1) : Row w1 B A c l := ⟨Kd.R_below h.out hb⟩
theorem Row.lower {w : World} {B B' A c l} (h : Row w B A c l) (hb : B' ≤ B) : Row w B' A c l := ⟨Kd.R_lower h.out hb⟩
theorem Row.rd {w : World} {B A c l} (h : Row w B A c l) : Rd w A c l := by
  obtain ⟨A', c', e, hl, hC⟩ := Kd.R_reads h.out
  injection e with e1 _ e2
  subst e1; subst e2
  exact ⟨hl, hC⟩
theorem row_of {w : World} {B : Nat} {v : Value} {r : List S41} (h : Kd.R k41 41 w B (fun _ => True) v r) : ∃ A c, v = .slice A r.length c ∧ Row w B A c r := by
  obtain ⟨A, c, rfl, _⟩ := Kd.R_reads h
  exact ⟨A, c, rfl, ⟨h⟩⟩
theorem Row.nil (w : World) (B : Nat) : Row w B none 0 [] := ⟨Kd.R_nil _ _ _ _ _⟩
/-- A new row with these tuples has come back. -/
def NewRow (w : World) (r : List S41) (e : Ending) (w' : World) : Prop := ∃ A c, e = .returned (.slice A r.length c) ∧ Row w' w.heap.size A c r ∧ Below w.heap.size w w'
theorem newRow {w : World} {r : List S41} {e : Ending} {w' : World} (h : ∃ v0_ : Value, e = .returned v0_ ∧ Kd.R k41 41 w' w.heap.size (fun _ => True) v0_ r ∧ Below w.heap.size w w') : NewRow w r e w' := by
  obtain ⟨v, rfl, hR, hB⟩ := h
  obtain ⟨A, c, rfl, hrow⟩ := row_of hR
  exact ⟨A, c, rfl, hrow, hB⟩
theorem of_c {w : World} {A c l} (h : Rd w A c l) (hl : l.length < 1000000000) : Calls Try.prog 12 #[.slice A l.length c] w (NewRow w (norm cmpT l)) :=
  (rows_Of.calls A c l _ w h.C h.le (of_some l (by omega))).mono fun _ _ h => newRow h
theorem clone_c {w : World} {A c l} (h : Rd w A c l) (hl : l.length < 1000000000) : Calls Try.prog 37 #[.slice A l.length c] w (NewRow w l) :=
  (api_Tuple_37.calls A c l l w h.C h.le (by simp [api_Tuple_37.f]; omega)).mono fun _ _ h => newRow h
theorem minus_c {w : World} {A c l A2 c2 l2} (h : Rd w A c l) (h2 : Rd w A2 c2 l2) (hl : l.length < 1000000000) (hl2 : l2.length < 1000000000) : Calls Try.prog 13 #[.slice A l.length c, .slice A2 l2.length c2] w (NewRow w (less (norm cmpT l) l2)) := by
  obtain ⟨k, hk⟩ := minus_ev l l2 (by omega) (by omega)
  exact (rows_Minus.calls k A c l A2 c2 l2 _ w h.C h.le h2.C h2.le (hk k (Nat.le_refl _))).mono fun _ _ h => newRow h
theorem plus_c {w : World} {A c l A2 c2 l2} (h : Rd w A c l) (h2 : Rd w A2 c2 l2) (hl : l.length < 1000000000) (hl2 : l2.length < 1000000000) : Calls Try.prog 15 #[.slice A l.length c, .slice A2 l2.length c2] w (NewRow w (norm cmpT (l ++ l2))) :=
  (rows_Plus.calls A c l A2 c2 l2 _ w h.C h.le h2.C h2.le (plus_some l l2 (by omega))).mono fun _ _ h => newRow h
theorem has_c {w : World} {A c l} (h : Rd w A c l) (hl : l.length < 1000000000) (hs : SS cmpT l) (t : S41) : Calls Try.prog 23 #[.slice A l.length c, .agg #[.string t.f0.f0, .string t.f0.f1, .string t.f1, .string t.f2.f0, .string t.f2.f1, .string t.f2.f2]] w fun e w' => e = .returned (.bool (decide (t ∈ l))) ∧ Below w.heap.size w w' :=
  rows_Has.calls A c l t.f0.f0 t.f0.f1 t.f1 t.f2.f0 t.f2.f1 t.f2.f2 _ w h.C h.le (by
    rw [rows_Has.f, if_pos ⟨by omega, (rises_ss cmpT_tot l).2 hs⟩])
theorem same_c {w : World} {A c l A2 c2 l2} (h : Rd w A c l) (h2 : Rd w A2 c2 l2) (hl : l.length < 1000000000) : Calls Try.prog 14 #[.slice A l.length c, .slice A2 l2.length c2] w fun e w' => e = .returned (.bool (decide (l = l2))) ∧ ∃ q, w' = w.drewN q := by
  obtain ⟨k, hk⟩ := same_ev l l2 (by omega)
  exact (entailref1_Same.calls k A c l A2 c2 l2 _ w h.C h.le h2.C h2.le (hk k (Nat.le_refl _))).mono fun _ _ h => ⟨h.1, h.2.out⟩
theorem refOf_c {w : World} {A c l} (h : Rd w A c l) (hl : l.length < 1000000000) : Calls Try.prog 18 #[.slice A l.length c] w (NewRow w (norm cmpT l)) := by
  obtain ⟨k, hk⟩ := refOf_ev l (by omega)
  exact (entailref1_Of.calls k A c l _ w h.C h.le (hk k (Nat.le_refl _))).mono fun _ _ h => newRow h
theorem refMinus_c {w : World} {A c l A2 c2 l2} (h : Rd w A c l) (h2 : Rd w A2 c2 l2) (hl : l.length < 1000000000) (hl2 : l2.length < 1000000000) : Calls Try.prog 22 #[.slice A l.length c, .slice A2 l2.length c2] w (NewRow w (less (norm cmpT l) l2)) := by
  obtain ⟨k, hk⟩ := refMinus_ev l l2 (by omega) (by omega)
  exact (entailref1_Minus.calls k A c l A2 c2 l2 _ w h.C h.le h2.C h2.le (hk k (Nat.le_refl _))).mono fun _ _ h => newRow h
theorem refPlus_c {w : World} {A c l A2 c2 l2} (h : Rd w A c l) (h2 : Rd w A2 c2 l2) (hl : l.length < 1000000000) (hl2 : l2.length < 1000000000) : Calls Try.prog 21 #[.slice A l.length c, .slice A2 l2.length c2] w (NewRow w (norm cmpT (l ++ l2))) := by
  obtain ⟨k, hk⟩ := refPlus_ev l l2 (by omega)
  exact (entailref1_Plus.calls k A c l A2 c2 l2 _ w h.C h.le h2.C h2.le (hk k (Nat.le_refl _))).mono fun _ _ h => newRow h
theorem refHas_c {w : World} {A c l} (h : Rd w A c l) (hl : l.length < 1000000000) (hs : SS cmpT l) (t : S41) : Calls Try.prog 24 #[.slice A l.length c, .agg #[.string t.f0.f0, .string t.f0.f1, .string t.f1, .string t.f2.f0, .string t.f2.f1, .string t.f2.f2]] w fun e w' => e = .returned (.bool (decide (t ∈ l))) ∧ Below w.heap.size w w' := by
  obtain ⟨k, hk⟩ := refHas_ev l t hs (by omega)
  exact entailref1_Has.calls k A c l t.f0.f0 t.f0.f1 t.f1 t.f2.f0 t.f2.f1 t.f2.f2 _ w h.C h.le (hk k (Nat.le_refl _))
theorem tame_c (n : Int) (w : World) : Calls Try.prog 25 #[.int .i64 n] w fun e w' => e = .returned (.agg #[.string (tm n).f0.f0, .string (tm n).f0.f1, .string (tm n).f1, .string (tm n).f2.f0, .string (tm n).f2.f1, .string (tm n).f2.f2]) ∧ Below w.heap.size w w' :=
  entaillaw2_Tame.calls n _ _ _ _ _ _ w (tm_eq n)
theorem eq_ev (x y : List S41) (hx : x.length ≤ 281474976710656) : Ev (fun k => api_Tuple_52.f k x y) (decide (x = y)) := by
  by_cases hn : x.length = y.length
  · have loop : ∀ (d i : Nat), i ≤ x.length → x.length - i = d → Ev (fun k => api_Tuple_52.l0 k x y (x.length : Int) i) (decide (x.drop i = y.drop i)) := by
      intro d
      induction d with
      | zero =>
        intro i hi hd
        refine ⟨1, fun k hk => ?_⟩
        obtain ⟨k, rfl⟩ : ∃ m, k = m + 1 := ⟨k - 1, by omega⟩
        simp only [api_Tuple_52.l0]
        rw [if_neg (by omega), List.drop_eq_nil_of_le (by omega), List.drop_eq_nil_of_le (by omega)]
        simp
      | succ d ih =>
        intro i hi hd
        have hlt : i < x.length := by omega
        have hlt2 : i < y.length := by omega
        obtain ⟨K, hK⟩ := ih (i + 1) (by omega) (by omega)
        refine ⟨K + 1, fun k hk => ?_⟩
        obtain ⟨k, rfl⟩ : ∃ m, k = m + 1 := ⟨k - 1, by omega⟩
        have hK2 := hK k (by omega)
        simp only at hK2
        simp only [api_Tuple_52.l0]
        rw [if_pos (by omega), if_pos (by omega), if_pos (by omega), if_pos (by omega), rd_tup x i hlt, rd_tup y i hlt2, neT_bool, wrap_succ i (by omega), hK2, List.drop_eq_getElem_cons hlt, List.drop_eq_getElem_cons hlt2]
        simp only [List.cons.injEq]
        by_cases he : x[i] = y[i]
        · simp only [he, decide_true, Bool.not_true, Bool.false_eq_true, if_false, true_and]
        · simp only [he, decide_false, Bool.not_false, if_true, false_and]
    obtain ⟨K, hK⟩ := loop x.length 0 (by omega) (by omega)
    refine ⟨K, fun k hk => ?_⟩
    simp only [api_Tuple_52.f]
    rw [if_pos (by omega)]
    simpa using hK k hk
  · refine ⟨0, fun k _ => ?_⟩
    simp only [api_Tuple_52.f]
    rw [if_neg (by omega)]
    have : x ≠ y := fun e => hn (by rw [e])
    simp [this]
theorem equal_c {w : World} {A c l A2 c2 l2} (h : Rd w A c l) (h2 : Rd w A2 c2 l2) (hl : l.length < 1000000000) : Calls Try.prog 52 #[.slice A l.length c, .slice A2 l2.length c2] w fun e w' => e = .returned (.bool (decide (l = l2))) ∧ ∃ q, w' = w.drewN q := by
  obtain ⟨k, hk⟩ := eq_ev l l2 (by omega)
  exact (api_Tuple_52.calls k A c l A2 c2 l2 _ w h.C h.le h2.C h2.le (hk k (Nat.le_refl _))).mono fun _ _ h => ⟨h.1, h.2.out⟩
end Go.Proofs.Ytpgmeaofmlipkaa.PT
