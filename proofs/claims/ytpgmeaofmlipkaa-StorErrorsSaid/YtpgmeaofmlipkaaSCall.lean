/- Walks and contracts over the store of tuples (Call). No condition beyond those that each contract names. -/
import Derived.Test.YtpgmeaofmlipkaaSWrite2
import Derived.Lib.Hide
import Derived.Laws.EntriesVeiled
import Derived.Shelf.SlicesQ.IndexFunc
namespace Go.Proofs.Ytpgmeaofmlipkaa.PT
open Go.RowKit Go.Proofs.YtpgmeaofmlipkaaW.PrintWords Go.Proofs.YtpgmeaofmlipkaaW.PrintLast Go.Proofs.YtpgmeaofmlipkaaW.PrintMore
attribute [local go_sem] max2_int min2_int max_two min_two max_three min_three max_four min_four
set_option linter.unusedVariables false
set_option linter.unusedSimpArgs false
open Go.Proofs.YtpgmeaofmlipkaaH
def wrongB (x : BArg) : Bool := x.l1.any badB || (x.l2.any badB || (x.l3.any badB || x.l4.any badB))
/-- The error of a Write. -/
def wErrA (m : Int) (now : List S41) (x : BArg) : Int := if wrongB x = true then 2 else wErr m now x
def nowA (m : Int) (now : List S41) (x : BArg) : List S41 := if wErrA m now x = 0 then nextW now x else now
def pastA (m : Int) (past : List (List S41)) (now : List S41) (x : BArg) : List (List S41) := if wErrA m now x = 0 ∧ ¬ nextW now x = now then past ++ [now] else past
/-- What a store's Write has done: its error n, the sets behind it. -/
def WroteA (w : World) (B g : Nat) (q : Option Nat) (m : Int) (past' : List (List S41)) (now' : List S41) (n : Int) (e : Ending) (w' : World) : Prop :=
  ∃ q', e = .returned (.int .i64 n) ∧ St w' B g q' m past' now' ∧ Kept w w' (fun k => k = g ∨ some k = q) ∧ Below B w w'
theorem write_c {w : World} {B g : Nat} {q : Option Nat} {m : Int} {past now} (h : St w B g q m past now) (x : BArg) (hr : BRd x w) (hl : BLen x) (hs : BSmall x) (hn : now.length < 100000000) (hss : SS cmpT now) (hp : past.length < 1000000) :
    Calls Try.prog 29 #[.pointer (some ⟨g, 0, none⟩), .agg #[.slice x.A1 x.l1.length x.c1, .slice x.A2 x.l2.length x.c2, .slice x.A3 x.l3.length x.c3, .slice x.A4 x.l4.length x.c4]] w (WroteA w B g q m (pastA m past now x) (nowA m now x) (wErrA m now x)) := by
  by_cases hw : wrongB x = true
  · have h1 : wErrA m now x = 2 := by unfold wErrA; rw [if_pos hw]
    have h2 : nowA m now x = now := by unfold nowA; rw [h1, if_neg (by decide)]
    have h3 : pastA m past now x = past := by unfold pastA; rw [h1, if_neg (by simp)]
    rw [h1, h2, h3]
    refine (write_wrong h x hr hl hs (by unfold Wrong; unfold wrongB at hw; simpa [Bool.or_eq_true] using hw)).mono fun e w' ⟨he, hb⟩ => ?_
    exact ⟨q, he, h.below hb, Kept.of_below hb _, hb.mono (by have := h.base; have := h.lt; omega)⟩
  · have h1 : wErrA m now x = wErr m now x := by unfold wErrA; rw [if_neg hw]
    refine (write_main h x hr hl hs (by unfold NotWrong; unfold wrongB at hw; simpa [Bool.or_eq_true] using hw) hn hss hp).mono fun e w' ⟨q', past', now', he, hst, hk, hb, _, hc⟩ => ?_
    refine ⟨q', by rw [h1]; exact he, ?_, hk, hb⟩
    unfold pastA nowA
    rw [h1]
    by_cases h0 : wErr m now x = 0
    · by_cases h4 : nextW now x = now
      · rw [if_neg (fun h => h.2 h4)] at hc
        rw [if_neg (fun h => h.2 h4), if_pos h0, h4, ← hc.1, ← hc.2]
        rw [← hc.1, ← hc.2] at *
        exact hst
      · rw [if_pos ⟨h0, h4⟩] at hc
        rw [if_pos ⟨h0, h4⟩, if_pos h0, ← hc.1, ← hc.2]
        exact hst
    · rw [if_neg (fun h => h0 h.1)] at hc
      rw [if_neg (fun h => h0 h.1), if_neg h0, ← hc.1, ← hc.2]
      rw [← hc.1, ← hc.2] at *
      exact hst
/-- .. of which all is known. -/
theorem write_eq {w : World} {B g : Nat} {q : Option Nat} {m n : Int} {past now past' now'} (x : BArg) (he : wErrA m now x = n) (hp' : pastA m past now x = past') (hn' : nowA m now x = now') (h : St w B g q m past now) (hr : BRd x w) (hl : BLen x) (hs : BSmall x) (hn : now.length < 100000000) (hss : SS cmpT now) (hp : past.length < 1000000) :
    Calls Try.prog 29 #[.pointer (some ⟨g, 0, none⟩), .agg #[.slice x.A1 x.l1.length x.c1, .slice x.A2 x.l2.length x.c2, .slice x.A3 x.l3.length x.c3, .slice x.A4 x.l4.length x.c4]] w (WroteA w B g q m past' now' n) := by
  rw [← he, ← hp', ← hn']; exact write_c h x hr hl hs hn hss hp
theorem Row.write {w w' : World} {B' A c l} {B g : Nat} {q : Option Nat} {m : Int} {past now} (h : Row w B' A c l) (s : St w B g q m past now) (hk : Kept w w' (fun k => k = g ∨ some k = q)) : Row w' B' A c l := by
  obtain ⟨v, hq, hg, hB, hR⟩ := s.out
  obtain ⟨inner, ho⟩ := Kd.R_own hR
  refine ⟨Kd.R_mono (Kd.R_step (Kd.R_bound h.out) (fun k hk2 hlt => hk.2 k hlt ?_)) (fun _ _ => trivial)⟩
  obtain ⟨_, _, _, t, ht, cells, hc⟩ := hk2
  rintro (rfl | he)
  · rw [hg] at hc
    injection hc with hc
    injection hc with _ hc
    rw [← hc] at ht
    exact absurd ht (by decide)
  · obtain ⟨cells', hc'⟩ := own_typed ho k (by rw [hq, he])
    rw [hc] at hc'
    injection hc' with hc'
    injection hc' with _ hc'
    rw [hc'] at ht
    exact absurd ht (by decide)
/-- A block of another type is as it was behind a store's Write. -/
theorem blk_write {w w' : World} {b t : Nat} {cs : Array Value} {B g : Nat} {q : Option Nat} {m : Int} {past now} (h : w.heap[b]? = some (.cells cs t (0, 0))) (h1 : t ≠ 77) (h2 : t ≠ 23) (s : St w B g q m past now) (hk : Kept w w' (fun k => k = g ∨ some k = q)) : w'.heap[b]? = some (.cells cs t (0, 0)) := by
  obtain ⟨v, hq, hg, hB, hR⟩ := s.out
  obtain ⟨inner, ho⟩ := Kd.R_own hR
  refine (hk.2 b (Array.getElem?_eq_some_iff.1 h).1 ?_).trans h
  rintro (rfl | he)
  · rw [hg] at h
    injection h with h
    injection h with _ h
    exact h1 h.symm
  · obtain ⟨cells', hc'⟩ := own_typed ho b (by rw [hq, he])
    rw [h] at hc'
    injection hc' with hc'
    injection hc' with _ hc'
    exact h2 hc'
/-- A tuple in a variable. -/
def TupAt (w : World) (b : Nat) (t : S41) : Prop := w.heap[b]? = some (.cells #[.string t.f0.f0, .string t.f0.f1, .string t.f1, .string t.f2.f0, .string t.f2.f1, .string t.f2.f2] 41 (0, 0))
theorem TupAt.below {w w1 : World} {b t} (h : TupAt w b t) (hb : Below w.heap.size w w1) : TupAt w1 b t := blkB h hb
theorem TupAt.c0 {w : World} {b t} (h : TupAt w b t) : w.cell? ⟨b, 0, none⟩ = some (.string t.f0.f0) := (blk_cell h 0).trans rfl
theorem TupAt.c1 {w : World} {b t} (h : TupAt w b t) : w.cell? ⟨b, 1, none⟩ = some (.string t.f0.f1) := (blk_cell h 1).trans rfl
theorem TupAt.c2 {w : World} {b t} (h : TupAt w b t) : w.cell? ⟨b, 2, none⟩ = some (.string t.f1) := (blk_cell h 2).trans rfl
theorem TupAt.c3 {w : World} {b t} (h : TupAt w b t) : w.cell? ⟨b, 3, none⟩ = some (.string t.f2.f0) := (blk_cell h 3).trans rfl
theorem TupAt.c4 {w : World} {b t} (h : TupAt w b t) : w.cell? ⟨b, 4, none⟩ = some (.string t.f2.f1) := (blk_cell h 4).trans rfl
theorem TupAt.c5 {w : World} {b t} (h : TupAt w b t) : w.cell? ⟨b, 5, none⟩ = some (.string t.f2.f2) := (blk_cell h 5).trans rfl
/-- A literal row of tuples. -/
theorem row_lit (w : World) (l : List S41) (cs : Array Value) (n : Nat) (h : cs = (cellsOf enc41 l).toArray) (hn : l.length = n) (hl : n < 1000000) : Row (w.alloc (.cells cs 41)) w.heap.size (some ⟨w.heap.size, 0, none⟩) n l := by
  subst h
  subst hn
  refine ⟨R_of_cells flat41 ?_ (fun _ _ => trivial)⟩
  have h2 := World.ownsRow_lit (base := w.heap.size) (e := 41) (size := 6) w (cellsOf enc41 l).toArray l.length (Nat.le_refl _) (by unfold maxLen; omega) (by have := cells_len flat41 l; rw [List.size_toArray]; exact this)
  have h3 : (w.alloc (.cells (cellsOf enc41 l).toArray 41)).ownsRow w.heap.size 41 6 (.slice (some ⟨w.heap.size, 0, none⟩) l.length l.length) l.length (cellsOf enc41 l) := by simpa using h2
  exact h3
end Go.Proofs.Ytpgmeaofmlipkaa.PT
