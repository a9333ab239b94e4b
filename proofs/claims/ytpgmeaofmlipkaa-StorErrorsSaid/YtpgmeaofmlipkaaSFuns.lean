/- Walks and contracts over the store of tuples (Funs). No condition beyond those that each contract names. -/
import Derived.Test.YtpgmeaofmlipkaaAtomPlain
import Derived.Test.YtpgmeaofmlipkaaSContains
import Derived.Test.YtpgmeaofmlipkaaSBase
import Derived.Lib.Hide
import Derived.Laws.EntriesVeiled
import Derived.Shelf.SlicesQ.IndexFunc
namespace Go.Proofs.Ytpgmeaofmlipkaa.PT
open Go.RowKit Go.Proofs.YtpgmeaofmlipkaaW.PrintWords Go.Proofs.YtpgmeaofmlipkaaW.PrintLast Go.Proofs.YtpgmeaofmlipkaaW.PrintMore
attribute [local go_sem] max2_int min2_int max_two min_two max_three min_three max_four min_four
set_option linter.unusedVariables false
set_option linter.unusedSimpArgs false
open Go.Proofs.YtpgmeaofmlipkaaH
def badB (t : S41) : Bool := !okT t
theorem ok_c (t : S41) (hs : Small t) (w : World) : Calls Try.prog 60 #[.agg #[.string t.f0.f0, .string t.f0.f1, .string t.f1, .string t.f2.f0, .string t.f2.f1, .string t.f2.f2]] w fun e w' => e = .returned (.bool (okT t)) ∧ Below w.heap.size w w' := by
  obtain ⟨k, hk⟩ := ok_ev t hs
  exact tupl_Ok.calls k _ _ _ _ _ _ _ w (hk k (Nat.le_refl _))
theorem rok_c (t : S41) (hs : Small t) (w : World) : Calls Try.prog 53 #[.agg #[.string t.f0.f0, .string t.f0.f1, .string t.f1, .string t.f2.f0, .string t.f2.f1, .string t.f2.f2]] w fun e w' => e = .returned (.bool (okT t)) ∧ Below w.heap.size w w' := by
  obtain ⟨k, hk⟩ := rok_ev t hs
  exact entailref1_Ok.calls k _ _ _ _ _ _ _ w (hk k (Nat.le_refl _))
set_option maxHeartbeats 1000000 in
theorem wrong1_c (t : S41) (hs : Small t) (w : World) : Calls Try.prog 59 #[.agg #[.string t.f0.f0, .string t.f0.f1, .string t.f1, .string t.f2.f0, .string t.f2.f1, .string t.f2.f2]] w fun e w' => e = .returned (.bool (badB t)) ∧ Below w.heap.size w w' := by
  have hok := Lib.hid (fun W => ok_c t hs W)
  have HB := Lib.hid (fun o => below_alloc (Below.refl w.heap.size w) o)
  go_enter Try.func59, Try.ntmps59
  go_wp2_with (go_at_call 60; refine (hok.out _).mono ?_; rintro e w' ⟨rfl, hb⟩; have HC := Lib.hid hb; clear hb)
  go_ret
  exact ⟨rfl, below_then (HB.out _) (by simp) HC.out⟩
theorem wrong_all {w : World} {A c l} (h : Rd w A c l) (hl : l.length < 1000000000) (hs : ∀ t ∈ l, Small t) : Calls Try.prog 50 #[.slice A l.length c, .func (.func 59) #[] #[]] w fun e w' => e = .returned (.bool (l.any badB)) ∧ Below w.heap.size w w' :=
  contains_c Small z41 ⟨by decide, by decide⟩ badB 59 #[] (enters_of Try.func59 (by kernel_rfl) rfl) h hl hs fun W t ht _ => wrong1_c t ht W
set_option maxHeartbeats 1000000 in
theorem wrong_c {w : World} {A c l} (h : Rd w A c l) (hl : l.length < 1000000000) (hs : ∀ t ∈ l, Small t) : Calls Try.prog 48 #[.slice A l.length c] w fun e w' => e = .returned (.bool (l.any badB)) ∧ Below w.heap.size w w' := by
  have hc := Lib.hid (wrong_all h hl hs)
  clear h hl hs
  generalize l.any badB = r at hc
  go_enter Try.func48, Try.ntmps48
  go_wp2_with (go_at_call 50; refine hc.out.mono ?_; rintro e w' ⟨rfl, hb⟩; have HC := Lib.hid hb; clear hb)
  go_ret
  exact ⟨rfl, HC.out⟩
set_option maxHeartbeats 1000000 in
theorem has1_c {w : World} {A c l} {bn : Nat} (h : Rd w A c l) (hl : l.length < 1000000000) (hs : SS cmpT l) (hc : w.cell? ⟨bn, 0, none⟩ = some (.slice A l.length c)) (t : S41) : Calls Try.prog 49 #[.agg #[.string t.f0.f0, .string t.f0.f1, .string t.f1, .string t.f2.f0, .string t.f2.f1, .string t.f2.f2], .pointer (some ⟨bn, 0, none⟩)] w fun e w' => e = .returned (.bool (decide (t ∈ l))) ∧ Below w.heap.size w w' := by
  have HB := Lib.hid (fun o => below_alloc (Below.refl w.heap.size w) o)
  have hh := Lib.hid (fun W hb => has_c (h.below (w1 := W) hb) hl hs t)
  have hbn : bn < w.heap.size := World.block_lt_of_cell? w _ hc
  have HC1 : (w.alloc (.cells #[.string t.f0.f0, .string t.f0.f1, .string t.f1, .string t.f2.f0, .string t.f2.f1, .string t.f2.f2] 41)).cell? ⟨bn, 0, none⟩ = some (.slice A l.length c) := pw_cell_below (HB.out _) hc
  clear h hs
  generalize decide (t ∈ l) = r at hh
  go_enter Try.func49, Try.ntmps49
  go_wp2_with (go_at_call 23; refine (hh.out _ (HB.out _)).mono ?_; rintro e w' ⟨rfl, hb⟩; have HC := Lib.hid hb; clear hb)
  go_ret
  exact ⟨rfl, below_then (HB.out _) (by simp) HC.out⟩
set_option maxHeartbeats 1000000 in
theorem hasno_c {w : World} {A c l} {bn bh : Nat} (h : Rd w A c l) (hl : l.length < 1000000000) (hs : SS cmpT l) (hc : w.cell? ⟨bn, 0, none⟩ = some (.slice A l.length c)) (hh : w.cell? ⟨bh, 0, none⟩ = some (.func (.func 49) #[] #[.pointer (some ⟨bn, 0, none⟩)])) (t : S41) : Calls Try.prog 51 #[.agg #[.string t.f0.f0, .string t.f0.f1, .string t.f1, .string t.f2.f0, .string t.f2.f1, .string t.f2.f2], .pointer (some ⟨bh, 0, none⟩)] w fun e w' => e = .returned (.bool (!decide (t ∈ l))) ∧ Below w.heap.size w w' := by
  have HB := Lib.hid (fun o => below_alloc (Below.refl w.heap.size w) o)
  have hcl := Lib.hid (fun W hb => has1_c (h.below (w1 := W) hb) hl hs (pw_cell_below hb hc) t)
  have HC1 : (w.alloc (.cells #[.string t.f0.f0, .string t.f0.f1, .string t.f1, .string t.f2.f0, .string t.f2.f1, .string t.f2.f2] 41)).cell? ⟨bh, 0, none⟩ = some (.func (.func 49) #[] #[.pointer (some ⟨bn, 0, none⟩)]) := pw_cell_below (HB.out _) hh
  clear h hs hc
  generalize decide (t ∈ l) = r at hcl
  go_enter Try.func51, Try.ntmps51
  go_wp2_with (go_at_call 49; refine (hcl.out _ (HB.out _)).mono ?_; rintro e w' ⟨rfl, hb⟩; have HC := Lib.hid hb; clear hb)
  go_ret
  exact ⟨rfl, below_then (HB.out _) (by simp) HC.out⟩
theorem must_c {w : World} {A c l A2 c2 m} {bn bh : Nat} (h : Rd w A c l) (hl : l.length < 1000000000) (hs : SS cmpT l) (hc : w.cell? ⟨bn, 0, none⟩ = some (.slice A l.length c)) (hh : w.cell? ⟨bh, 0, none⟩ = some (.func (.func 49) #[] #[.pointer (some ⟨bn, 0, none⟩)])) (h2 : Rd w A2 c2 m) (hm : m.length < 1000000000) :
    Calls Try.prog 50 #[.slice A2 m.length c2, .func (.func 51) #[] #[.pointer (some ⟨bh, 0, none⟩)]] w fun e w' => e = .returned (.bool (m.any fun t => !decide (t ∈ l))) ∧ Below w.heap.size w w' :=
  contains_c (fun _ => True) z41 trivial (fun t => !decide (t ∈ l)) 51 #[.pointer (some ⟨bh, 0, none⟩)] (enters_of Try.func51 (by kernel_rfl) rfl) h2 hm (fun _ _ => trivial) fun W t _ hb => hasno_c (h.below hb) hl hs (pw_cell_below hb hc) (pw_cell_below hb hh) t
theorem not_c {w : World} {A c l A2 c2 m} {bn : Nat} (h : Rd w A c l) (hl : l.length < 1000000000) (hs : SS cmpT l) (hc : w.cell? ⟨bn, 0, none⟩ = some (.slice A l.length c)) (h2 : Rd w A2 c2 m) (hm : m.length < 1000000000) :
    Calls Try.prog 50 #[.slice A2 m.length c2, .func (.func 49) #[] #[.pointer (some ⟨bn, 0, none⟩)]] w fun e w' => e = .returned (.bool (m.any fun t => decide (t ∈ l))) ∧ Below w.heap.size w w' :=
  contains_c (fun _ => True) z41 trivial (fun t => decide (t ∈ l)) 49 #[.pointer (some ⟨bn, 0, none⟩)] (enters_of Try.func49 (by kernel_rfl) rfl) h2 hm (fun _ _ => trivial) fun W t _ hb => has1_c (h.below hb) hl hs (pw_cell_below hb hc) t
end Go.Proofs.Ytpgmeaofmlipkaa.PT
