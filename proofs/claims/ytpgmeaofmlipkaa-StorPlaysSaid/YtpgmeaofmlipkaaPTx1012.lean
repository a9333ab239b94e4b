-- Written by a program of this session (wip/tools/pp.py over the kit's printer). Lean checks it.
import Derived.Test.YtpgmeaofmlipkaaLaid
import Derived.Test.YtpgmeaofmlipkaaHFlat
import Derived.Test.YtpgmeaofmlipkaaHOrd
import Derived.Test.YtpgmeaofmlipkaaHRow
import Derived.Test.YtpgmeaofmlipkaaHCompact
import Derived.Shelf.SlSortCmp.NoneTotal
import Derived.Laws.StructEq
import Derived.Test.YtpgmeaofmlipkaaPTx0
import Derived.Test.YtpgmeaofmlipkaaPTx1037
import Derived.Test.YtpgmeaofmlipkaaPTx1039
import Derived.Test.YtpgmeaofmlipkaaPTx3037
namespace Go.Proofs.Ytpgmeaofmlipkaa.PT
open Go.RowKit Go.Proofs.YtpgmeaofmlipkaaW.PrintWords Go.Proofs.YtpgmeaofmlipkaaW.PrintLast Go.Proofs.YtpgmeaofmlipkaaW.PrintMore
attribute [local go_sem] max2_int min2_int max_two min_two max_three min_three max_four min_four   -- for this text's walks alone
set_option linter.unusedVariables false
set_option linter.unusedSimpArgs false

--EXT Derived.Test.YtpgmeaofmlipkaaLaid Derived.Test.YtpgmeaofmlipkaaHFlat Derived.Test.YtpgmeaofmlipkaaHOrd Derived.Test.YtpgmeaofmlipkaaHRow Derived.Test.YtpgmeaofmlipkaaHCompact Derived.Shelf.SlSortCmp.NoneTotal Derived.Laws.StructEq
open Go.Proofs.YtpgmeaofmlipkaaH
/-! ### rows_Of: function 12 -/
def Try_compactR : Go.Shelf.Ren := ⟨fun | 43 => 40 | n => n, fun | 0 => 0 | 3 => 3 | 4 => 4 | 22 => 23 | 23 => 41 | n => n, fun | n => n⟩
theorem Try_compactL : CompactLays Try.prog Try_compactR := {
 mixed := by kernel_rfl
 f43 := ⟨Try.f40.name, by decide, Try.func40.trans (congrArg some (by kernel_rfl))⟩
 t0 := Try.underlying0
 a0 := Try.isAgg0
 z0 := Try.sizeOf0
 v0 := Try.zeroValue0
 t3 := Try.underlying3
 a3 := Try.isAgg3
 z3 := Try.sizeOf3
 v3 := Try.zeroValue3
 t4 := Try.underlying4
 a4 := Try.isAgg4
 z4 := Try.sizeOf4
 v4 := Try.zeroValue4
 t22 := Try.underlying23
 a22 := Try.isAgg23
 z22 := Try.sizeOf23
 v22 := Try.zeroValue23 }
theorem eqT_bool (x y : S41) : ((x.f0.f0.toList == y.f0.f0.toList && (x.f0.f1.toList == y.f0.f1.toList)) && (x.f1.toList == y.f1.toList && ((x.f2.f0.toList == y.f2.f0.toList && (x.f2.f1.toList == y.f2.f1.toList && (x.f2.f2.toList == y.f2.f2.toList)))))) = decide (x = y) := by
 have e : ∀ a b : ByteArray, (a.toList == b.toList) = decide (a = b) := fun a b => by
  rw [Bool.eq_iff_iff, beq_iff_eq, decide_eq_true_eq, Lib.toList_data, Lib.toList_data]
  exact ⟨byteArray_ext, fun h => by rw [h]⟩
 obtain ⟨⟨_, _⟩, _, ⟨_, _, _⟩⟩ := x
 obtain ⟨⟨_, _⟩, _, ⟨_, _, _⟩⟩ := y
 simp [e, and_assoc, Bool.and_assoc]
theorem eqT_at : EqlAt Try.prog 41 (fun x => .agg (enc41 x).toArray) (fun x y => decide (x = y)) := by
 refine ⟨fun x y w => ?_, GuardAt.agg _ (by kernel_rfl)⟩
 rw [run_eql_struct]
 simp only [enc41]
 rw [← eqT_bool x y, eqA41 9997 w x.f0.f0 y.f0.f0 x.f0.f1 y.f0.f1 x.f1 y.f1 x.f2.f0 y.f2.f0 x.f2.f1 y.f2.f1 x.f2.f2 y.f2.f2]
 rfl
theorem neT_at : NeqAt Try.prog 41 (fun x => .agg (enc41 x).toArray) (fun x y => decide (x = y)) := by
 refine ⟨fun x y w => ?_, GuardAt.agg _ (by kernel_rfl)⟩
 rw [run_neq_struct]
 simp only [enc41]
 rw [← eqT_bool x y, eqA41 9997 w x.f0.f0 y.f0.f0 x.f0.f1 y.f0.f1 x.f1 y.f1 x.f2.f0 y.f2.f0 x.f2.f1 y.f2.f1 x.f2.f2 y.f2.f2]
 rfl
set_option maxHeartbeats 1000000 in
theorem compact_nil (w : World) : Calls Try.prog 40 #[.slice none 0 0] w fun e w' => e = .returned (.slice none 0 0) ∧ w = w' := by
 go_enter Try.func40, Try.ntmps40
 go_wp2
 go_ret
 exact ⟨rfl, rfl⟩
/-- The library's sort of tuples, and its striking out of twins, on a row of the call's own. -/
theorem sort_own (w : World) (base g cap : Nat) (l : List (S41)) (h : w.ownsRow base 41 6 (.slice (some ⟨g, 0, none⟩) l.length cap) l.length (cellsOf enc41 l)) (hl : l.length < 4611686018427387904) :
  Calls Try.prog 38 #[.slice (some ⟨g, 0, none⟩) l.length cap, .func (.func 39) #[] #[]] w fun e w' =>
   e = .returned (.tuple #[]) ∧ ∃ d' n os, Go.Sort.PermIn 0 l.toArray.size l.toArray d' ∧ Go.Sort.SortedIn (ltOf cmpT) 0 l.toArray.size d' ∧ w' = sortWorldK enc41 6 w g 0 n d' os := by
 have eg : ∀ args w, (callFunc 39 args).run Try.prog w = .ok (.enter 39 args) w := enters_of Try.func39 (by kernel_rfl) rfl
 have hH : Go.Sort.HoldsK enc41 6 w g 0 l.toArray := own_holds flat41 (by decide) h
 have hg : g < w.heap.size := own_lt h g rfl
 have hcon := AnyQ.slices_SortFunc Try.sortT 6 Try.isAgg41 Try.sizeOf41 enc41 flat41.len flat41.one cmpT cmpT_tot.swo 39 #[] g 0 cap l.toArray w eg (fun m os dk _ x y => compare_exact x y _) hH hg (by simpa using hl)
 exact hcon
/-- What a sorted permutation leaves. -/
theorem sorted_norm (l : List (S41)) (d' : Array (S41)) (hp : Go.Sort.PermIn 0 l.toArray.size l.toArray d') (hs : Go.Sort.SortedIn (ltOf cmpT) 0 l.toArray.size d') : d'.size = l.length ∧ Go.Lib.compactUpTo d' d'.size = norm cmpT l := by
 have hT : ∀ x y : S41, ltOf cmpT x y = false → ltOf cmpT y x = false → x = y := fun x y h1 h2 => by
  simp only [ltOf, decide_eq_false_iff_not] at h1 h2
  have := cmpT_tot.anti x y
  exact cmpT_tot.eq x y (by omega)
 have hd := Go.Sort.sorted_unique_holds cmpT_tot.swo hT l.toArray d' hp hs
 have hsz : d'.size = l.length := by rw [← Array.length_toList, hd]; simp
 refine ⟨hsz, ?_⟩
 have hmem : ∀ t, t ∈ d'.toList ↔ t ∈ l := fun t => by
  rw [hd]
  simp
 have hrise : ∀ i j, i < j → j < d'.size → cmpT d'[i]! d'[j]! ≤ 0 := by
  intro i j hij hj
  have hpw : (l.mergeSort fun x y => !(ltOf cmpT) y x).Pairwise (fun x y => (!(ltOf cmpT) y x) = true) := List.pairwise_mergeSort (fun a b c h1 h2 => by
    simp only [ltOf, Bool.not_eq_true', decide_eq_false_iff_not] at *
    rw [cmpT_tot.le_of] at *
    exact cmpT_tot.trans _ _ _ h1 h2) (fun a b => by
    simp only [ltOf, Bool.or_eq_true, Bool.not_eq_true', decide_eq_false_iff_not]
    have := cmpT_tot.anti a b
    omega) l
  have hl : d'.toList = l.mergeSort fun x y => !(ltOf cmpT) y x := hd
  rw [← hl] at hpw
  have := List.pairwise_iff_getElem.1 hpw i j (by simpa using (by omega : i < d'.size)) (by simpa using hj) hij
  simp only [ltOf, Bool.not_eq_true', decide_eq_false_iff_not] at this
  rw [cmpT_tot.le_of] at this
  rw [getElem!_pos d' i (by omega), getElem!_pos d' j hj]
  simpa using this
 rw [compact_norm cmpT_tot d' hrise]
 exact norm_same cmpT_tot hmem

def rows_Of.f (l0 : List (S41)) : Option (List (S41)) := if l0.length < 1466015503701 then some (norm cmpT l0) else none
set_option maxHeartbeats 4000000 in
set_option maxRecDepth 100000 in
theorem rows_Of.calls (A0 : Option Addr) (c0 : Nat) (l0 : List (S41)) (r : List (S41)) (w : World) (hr0 : Kd.C k41 w A0 l0.length l0) (hc0 : l0.length ≤ c0) (h : rows_Of.f l0 = some r) :
  Calls Try.prog 12 #[.slice A0 l0.length c0] w fun e w' => ∃ v0_ : Value, e = .returned (v0_) ∧ Kd.R k41 41 w' w.heap.size (fun _ => True) v0_ r ∧ Below w.heap.size w w' := by
 have hlt : l0.length < 1466015503701 := by
  by_cases hq : l0.length < 1466015503701
  ·exact hq
  ·simp [rows_Of.f, hq] at h
 have hrr : norm cmpT l0 = r := by simpa [rows_Of.f, hlt] using h
 have hclone := api_Tuple_37.calls A0 c0 l0 l0 w hr0 hc0 (by simp [api_Tuple_37.f, hlt])
 have HC := Lib.hid hclone
 have HR := Lib.hid hrr
 clear hclone hrr hr0 h
 go_enter Try.func12, Try.ntmps12
 go_wp2_with fail
 refine HC.out.mono ?_
 rintro e w1 ⟨v1, rfl, hR, hB⟩
 have hown := cells_of_R flat41 (by decide) hR
 have hown6 : w1.ownsRow w.heap.size 41 6 v1 l0.length (cellsOf enc41 l0) := hown
 rcases hown6.2 with ⟨hv, hn⟩ | ⟨g, cap, cur, hv, hg, hh, hncap, hmax, hcs, htk⟩
 ·subst hv
  have hl : l0 = [] := List.eq_nil_of_length_eq_zero hn
  have HS := Lib.hid (AnyF.slices_SortFunc_none (P := Try.prog) (ρ := Try.sortT_ren) Try.sortT none 0 (.func (.func 39) #[] #[]) w1)
  have HL := Lib.hid hl
  have HB := Lib.hid hB
  clear hl hB hR hown hown6 hn
  go_wp2_with fail
  refine HS.out.mono ?_
  rintro e w2 ⟨rfl, hw2⟩
  subst hw2
  go_wp2_with fail
  refine (compact_nil _).mono ?_
  rintro e w3 ⟨rfl, hw3⟩
  subst hw3
  go_wp2
  go_ret
  refine ⟨_, rfl, ?_, HB.out⟩
  rw [← HR.out, HL.out]
  exact Kd.R_nil _ _ _ _ _
 ·subst hv
  have HS := Lib.hid (sort_own w1 w.heap.size g cap l0 hown6 (by omega))
  have HO := Lib.hid hown6
  have HB := Lib.hid hB
  clear hB hR hown hown6 hh hcs htk
  go_wp2_with fail
  refine HS.out.mono ?_
  rintro e w2 ⟨rfl, d', n, os, hp, hs, hw2⟩
  obtain ⟨hsz, hcomp⟩ := sorted_norm l0 d' hp hs
  have hlen0 : l0.toArray.size = l0.length := by simp
  have hH0 : Go.Sort.HoldsK enc41 6 w1 g 0 l0.toArray := own_holds flat41 (by decide) HO.out
  have hput : Go.Sort.HoldsK enc41 6 w2 g 0 d' := by
   rw [hw2]
   refine Go.Sort.holdsK_grow enc41 6 _ os g 0 d' ?_ ?_
   ·have := own_lt HO.out g rfl
    show g < (Go.Sort.putRowK enc41 6 (Go.Sort.ahead w1 n) g 0 d').heap.size
    unfold Go.Sort.putRowK
    rw [Go.Sort.size_putRow]; exact this
   ·exact Go.Sort.holdsK_putRowK enc41 6 _ g 0 l0.toArray d' (Go.Sort.holdsK_ahead enc41 6 w1 n g 0 _ hH0) (by rw [hsz, hlen0])
  have hcpt := compactK Try_compactL 6 Try.isAgg41 Try.sizeOf41 enc41 flat41.len flat41.one eqT_at neT_at z41 Try.zeroValue41 g 0 cap d' w2 hput (by omega) (by omega)
  rw [hsz, ← hsz, hcomp] at hcpt
  have hO2 : w2.ownsRow w.heap.size 41 6 (.slice (some ⟨g, 0, none⟩) l0.length cap) l0.length (cellsOf enc41 (d'.toList.take l0.length)) := by
   rw [hw2]
   exact own_grow (own_put flat41 (by decide) d' l0.length HO.out hsz (Nat.le_refl _)) os
  have hB2 : Below w.heap.size w w2 := by
   rw [hw2]
   refine below_growB (below_put HB.out g 0 _ n hg) ?_ os
   rw [Go.Sort.size_putRow]
   exact HB.out.size
  have HCP := Lib.hid hcpt
  have HSZ := Lib.hid hsz
  have HO2 := Lib.hid hO2
  have HB2 := Lib.hid hB2
  clear hp hs hcomp hput hcpt hO2 hB2 hH0 hlen0 hw2 hsz
  go_wp2_with fail
  rw [← HSZ.out]
  refine HCP.out.mono ?_
  rintro e w3 ⟨rfl, q, hw3⟩
  have HW3 := Lib.hid hw3
  clear hw3
  go_wp2
  go_ret
  refine ⟨_, rfl, ?_, ?_⟩
  ·rw [← HR.out]
   have hnl := norm_length cmpT l0
   have := own_put (q := q) flat41 (by decide) (norm cmpT l0 ++ List.replicate (d'.size - (norm cmpT l0).length) z41).toArray (norm cmpT l0).length HO2.out (by have := HSZ.out; simp; omega) (by omega)
   refine R_of_cells flat41 ?_ (fun _ _ => trivial)
   rw [HW3.out]
   have e : (norm cmpT l0 ++ List.replicate (d'.size - (norm cmpT l0).length) z41).toArray.toList.take (norm cmpT l0).length = norm cmpT l0 := by simp
   rw [e] at this
   exact this
  ·rw [HW3.out]
   exact below_put HB2.out g 0 _ q hg

end Go.Proofs.Ytpgmeaofmlipkaa.PT
