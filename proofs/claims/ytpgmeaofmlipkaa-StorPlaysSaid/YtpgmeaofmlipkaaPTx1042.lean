-- Written by a program of this session (wip/tools/pp.py over the kit's printer). Lean checks it.
import Derived.Test.YtpgmeaofmlipkaaHFlat
import Derived.Test.YtpgmeaofmlipkaaHOrd
import Derived.Shelf.SlSortCmp.QuietGrown
import Derived.Lib.Hide
import Derived.Laws.Rows
import Derived.Test.YtpgmeaofmlipkaaPTx0
import Derived.Test.YtpgmeaofmlipkaaPTx1039
import Derived.Test.YtpgmeaofmlipkaaPTx3037
namespace Go.Proofs.Ytpgmeaofmlipkaa.PT
open Go.RowKit Go.Proofs.YtpgmeaofmlipkaaW.PrintWords Go.Proofs.YtpgmeaofmlipkaaW.PrintLast Go.Proofs.YtpgmeaofmlipkaaW.PrintMore
attribute [local go_sem] max2_int min2_int max_two min_two max_three min_three max_four min_four   -- for this text's walks alone
set_option linter.unusedVariables false
set_option linter.unusedSimpArgs false

attribute [local go_sem high] eqA41
--EXT Derived.Test.YtpgmeaofmlipkaaHFlat Derived.Test.YtpgmeaofmlipkaaHOrd Derived.Shelf.SlSortCmp.QuietGrown Derived.Lib.Hide Derived.Laws.Rows
open Go.Proofs.YtpgmeaofmlipkaaH
/-! ### entailref1_Less: function 42 -/
theorem grow2 (w : World) (a b : Obj) : ((w.alloc a).alloc b) = Go.Sort.grow (w.drewN 0) #[a, b] := by
 cases w
 simp only [World.alloc, World.drewN, Go.Sort.grow, Nat.add_zero]
 congr 1
theorem heap_new {w : World} {o : Obj} {i : Nat} (h : i = w.heap.size) : (w.alloc o).heap[i]? = some o := by
 rw [h]; exact heap_alloc_new w o
theorem heap_old {w : World} {o o' : Obj} {i : Nat} (h : w.heap[i]? = some o') : (w.alloc o).heap[i]? = some o' := by
 rw [heap_alloc_old _ _ (Array.getElem?_eq_some_iff.1 h).1]; exact h
theorem heap_drew {w : World} {o : Obj} {i : Nat} (h : w.heap[i]? = some o) : w.drew.heap[i]? = some o := h
theorem bytes_less : ∀ a b : List UInt8, Op.bytesLess a b = decide (Lib.compareBytes a b < 0)
 | [], [] => rfl
 | [], _ :: _ => rfl
 | _ :: _, [] => rfl
 | x :: a, y :: b => by
  simp only [Op.bytesLess, Lib.compareBytes, bytes_less a b]
  by_cases h1 : x < y
  ·simp [h1]
  ·by_cases h2 : y < x
   ·have : ¬ x = y := fun e => by subst e; exact h1 h2
    simp [h1, h2, this]
   ·have : x = y := UInt8.le_antisymm (UInt8.not_lt.1 h2) (UInt8.not_lt.1 h1)
    simp [h1, this]
theorem eqz {a b : ByteArray} (h : (!a.toList == b.toList) = false) : Lib.compareBytes a.data.toList b.data.toList = 0 := by
 rw [bytes_zero, ← Lib.toList_data, ← Lib.toList_data]
 simpa using h
theorem nez {a b : ByteArray} (h : (!a.toList == b.toList) = true) : ¬ Lib.compareBytes a.data.toList b.data.toList = 0 := by
 rw [bytes_zero, ← Lib.toList_data, ← Lib.toList_data]
 simpa using h
set_option maxHeartbeats 2000000 in
set_option maxRecDepth 100000 in
theorem six_exact (s0 s1 s2 s3 s4 s5 : ByteArray) (w : World) :
  Calls Try.prog 58 #[.agg #[.string s0, .string s1, .string s2, .string s3, .string s4, .string s5]] w fun e w' => e = .returned (.agg #[.string s0, .string s1, .string s2, .string s3, .string s4, .string s5]) ∧ w' = (w.alloc (.cells #[.string s0, .string s1, .string s2, .string s3, .string s4, .string s5] 41)).alloc (.cells #[.string s0, .string s1, .string s2, .string s3, .string s4, .string s5] 84) := by
 go_enter Try.func58, Try.ntmps58
 go_wp2
 refine bodyPost_ret (results_cell_row rfl _ _ (w.heap.size + 1) 84 #[.string s0, .string s1, .string s2, .string s3, .string s4, .string s5] (0, 0) _ rfl (heap_alloc2_new _ _ _) Try.underlying84 rfl (by kernel_rfl)) rfl ?_
 exact ⟨rfl, rfl⟩
set_option maxHeartbeats 4000000 in
set_option maxRecDepth 100000 in
theorem less_calls (x y : S41) (w : World) : Calls Try.prog 42 #[.agg #[.string x.f0.f0, .string x.f0.f1, .string x.f1, .string x.f2.f0, .string x.f2.f1, .string x.f2.f2], .agg #[.string y.f0.f0, .string y.f0.f1, .string y.f1, .string y.f2.f0, .string y.f2.f1, .string y.f2.f2]] w fun e w' => e = .returned (.bool (decide (cmpT x y < 0))) ∧ Below w.heap.size w w' := by
 obtain ⟨r, hr⟩ : ∃ r, r = decide (cmpT x y < 0) := ⟨_, rfl⟩
 rw [← hr]
 have HR := Lib.hid hr
 clear hr
 have mixed : Try.prog.follows .mixedOrders = true := by kernel_rfl
 go_enter Try.func42, Try.ntmps42
 go_wp2_with fail
 obtain ⟨W, hW⟩ : ∃ W, W = (w.alloc (.cells #[.string x.f0.f0, .string x.f0.f1, .string x.f1, .string x.f2.f0, .string x.f2.f1, .string x.f2.f2] 41)).alloc (.cells #[.string y.f0.f0, .string y.f0.f1, .string y.f1, .string y.f2.f0, .string y.f2.f1, .string y.f2.f2] 41) := ⟨_, rfl⟩
 rw [← hW]
 have hs : W.heap.size = w.heap.size + 2 := by rw [hW, World.size_alloc, World.size_alloc]
 have hB : Below w.heap.size w W := by rw [hW, grow2]; exact below_grow _ _ _
 have cx : ∀ i v, (#[.string x.f0.f0, .string x.f0.f1, .string x.f1, .string x.f2.f0, .string x.f2.f1, .string x.f2.f2] : Array Value)[i]? = some v → W.cell? ⟨w.heap.size, i, none⟩ = some v := fun i v h => by rw [hW]; exact Lib.cell?_alloc_some _ (box_new w _ i v h)
 have cy : ∀ i v, (#[.string y.f0.f0, .string y.f0.f1, .string y.f1, .string y.f2.f0, .string y.f2.f1, .string y.f2.f2] : Array Value)[i]? = some v → W.cell? ⟨w.heap.size + 1, i, none⟩ = some v := fun i v h => by
  rw [hW]
  have := box_new (w.alloc (.cells #[.string x.f0.f0, .string x.f0.f1, .string x.f1, .string x.f2.f0, .string x.f2.f1, .string x.f2.f2] 41)) #[.string y.f0.f0, .string y.f0.f1, .string y.f1, .string y.f2.f0, .string y.f2.f1, .string y.f2.f2] (t := 41) i v h
  rwa [World.size_alloc] at this
 clear hW
 obtain ⟨B, hBe⟩ : ∃ B, w.heap.size = B := ⟨_, rfl⟩
 simp only [hBe] at hs hB cx cy ⊢
 have kS : ∀ w', Below W.heap.size W w' → (w'.cell? ⟨B, 0, none⟩ = some (.string x.f0.f0) ∧ w'.cell? ⟨B, 1, none⟩ = some (.string x.f0.f1) ∧ w'.cell? ⟨B, 2, none⟩ = some (.string x.f1) ∧ w'.cell? ⟨B, 3, none⟩ = some (.string x.f2.f0) ∧ w'.cell? ⟨B, 4, none⟩ = some (.string x.f2.f1) ∧ w'.cell? ⟨B, 5, none⟩ = some (.string x.f2.f2)) ∧ (w'.cell? ⟨B + 1, 0, none⟩ = some (.string y.f0.f0) ∧ w'.cell? ⟨B + 1, 1, none⟩ = some (.string y.f0.f1) ∧ w'.cell? ⟨B + 1, 2, none⟩ = some (.string y.f1) ∧ w'.cell? ⟨B + 1, 3, none⟩ = some (.string y.f2.f0) ∧ w'.cell? ⟨B + 1, 4, none⟩ = some (.string y.f2.f1) ∧ w'.cell? ⟨B + 1, 5, none⟩ = some (.string y.f2.f2)) ∧ Below W.heap.size W w' := fun w' h => by
  have hc : ∀ b i, b < W.heap.size → w'.cell? ⟨b, i, none⟩ = W.cell? ⟨b, i, none⟩ := fun b i hb => h.cell hb
  rw [hc _ _ (by omega), hc _ _ (by omega), hc _ _ (by omega), hc _ _ (by omega), hc _ _ (by omega), hc _ _ (by omega), hc _ _ (by omega), hc _ _ (by omega), hc _ _ (by omega), hc _ _ (by omega), hc _ _ (by omega), hc _ _ (by omega)]
  exact ⟨⟨cx 0 _ rfl, cx 1 _ rfl, cx 2 _ rfl, cx 3 _ rfl, cx 4 _ rfl, cx 5 _ rfl⟩, ⟨cy 0 _ rfl, cy 1 _ rfl, cy 2 _ rfl, cy 3 _ rfl, cy 4 _ rfl, cy 5 _ rfl⟩, h⟩
 clear cx cy
 refine Code.wp_mono (Q := fun e a' w' => e = .normal ∧ ∃ p q : Nat, a' = { tmps := #[.agg #[.string x.f0.f0, .string x.f0.f1, .string x.f1, .string x.f2.f0, .string x.f2.f1, .string x.f2.f2], .agg #[.string y.f0.f0, .string y.f0.f1, .string y.f1, .string y.f2.f0, .string y.f2.f1, .string y.f2.f2], .pointer (some ⟨B, 0, none⟩), .pointer (some ⟨B + 1, 0, none⟩), .bool false, .pointer (some ⟨p, 0, none⟩), .pointer (some ⟨q, 0, none⟩), undef, .agg #[.string x.f0.f0, .string x.f0.f1, .string x.f1, .string x.f2.f0, .string x.f2.f1, .string x.f2.f2], .agg #[.string x.f0.f0, .string x.f0.f1, .string x.f1, .string x.f2.f0, .string x.f2.f1, .string x.f2.f2], .agg #[.string y.f0.f0, .string y.f0.f1, .string y.f1, .string y.f2.f0, .string y.f2.f1, .string y.f2.f2], .agg #[.string y.f0.f0, .string y.f0.f1, .string y.f1, .string y.f2.f0, .string y.f2.f1, .string y.f2.f2], undef, undef, undef, undef, undef, undef, undef, undef, undef, undef, undef, undef, undef, undef, undef, undef, undef, undef], defers := [] } ∧ w'.heap[p]? = some (.cells #[.string x.f0.f0, .string x.f0.f1, .string x.f1, .string x.f2.f0, .string x.f2.f1, .string x.f2.f2] 84) ∧ w'.heap[q]? = some (.cells #[.string y.f0.f0, .string y.f0.f1, .string y.f1, .string y.f2.f0, .string y.f2.f1, .string y.f2.f2] 84) ∧ Below W.heap.size W w') (fun e a' w' hq => ?_) ?_
 ·obtain ⟨rfl, p, q, rfl, hp, hq, hb⟩ := hq
  clear kS hs
  replace hB := Lib.hid (show Below w.heap.size w w' by rw [hBe]; exact hB.trans (hb.mono (by have := hB.size; omega)))
  clear hb
  have cell_of : ∀ (k : Nat) (cs : Array Value) (i : Nat) (v : Value), w'.heap[k]? = some (.cells cs 84) → cs[i]? = some v → w'.cell? ⟨k, i, none⟩ = some v := fun k cs i v h1 h2 => by simp [World.cell?, h1, h2]
  have a0 := cell_of p _ 0 _ hp rfl
  have a1 := cell_of p _ 1 _ hp rfl
  have a2 := cell_of p _ 2 _ hp rfl
  have a3 := cell_of p _ 3 _ hp rfl
  have a4 := cell_of p _ 4 _ hp rfl
  have a5 := cell_of p _ 5 _ hp rfl
  have b0 := cell_of q _ 0 _ hq rfl
  have b1 := cell_of q _ 1 _ hq rfl
  have b2 := cell_of q _ 2 _ hq rfl
  have b3 := cell_of q _ 3 _ hq rfl
  have b4 := cell_of q _ 4 _ hq rfl
  have b5 := cell_of q _ 5 _ hq rfl
  clear cell_of hp hq
  go_wp2
  refine wp_loop_rounds 7 ?_
  rw [rounds_succ]
  go_wp2_with fail
  go_quiet (fail)
  go_wp2
  ·have e0 := ‹(!x.f0.f0.toList == y.f0.f0.toList) = true›
   go_quiet (fail)
   go_wp2
   go_ret
   exact ⟨by
    show Ending.returned (.bool (Op.bytesLess x.f0.f0.toList y.f0.f0.toList)) = _
    rw [HR.out, bytes_less, Lib.toList_data, Lib.toList_data]
    simp only [cmpT, firstNZ, if_neg (nez e0), if_true], by repeat (first | exact hB.out | (with_reducible refine pw_below_drewN ?_ _))⟩
  have e0 := ‹(!x.f0.f0.toList == y.f0.f0.toList) = false›
  rw [rounds_succ]
  go_wp2_with fail
  go_quiet (fail)
  go_wp2
  ·have e1 := ‹(!x.f0.f1.toList == y.f0.f1.toList) = true›
   go_quiet (fail)
   go_wp2
   go_ret
   exact ⟨by
    show Ending.returned (.bool (Op.bytesLess x.f0.f1.toList y.f0.f1.toList)) = _
    rw [HR.out, bytes_less, Lib.toList_data, Lib.toList_data]
    simp only [cmpT, firstNZ, eqz e0, if_neg (nez e1), if_true], by repeat (first | exact hB.out | (with_reducible refine pw_below_drewN ?_ _))⟩
  have e1 := ‹(!x.f0.f1.toList == y.f0.f1.toList) = false›
  rw [rounds_succ]
  go_wp2_with fail
  go_quiet (fail)
  go_wp2
  ·have e2 := ‹(!x.f1.toList == y.f1.toList) = true›
   go_quiet (fail)
   go_wp2
   go_ret
   exact ⟨by
    show Ending.returned (.bool (Op.bytesLess x.f1.toList y.f1.toList)) = _
    rw [HR.out, bytes_less, Lib.toList_data, Lib.toList_data]
    simp only [cmpT, firstNZ, eqz e0, eqz e1, if_neg (nez e2), if_true], by repeat (first | exact hB.out | (with_reducible refine pw_below_drewN ?_ _))⟩
  have e2 := ‹(!x.f1.toList == y.f1.toList) = false›
  rw [rounds_succ]
  go_wp2_with fail
  go_quiet (fail)
  go_wp2
  ·have e3 := ‹(!x.f2.f0.toList == y.f2.f0.toList) = true›
   go_quiet (fail)
   go_wp2
   go_ret
   exact ⟨by
    show Ending.returned (.bool (Op.bytesLess x.f2.f0.toList y.f2.f0.toList)) = _
    rw [HR.out, bytes_less, Lib.toList_data, Lib.toList_data]
    simp only [cmpT, firstNZ, eqz e0, eqz e1, eqz e2, if_neg (nez e3), if_true], by repeat (first | exact hB.out | (with_reducible refine pw_below_drewN ?_ _))⟩
  have e3 := ‹(!x.f2.f0.toList == y.f2.f0.toList) = false›
  rw [rounds_succ]
  go_wp2_with fail
  go_quiet (fail)
  go_wp2
  ·have e4 := ‹(!x.f2.f1.toList == y.f2.f1.toList) = true›
   go_quiet (fail)
   go_wp2
   go_ret
   exact ⟨by
    show Ending.returned (.bool (Op.bytesLess x.f2.f1.toList y.f2.f1.toList)) = _
    rw [HR.out, bytes_less, Lib.toList_data, Lib.toList_data]
    simp only [cmpT, firstNZ, eqz e0, eqz e1, eqz e2, eqz e3, if_neg (nez e4), if_true], by repeat (first | exact hB.out | (with_reducible refine pw_below_drewN ?_ _))⟩
  have e4 := ‹(!x.f2.f1.toList == y.f2.f1.toList) = false›
  rw [rounds_succ]
  go_wp2_with fail
  go_quiet (fail)
  go_wp2
  ·have e5 := ‹(!x.f2.f2.toList == y.f2.f2.toList) = true›
   go_quiet (fail)
   go_wp2
   go_ret
   exact ⟨by
    show Ending.returned (.bool (Op.bytesLess x.f2.f2.toList y.f2.f2.toList)) = _
    rw [HR.out, bytes_less, Lib.toList_data, Lib.toList_data]
    simp only [cmpT, firstNZ, eqz e0, eqz e1, eqz e2, eqz e3, eqz e4, if_neg (nez e5), if_true], by repeat (first | exact hB.out | (with_reducible refine pw_below_drewN ?_ _))⟩
  have e5 := ‹(!x.f2.f2.toList == y.f2.f2.toList) = false›
  rw [rounds_succ]
  go_wp2
  go_ret
  exact ⟨by
    show Ending.returned (.bool false) = _
    rw [HR.out]
    simp only [cmpT, firstNZ, eqz e0, eqz e1, eqz e2, eqz e3, eqz e4, eqz e5, if_true]
    rfl, by repeat (first | exact hB.out | (with_reducible refine pw_below_drewN ?_ _))⟩
 have hk := Lib.hid kS
 have g := six_exact
 clear kS mixed
 have mixed : Try.prog.follows .mixedOrders = true := by kernel_rfl
 go_region_held3 (fun w' => (w'.cell? ⟨B, 0, none⟩ = some (.string x.f0.f0) ∧ w'.cell? ⟨B, 1, none⟩ = some (.string x.f0.f1) ∧ w'.cell? ⟨B, 2, none⟩ = some (.string x.f1) ∧ w'.cell? ⟨B, 3, none⟩ = some (.string x.f2.f0) ∧ w'.cell? ⟨B, 4, none⟩ = some (.string x.f2.f1) ∧ w'.cell? ⟨B, 5, none⟩ = some (.string x.f2.f2)) ∧ (w'.cell? ⟨B + 1, 0, none⟩ = some (.string y.f0.f0) ∧ w'.cell? ⟨B + 1, 1, none⟩ = some (.string y.f0.f1) ∧ w'.cell? ⟨B + 1, 2, none⟩ = some (.string y.f1) ∧ w'.cell? ⟨B + 1, 3, none⟩ = some (.string y.f2.f0) ∧ w'.cell? ⟨B + 1, 4, none⟩ = some (.string y.f2.f1) ∧ w'.cell? ⟨B + 1, 5, none⟩ = some (.string y.f2.f2)) ∧ Below W.heap.size W w') ((refine hk.out _ ?_; repeat (first | assumption | exact Below.refl _ _ | (refine below_step (W := _) ?_ (by assumption)) | apply below_alloc | apply below_drew))) ((with_reducible refine Calls.mono (g _ _ _ _ _ _ _) ?_; rintro _ w2 ⟨rfl, rfl⟩))
 all_goals (clear g hk mixed; refine ⟨rfl, _, _, rfl, ?_, ?_, Below.drew (below_alloc (below_alloc (below_alloc (below_alloc (below_alloc (below_alloc (Below.refl _ _) _) _) _) _) _) _)⟩)
 all_goals refine heap_drew ?_
 all_goals repeat (first | ((with_reducible refine heap_new ?_); (first | done | rfl | (simp only [World.size_alloc, hs]; done))) | ((with_reducible refine heap_old ?_)))
def entailref1_Less.f (a0_0 : ByteArray) (a0_1 : ByteArray) (a0_2 : ByteArray) (a0_3 : ByteArray) (a0_4 : ByteArray) (a0_5 : ByteArray) (a1_0 : ByteArray) (a1_1 : ByteArray) (a1_2 : ByteArray) (a1_3 : ByteArray) (a1_4 : ByteArray) (a1_5 : ByteArray) : Option (Bool) := some (decide (cmpT ⟨⟨a0_0, a0_1⟩, a0_2, ⟨a0_3, a0_4, a0_5⟩⟩ ⟨⟨a1_0, a1_1⟩, a1_2, ⟨a1_3, a1_4, a1_5⟩⟩ < 0))
theorem entailref1_Less.calls (a0_0 : ByteArray) (a0_1 : ByteArray) (a0_2 : ByteArray) (a0_3 : ByteArray) (a0_4 : ByteArray) (a0_5 : ByteArray) (a1_0 : ByteArray) (a1_1 : ByteArray) (a1_2 : ByteArray) (a1_3 : ByteArray) (a1_4 : ByteArray) (a1_5 : ByteArray) (r : Bool) (w : World) (h : entailref1_Less.f a0_0 a0_1 a0_2 a0_3 a0_4 a0_5 a1_0 a1_1 a1_2 a1_3 a1_4 a1_5 = some r) :
  Calls Try.prog 42 #[.agg #[.string a0_0, .string a0_1, .string a0_2, .string a0_3, .string a0_4, .string a0_5], .agg #[.string a1_0, .string a1_1, .string a1_2, .string a1_3, .string a1_4, .string a1_5]] w fun e w' => e = .returned (.bool r) ∧ Below w.heap.size w w' := by
 obtain rfl := Option.some.inj h
 exact less_calls ⟨⟨a0_0, a0_1⟩, a0_2, ⟨a0_3, a0_4, a0_5⟩⟩ ⟨⟨a1_0, a1_1⟩, a1_2, ⟨a1_3, a1_4, a1_5⟩⟩ w

end Go.Proofs.Ytpgmeaofmlipkaa.PT
