-- Written by a program of this session (wip/tools/pp.py over the kit's printer). Lean checks it.
import Derived.Test.YtpgmeaofmlipkaaLaid
import Derived.Test.YtpgmeaofmlipkaaHFlat
import Derived.Test.YtpgmeaofmlipkaaHOrd
import Derived.Test.YtpgmeaofmlipkaaHSets
import Derived.Shelf.SlSortCmp.QuietGrown
import Derived.Lib.Hide
import Derived.Test.YtpgmeaofmlipkaaPTx0
import Derived.Test.YtpgmeaofmlipkaaPTx1037
import Derived.Test.YtpgmeaofmlipkaaPTx1039
import Derived.Test.YtpgmeaofmlipkaaPTx1044
import Derived.Test.YtpgmeaofmlipkaaPTx3037
namespace Go.Proofs.Ytpgmeaofmlipkaa.PT
open Go.RowKit Go.Proofs.YtpgmeaofmlipkaaW.PrintWords Go.Proofs.YtpgmeaofmlipkaaW.PrintLast Go.Proofs.YtpgmeaofmlipkaaW.PrintMore
attribute [local go_sem] max2_int min2_int max_two min_two max_three min_three max_four min_four   -- for this text's walks alone
set_option linter.unusedVariables false
set_option linter.unusedSimpArgs false

attribute [local go_sem high] eqA41
--EXT Derived.Test.YtpgmeaofmlipkaaLaid Derived.Test.YtpgmeaofmlipkaaHFlat Derived.Test.YtpgmeaofmlipkaaHOrd Derived.Test.YtpgmeaofmlipkaaHSets Derived.Shelf.SlSortCmp.QuietGrown Derived.Lib.Hide
open Go.Proofs.YtpgmeaofmlipkaaH
/-! ### rows_Has: function 23 -/
set_option maxHeartbeats 4000000 in
set_option maxRecDepth 100000 in
theorem bsearch_none (A0 : Option Addr) (c0 : Nat) (t : S41) (w : World) :
  Calls Try.prog 44 #[.slice A0 0 c0, .agg #[.string t.f0.f0, .string t.f0.f1, .string t.f1, .string t.f2.f0, .string t.f2.f1, .string t.f2.f2], .func (.func 39) #[] #[]] w fun e w' => (∃ i : Int, e = .returned (.tuple #[.int .i64 i, .bool false])) ∧ Below w.heap.size w w' := by
 have mixed : Try.prog.follows .mixedOrders = true := by kernel_rfl
 go_enter Try.func44, Try.ntmps44
 go_wp2
 obtain ⟨w1, hw1⟩ : ∃ W, W = w.alloc (.cells #[.string t.f0.f0, .string t.f0.f1, .string t.f1, .string t.f2.f0, .string t.f2.f1, .string t.f2.f2] 41) := ⟨_, rfl⟩
 rw [← hw1]
 have HW1 := Lib.hid hw1
 clear hw1
 refine wp_loop_rounds 1 ?_
 rw [rounds_succ]
 go_wp2_with fail
 go_quiet (fail)
 go_wp2
 go_ret2
 exact ⟨⟨_, rfl⟩, by rw [HW1.out]; exact pw_below_drewN (below_alloc (Below.refl _ _) _) _⟩
def rows_Has.f (l0 : List (S41)) (a1_0 : ByteArray) (a1_1 : ByteArray) (a1_2 : ByteArray) (a1_3 : ByteArray) (a1_4 : ByteArray) (a1_5 : ByteArray) : Option (Bool) := if l0.length < 1466015503701 ∧ rises cmpT l0 = true then some (decide ((⟨⟨a1_0, a1_1⟩, a1_2, ⟨a1_3, a1_4, a1_5⟩⟩ : S41) ∈ l0)) else none
set_option maxHeartbeats 4000000 in
set_option maxRecDepth 100000 in
theorem rows_Has.calls (A0 : Option Addr) (c0 : Nat) (l0 : List (S41)) (a1_0 : ByteArray) (a1_1 : ByteArray) (a1_2 : ByteArray) (a1_3 : ByteArray) (a1_4 : ByteArray) (a1_5 : ByteArray) (r : Bool) (w : World) (hr0 : Kd.C k41 w A0 l0.length l0) (hc0 : l0.length ≤ c0) (h : rows_Has.f l0 a1_0 a1_1 a1_2 a1_3 a1_4 a1_5 = some r) :
  Calls Try.prog 23 #[.slice A0 l0.length c0, .agg #[.string a1_0, .string a1_1, .string a1_2, .string a1_3, .string a1_4, .string a1_5]] w fun e w' => e = .returned (.bool r) ∧ Below w.heap.size w w' := by
 have hq : l0.length < 1466015503701 ∧ rises cmpT l0 = true := by
  by_cases hq : l0.length < 1466015503701 ∧ rises cmpT l0 = true
  ·exact hq
  ·simp [rows_Has.f, hq] at h
 have hrr : decide ((⟨⟨a1_0, a1_1⟩, a1_2, ⟨a1_3, a1_4, a1_5⟩⟩ : S41) ∈ l0) = r := by simpa [rows_Has.f, hq] using h
 obtain ⟨hlt, hss⟩ := hq
 rw [rises_ss cmpT_tot] at hss
 clear h
 have key : ∀ W, Below w.heap.size w W → Calls Try.prog 44 #[.slice A0 l0.length c0, .agg #[.string a1_0, .string a1_1, .string a1_2, .string a1_3, .string a1_4, .string a1_5], .func (.func 39) #[] #[]] W fun e w' => (∃ i : Int, e = .returned (.tuple #[.int .i64 i, .bool r])) ∧ Below W.heap.size W w' := by
  intro W hB
  rcases Nat.eq_zero_or_pos l0.length with h0 | h0
  ·have hl : l0 = [] := List.eq_nil_of_length_eq_zero h0
   subst hl
   have : r = false := by rw [← hrr]; simp
   subst this
   exact bsearch_none A0 c0 (⟨⟨a1_0, a1_1⟩, a1_2, ⟨a1_3, a1_4, a1_5⟩⟩ : S41) W
  ·have hr1 := Kd.C_below hr0 hB
   obtain ⟨b, off, rfl, hb⟩ := C_plain flat41 (by decide) hr1 h0
   refine (bsearch b off c0 l0 (⟨⟨a1_0, a1_1⟩, a1_2, ⟨a1_3, a1_4, a1_5⟩⟩ : S41) W hb hr1 hc0 hss hlt).mono fun e w' ⟨⟨i, he⟩, n, os, hw⟩ => ⟨⟨i, by rw [he, hrr]⟩, by rw [hw]; exact below_grow _ _ _⟩
 have HK := Lib.hid key
 clear key hrr hr0 hss
 have t0 : (w.alloc (.cells #[.string a1_0, .string a1_1, .string a1_2, .string a1_3, .string a1_4, .string a1_5] 41)).cell? ⟨w.heap.size, 0, none⟩ = some (.string a1_0) := box_new w _ 0 _ rfl
 have t1 : (w.alloc (.cells #[.string a1_0, .string a1_1, .string a1_2, .string a1_3, .string a1_4, .string a1_5] 41)).cell? ⟨w.heap.size, 1, none⟩ = some (.string a1_1) := box_new w _ 1 _ rfl
 have t2 : (w.alloc (.cells #[.string a1_0, .string a1_1, .string a1_2, .string a1_3, .string a1_4, .string a1_5] 41)).cell? ⟨w.heap.size, 2, none⟩ = some (.string a1_2) := box_new w _ 2 _ rfl
 have t3 : (w.alloc (.cells #[.string a1_0, .string a1_1, .string a1_2, .string a1_3, .string a1_4, .string a1_5] 41)).cell? ⟨w.heap.size, 3, none⟩ = some (.string a1_3) := box_new w _ 3 _ rfl
 have t4 : (w.alloc (.cells #[.string a1_0, .string a1_1, .string a1_2, .string a1_3, .string a1_4, .string a1_5] 41)).cell? ⟨w.heap.size, 4, none⟩ = some (.string a1_4) := box_new w _ 4 _ rfl
 have t5 : (w.alloc (.cells #[.string a1_0, .string a1_1, .string a1_2, .string a1_3, .string a1_4, .string a1_5] 41)).cell? ⟨w.heap.size, 5, none⟩ = some (.string a1_5) := box_new w _ 5 _ rfl
 go_enter Try.func23, Try.ntmps23
 go_wp2_with fail
 refine (HK.out _ (below_alloc (Below.refl _ _) _)).mono ?_
 rintro e w' ⟨⟨i, rfl⟩, hb⟩
 go_wp2
 go_ret
 exact ⟨rfl, (below_alloc (Below.refl _ _) _).trans (hb.mono (by rw [World.size_alloc]; omega))⟩

end Go.Proofs.Ytpgmeaofmlipkaa.PT
