-- Written by a program of this session (wip/tools/pp.py over the kit's printer). Lean checks it.
import Derived.Test.YtpgmeaofmlipkaaLaid
import Derived.Test.YtpgmeaofmlipkaaHFlat
import Derived.Test.YtpgmeaofmlipkaaHOrd
import Derived.Shelf.SlSortCmp.QuietGrown
import Derived.Lib.Hide
import Derived.Test.YtpgmeaofmlipkaaPTx0
import Derived.Test.YtpgmeaofmlipkaaPTx1037
import Derived.Test.YtpgmeaofmlipkaaPTx1039
namespace Go.Proofs.Ytpgmeaofmlipkaa.PT
open Go.RowKit Go.Proofs.YtpgmeaofmlipkaaW.PrintWords Go.Proofs.YtpgmeaofmlipkaaW.PrintLast Go.Proofs.YtpgmeaofmlipkaaW.PrintMore
attribute [local go_sem] max2_int min2_int max_two min_two max_three min_three max_four min_four   -- for this text's walks alone
set_option linter.unusedVariables false
set_option linter.unusedSimpArgs false

--EXT Derived.Test.YtpgmeaofmlipkaaLaid Derived.Test.YtpgmeaofmlipkaaHFlat Derived.Test.YtpgmeaofmlipkaaHOrd Derived.Shelf.SlSortCmp.QuietGrown Derived.Lib.Hide
open Go.Proofs.YtpgmeaofmlipkaaH
/-! ### bsearch: function 44 -/
set_option maxHeartbeats 8000000 in
set_option maxRecDepth 100000 in
theorem bsearch (b off c0 : Nat) (l0 : List (S41)) (t : S41) (w : World) (hbw : b < w.heap.size) (hr0 : Kd.C k41 w (some ⟨b, off, none⟩) l0.length l0) (hc0 : l0.length ≤ c0) (hs : SS cmpT l0) (hsz : l0.length < 1466015503701) :
  Calls Try.prog 44 #[.slice (some ⟨b, off, none⟩) l0.length c0, .agg #[.string t.f0.f0, .string t.f0.f1, .string t.f1, .string t.f2.f0, .string t.f2.f1, .string t.f2.f2], .func (.func 39) #[] #[]] w fun e w' => (∃ i : Int, e = .returned (.tuple #[.int .i64 i, .bool (decide (t ∈ l0))])) ∧ ∃ n os, w' = Go.Sort.grow (w.drewN n) os := by
 have eg : ∀ args w, (callFunc 39 args).run Try.prog w = .ok (.enter 39 args) w := enters_of Try.func39 (by kernel_rfl) rfl
 have hcells := C_cells flat41 (by decide) hr0 _ rfl
 have hlen := cells_len flat41 l0
 obtain ⟨w1, hw1⟩ : ∃ W, W = w.alloc (.cells #[.string t.f0.f0, .string t.f0.f1, .string t.f1, .string t.f2.f0, .string t.f2.f1, .string t.f2.f2] 41) := ⟨_, rfl⟩
 have hb1 : w.heap.size < w1.heap.size := by rw [hw1, World.size_alloc]; omega
 have htg : ∀ n os, w.heap.size < (Go.Sort.grow (w1.drewN n) os).heap.size := fun n os => by
  show w.heap.size < (w1.heap ++ os).size
  rw [Array.size_append]; omega
 have hbg : ∀ n os, b < (Go.Sort.grow (w1.drewN n) os).heap.size := fun n os => by
  show b < (w1.heap ++ os).size
  rw [Array.size_append]; omega
 have t0 : ∀ n os, (Go.Sort.grow (w1.drewN n) os).cell? ⟨w.heap.size, 0, none⟩ = some (.string t.f0.f0) := fun n os => cell_grown hb1 (by rw [hw1]; exact box_new w _ 0 _ rfl) n os
 have t1 : ∀ n os, (Go.Sort.grow (w1.drewN n) os).cell? ⟨w.heap.size, 1, none⟩ = some (.string t.f0.f1) := fun n os => cell_grown hb1 (by rw [hw1]; exact box_new w _ 1 _ rfl) n os
 have t2 : ∀ n os, (Go.Sort.grow (w1.drewN n) os).cell? ⟨w.heap.size, 2, none⟩ = some (.string t.f1) := fun n os => cell_grown hb1 (by rw [hw1]; exact box_new w _ 2 _ rfl) n os
 have t3 : ∀ n os, (Go.Sort.grow (w1.drewN n) os).cell? ⟨w.heap.size, 3, none⟩ = some (.string t.f2.f0) := fun n os => cell_grown hb1 (by rw [hw1]; exact box_new w _ 3 _ rfl) n os
 have t4 : ∀ n os, (Go.Sort.grow (w1.drewN n) os).cell? ⟨w.heap.size, 4, none⟩ = some (.string t.f2.f1) := fun n os => cell_grown hb1 (by rw [hw1]; exact box_new w _ 4 _ rfl) n os
 have t5 : ∀ n os, (Go.Sort.grow (w1.drewN n) os).cell? ⟨w.heap.size, 5, none⟩ = some (.string t.f2.f2) := fun n os => cell_grown hb1 (by rw [hw1]; exact box_new w _ 5 _ rfl) n os
 have hx : ∀ n os (j : Nat), j < l0.length → ∀ (i : Nat) (v : Value), (enc41 (l0[j]!))[i]? = some v → (Go.Sort.grow (w1.drewN n) os).cell? ⟨b, off + j * 6 + i, none⟩ = some v := fun n os j hj i v hv => by
  have hj2 : l0[j]? = some l0[j]! := by rw [getElem!_pos l0 j hj]; exact List.getElem?_eq_getElem hj
  have hi : i < 6 := by have := (List.getElem?_eq_some_iff.1 hv).1; simpa [enc41] using this
  have hcc := cells_get flat41 l0 j i _ hj2 hi
  have h1 := hcells (j * 6 + i) v (by rw [show k41.sz = 6 from rfl] at hcc; rw [hcc]; exact hv)
  rw [Addr.add_lit] at h1
  refine cell_grown (show b < w1.heap.size by omega) ?_ n os
  rw [hw1]
  rw [← Nat.add_assoc] at h1
  exact Lib.cell?_alloc_some _ h1
 have HX := Lib.hid hx
 have HS := Lib.hid hs
 have HW1 := Lib.hid hw1
 clear hx hr0 hcells hlen hs
 go_enter Try.func44, Try.ntmps44
 go_wp2
 rw [← HW1.out]
 clear hw1
 have hst : ∃ n os, w1 = Go.Sort.grow (w1.drewN n) os := ⟨0, #[], by rw [Go.Sort.grow_empty]; rfl⟩
 have HST := Lib.hid hst
 clear hst
 go_loopg [9, 10] l0.length (fun kx s9 s10 wr => ∃ lo hi n : Nat, ∃ os : Array Obj, s9 = .int .i64 lo ∧ s10 = .int .i64 hi ∧ lo ≤ hi ∧ hi ≤ l0.length ∧ hi - lo ≤ kx ∧ Aside0 (wr = Go.Sort.grow (w1.drewN n) os) ∧
  Aside0 ((∀ j, j < lo → cmpT l0[j]! t < 0) ∧ (∀ j, hi ≤ j → j < l0.length → 0 ≤ cmpT l0[j]! t)))
 case atStart =>
  obtain ⟨n, os, e⟩ := HST.out
  exact ⟨0, l0.length, n, os, rfl, rfl, Nat.zero_le _, Nat.le_refl _, by omega, ⟨e⟩, ⟨fun j hj => absurd hj (Nat.not_lt_zero _), fun j h1 h2 => by omega⟩⟩
 case round =>
  obtain ⟨lo, hi, n, os, rfl, rfl, hlh, hin, hg, hwr, I⟩ := hrel
  have hwr' := hwr.out
  subst hwr'
  clear hwr
  by_cases hlt : lo < hi
  ·obtain ⟨mid, m1, m2⟩ : ∃ m, 2 * m ≤ lo + hi ∧ lo + hi < 2 * m + 2 := ⟨(lo + hi) / 2, by omega, by omega⟩
   have b1 : mid < l0.length := by omega
   have b2 : (mid : Int) < (l0.length : Int) := by omega
   obtain ⟨y, hy⟩ : ∃ y, l0[mid]! = y := ⟨_, rfl⟩
   obtain ⟨wq, hwq⟩ : ∃ W, W = Go.Sort.grow (w1.drewN n) os := ⟨_, rfl⟩
   have e0 : ∀ m os', (Go.Sort.grow (wq.drewN m) os').cell? ⟨b, off + mid * 6, none⟩ = some (.string y.f0.f0) := fun m os' => by rw [hwq]; exact cell_grown (by exact hbg n os) (HX.out n os (mid) (by omega) 0 _ (by rw [hy]; rfl)) m os'
   have e1 : ∀ m os', (Go.Sort.grow (wq.drewN m) os').cell? ⟨b, off + mid * 6 + 1, none⟩ = some (.string y.f0.f1) := fun m os' => by rw [hwq]; exact cell_grown (by exact hbg n os) (HX.out n os (mid) (by omega) 1 _ (by rw [hy]; rfl)) m os'
   have e2 : ∀ m os', (Go.Sort.grow (wq.drewN m) os').cell? ⟨b, off + mid * 6 + 2, none⟩ = some (.string y.f1) := fun m os' => by rw [hwq]; exact cell_grown (by exact hbg n os) (HX.out n os (mid) (by omega) 2 _ (by rw [hy]; rfl)) m os'
   have e3 : ∀ m os', (Go.Sort.grow (wq.drewN m) os').cell? ⟨b, off + mid * 6 + 3, none⟩ = some (.string y.f2.f0) := fun m os' => by rw [hwq]; exact cell_grown (by exact hbg n os) (HX.out n os (mid) (by omega) 3 _ (by rw [hy]; rfl)) m os'
   have e4 : ∀ m os', (Go.Sort.grow (wq.drewN m) os').cell? ⟨b, off + mid * 6 + 4, none⟩ = some (.string y.f2.f1) := fun m os' => by rw [hwq]; exact cell_grown (by exact hbg n os) (HX.out n os (mid) (by omega) 4 _ (by rw [hy]; rfl)) m os'
   have e5 : ∀ m os', (Go.Sort.grow (wq.drewN m) os').cell? ⟨b, off + mid * 6 + 5, none⟩ = some (.string y.f2.f2) := fun m os' => by rw [hwq]; exact cell_grown (by exact hbg n os) (HX.out n os (mid) (by omega) 5 _ (by rw [hy]; rfl)) m os'
   have s0 : ∀ m os', (Go.Sort.grow (wq.drewN m) os').cell? ⟨w.heap.size, 0, none⟩ = some (.string t.f0.f0) := fun m os' => by rw [hwq]; exact cell_grown (by exact htg n os) (t0 n os) m os'
   have s1 : ∀ m os', (Go.Sort.grow (wq.drewN m) os').cell? ⟨w.heap.size, 1, none⟩ = some (.string t.f0.f1) := fun m os' => by rw [hwq]; exact cell_grown (by exact htg n os) (t1 n os) m os'
   have s2 : ∀ m os', (Go.Sort.grow (wq.drewN m) os').cell? ⟨w.heap.size, 2, none⟩ = some (.string t.f1) := fun m os' => by rw [hwq]; exact cell_grown (by exact htg n os) (t2 n os) m os'
   have s3 : ∀ m os', (Go.Sort.grow (wq.drewN m) os').cell? ⟨w.heap.size, 3, none⟩ = some (.string t.f2.f0) := fun m os' => by rw [hwq]; exact cell_grown (by exact htg n os) (t3 n os) m os'
   have s4 : ∀ m os', (Go.Sort.grow (wq.drewN m) os').cell? ⟨w.heap.size, 4, none⟩ = some (.string t.f2.f1) := fun m os' => by rw [hwq]; exact cell_grown (by exact htg n os) (t4 n os) m os'
   have s5 : ∀ m os', (Go.Sort.grow (wq.drewN m) os').cell? ⟨w.heap.size, 5, none⟩ = some (.string t.f2.f2) := fun m os' => by rw [hwq]; exact cell_grown (by exact htg n os) (t5 n os) m os'
   rw [← hwq]
   have Y := Lib.hid hy
   have WQ := Lib.hid hwq
   clear hy hwq t0 t1 t2 t3 t4 t5 htg hbg
   have hc : ∀ W, Calls Try.prog 39 #[.agg #[.string y.f0.f0, .string y.f0.f1, .string y.f1, .string y.f2.f0, .string y.f2.f1, .string y.f2.f2], .agg #[.string t.f0.f0, .string t.f0.f1, .string t.f1, .string t.f2.f0, .string t.f2.f1, .string t.f2.f2]] W (fun e w' => e = .returned (.int .i64 (cmpT y t)) ∧ ∃ q os', w' = Go.Sort.grow (W.drewN q) os') := fun W => compare_exact y t W
   obtain ⟨r, hr⟩ : ∃ r, cmpT y t = r := ⟨_, rfl⟩
   rw [hr] at hc
   have R := Lib.hid hr
   clear hr
   have mixed : Try.prog.follows .mixedOrders = true := by kernel_rfl
   have hworld : ∀ nq osq, Aside0 (Go.Sort.grow (wq.drewN nq) osq = Go.Sort.grow (w1.drewN (n + nq)) (os ++ osq)) := fun nq osq => ⟨by
    rw [WQ.out]
    show Go.Sort.grow (Go.Sort.grow ((w1.drewN n).drewN nq) os) osq = _
    rw [Go.Sort.grow_grow, World.drewN_drewN]⟩
   by_cases hneg : r < 0
   ·have hd : decide (r < 0) = true := decide_eq_true hneg
    go_wp2_with fail
    rw [show ((lo : Int) + (hi : Int)) / 2 = (mid : Int) by omega]
    go_quiet_grown ((go_at_call 39; exact Calls.grown_of (hc _)))
    go_wp2
    go_roundg (hi - (mid + 1))
    case measure => omega
    case rel =>
     refine ⟨mid + 1, hi, n + nq, os ++ osq, by go_num, rfl, by omega, hin, Nat.le_refl _, hworld nq osq, ⟨fun j hj => ?_, I.out.2⟩⟩
     by_cases e : j = mid
     ·rw [e, Y.out, R.out]; exact hneg
     ·have h1 := List.pairwise_iff_getElem.1 HS.out j mid (by omega) (by omega) (by omega)
      rw [getElem!_pos l0 j (by omega)]
      have h2 := Y.out
      rw [getElem!_pos l0 mid (by omega)] at h2
      rw [h2] at h1
      exact cmpT_tot.lt_lt h1 (by rw [R.out]; exact hneg)
   ·have hd : decide (r < 0) = false := decide_eq_false hneg
    go_wp2_with fail
    rw [show ((lo : Int) + (hi : Int)) / 2 = (mid : Int) by omega]
    go_quiet_grown ((go_at_call 39; exact Calls.grown_of (hc _)))
    go_wp2
    go_roundg (mid - lo)
    case measure => omega
    case rel =>
     refine ⟨lo, mid, n + nq, os ++ osq, rfl, rfl, by omega, by omega, Nat.le_refl _, hworld nq osq, ⟨I.out.1, fun j hj hjn => ?_⟩⟩
     by_cases e : j = mid
     ·rw [e, Y.out, R.out]; omega
     ·have h1 := List.pairwise_iff_getElem.1 HS.out mid j (by omega) (by omega) (by omega)
      rw [getElem!_pos l0 j (by omega)]
      have h2 := Y.out
      rw [getElem!_pos l0 mid (by omega)] at h2
      rw [h2] at h1
      have h3 : 0 ≤ cmpT y t := by rw [R.out]; omega
      have h4 := cmpT_tot.anti l0[j] t
      have h5 := cmpT_tot.anti y t
      by_cases h6 : cmpT l0[j] t < 0
      ·have := cmpT_tot.lt_lt h1 h6; omega
      ·omega
  ·obtain rfl : hi = lo := by omega
   by_cases hn : hi < l0.length
   ·have b1 : hi < l0.length := hn
    have b2 : (hi : Int) < (l0.length : Int) := by omega
    have hd1 : decide ((hi : Int) < (l0.length : Int)) = true := decide_eq_true b2
    have hd2 : decide (hi < l0.length) = true := decide_eq_true hn
    obtain ⟨y, hy⟩ : ∃ y, l0[hi]! = y := ⟨_, rfl⟩
    obtain ⟨wq, hwq⟩ : ∃ W, W = Go.Sort.grow (w1.drewN n) os := ⟨_, rfl⟩
    have e0 : ∀ m os', (Go.Sort.grow (wq.drewN m) os').cell? ⟨b, off + hi * 6, none⟩ = some (.string y.f0.f0) := fun m os' => by rw [hwq]; exact cell_grown (by exact hbg n os) (HX.out n os (hi) hn 0 _ (by rw [hy]; rfl)) m os'
    have e1 : ∀ m os', (Go.Sort.grow (wq.drewN m) os').cell? ⟨b, off + hi * 6 + 1, none⟩ = some (.string y.f0.f1) := fun m os' => by rw [hwq]; exact cell_grown (by exact hbg n os) (HX.out n os (hi) hn 1 _ (by rw [hy]; rfl)) m os'
    have e2 : ∀ m os', (Go.Sort.grow (wq.drewN m) os').cell? ⟨b, off + hi * 6 + 2, none⟩ = some (.string y.f1) := fun m os' => by rw [hwq]; exact cell_grown (by exact hbg n os) (HX.out n os (hi) hn 2 _ (by rw [hy]; rfl)) m os'
    have e3 : ∀ m os', (Go.Sort.grow (wq.drewN m) os').cell? ⟨b, off + hi * 6 + 3, none⟩ = some (.string y.f2.f0) := fun m os' => by rw [hwq]; exact cell_grown (by exact hbg n os) (HX.out n os (hi) hn 3 _ (by rw [hy]; rfl)) m os'
    have e4 : ∀ m os', (Go.Sort.grow (wq.drewN m) os').cell? ⟨b, off + hi * 6 + 4, none⟩ = some (.string y.f2.f1) := fun m os' => by rw [hwq]; exact cell_grown (by exact hbg n os) (HX.out n os (hi) hn 4 _ (by rw [hy]; rfl)) m os'
    have e5 : ∀ m os', (Go.Sort.grow (wq.drewN m) os').cell? ⟨b, off + hi * 6 + 5, none⟩ = some (.string y.f2.f2) := fun m os' => by rw [hwq]; exact cell_grown (by exact hbg n os) (HX.out n os (hi) hn 5 _ (by rw [hy]; rfl)) m os'
    have s0 : ∀ m os', (Go.Sort.grow (wq.drewN m) os').cell? ⟨w.heap.size, 0, none⟩ = some (.string t.f0.f0) := fun m os' => by rw [hwq]; exact cell_grown (by exact htg n os) (t0 n os) m os'
    have s1 : ∀ m os', (Go.Sort.grow (wq.drewN m) os').cell? ⟨w.heap.size, 1, none⟩ = some (.string t.f0.f1) := fun m os' => by rw [hwq]; exact cell_grown (by exact htg n os) (t1 n os) m os'
    have s2 : ∀ m os', (Go.Sort.grow (wq.drewN m) os').cell? ⟨w.heap.size, 2, none⟩ = some (.string t.f1) := fun m os' => by rw [hwq]; exact cell_grown (by exact htg n os) (t2 n os) m os'
    have s3 : ∀ m os', (Go.Sort.grow (wq.drewN m) os').cell? ⟨w.heap.size, 3, none⟩ = some (.string t.f2.f0) := fun m os' => by rw [hwq]; exact cell_grown (by exact htg n os) (t3 n os) m os'
    have s4 : ∀ m os', (Go.Sort.grow (wq.drewN m) os').cell? ⟨w.heap.size, 4, none⟩ = some (.string t.f2.f1) := fun m os' => by rw [hwq]; exact cell_grown (by exact htg n os) (t4 n os) m os'
    have s5 : ∀ m os', (Go.Sort.grow (wq.drewN m) os').cell? ⟨w.heap.size, 5, none⟩ = some (.string t.f2.f2) := fun m os' => by rw [hwq]; exact cell_grown (by exact htg n os) (t5 n os) m os'
    rw [← hwq]
    have Y := Lib.hid hy
    have WQ := Lib.hid hwq
    clear hy hwq t0 t1 t2 t3 t4 t5 htg hbg
    have hc : ∀ W, Calls Try.prog 39 #[.agg #[.string y.f0.f0, .string y.f0.f1, .string y.f1, .string y.f2.f0, .string y.f2.f1, .string y.f2.f2], .agg #[.string t.f0.f0, .string t.f0.f1, .string t.f1, .string t.f2.f0, .string t.f2.f1, .string t.f2.f2]] W (fun e w' => e = .returned (.int .i64 (cmpT y t)) ∧ ∃ q os', w' = Go.Sort.grow (W.drewN q) os') := fun W => compare_exact y t W
    obtain ⟨r, hr⟩ : ∃ r, cmpT y t = r := ⟨_, rfl⟩
    rw [hr] at hc
    have R := Lib.hid hr
    clear hr
    have mixed : Try.prog.follows .mixedOrders = true := by kernel_rfl

    have hworld : ∀ nq osq, Aside0 (∃ n os, Go.Sort.grow (wq.drewN nq) osq = Go.Sort.grow (w.drewN n) os) := fun nq osq => ⟨by
     rw [WQ.out, HW1.out]
     refine ⟨n + nq, #[.cells #[.string t.f0.f0, .string t.f0.f1, .string t.f1, .string t.f2.f0, .string t.f2.f1, .string t.f2.f2] 41] ++ (os ++ osq), ?_⟩
     show Go.Sort.grow (Go.Sort.grow (((w.alloc _).drewN n).drewN nq) os) osq = _
     rw [Go.Sort.grow_grow, World.drewN_drewN, Go.Sort.alloc_eq_grow]
     show Go.Sort.grow (Go.Sort.grow (w.drewN (n + nq)) _) _ = _
     rw [Go.Sort.grow_grow]⟩
    have hmem : Aside0 (decide (r = 0) = decide (t ∈ l0)) := ⟨by
     have h2 := Y.out
     rw [getElem!_pos l0 hi hn] at h2
     rw [Bool.eq_iff_iff, decide_eq_true_eq, decide_eq_true_eq, ← R.out, cmpT_tot.zero]
     constructor
     ·intro e; rw [← e, ← h2]; exact List.getElem_mem _
     ·intro ht
      obtain ⟨j, hj, e⟩ := List.getElem_of_mem ht
      rcases Nat.lt_trichotomy j hi with h | h | h
      ·have := I.out.1 j h
       rw [getElem!_pos l0 j hj, e, cmpT_tot.refl] at this; omega
      ·subst h; rw [← h2, e]
      ·have h1 := List.pairwise_iff_getElem.1 HS.out hi j (by omega) (by omega) h
       have h3 := I.out.2 hi (Nat.le_refl _) hn
       rw [getElem!_pos l0 hi hn] at h3
       rw [e] at h1
       omega⟩
    by_cases h0 : r = 0
    ·have hz : (r == 0) = true := by simpa using h0
     have hb : decide (t ∈ l0) = true := by rw [← hmem.out]; simpa using h0
     have HB := Lib.hid hb
     clear hb
     go_wp2_with fail
     go_quiet_grown ((go_at_call 39; exact Calls.grown_of (hc _)))
     go_wp2
     go_ret2
     exact ⟨⟨_, by rw [HB.out]; rfl⟩, (hworld nq osq).out⟩
    ·have hz : (r == 0) = false := by simpa using h0
     have hb : decide (t ∈ l0) = false := by rw [← hmem.out]; simpa using h0
     have HB := Lib.hid hb
     clear hb
     go_wp2_with fail
     go_quiet_grown ((go_at_call 39; exact Calls.grown_of (hc _)))
     go_wp2
     go_ret2
     exact ⟨⟨_, by rw [HB.out]; rfl⟩, (hworld nq osq).out⟩
   ·obtain rfl : hi = l0.length := by omega
    have hb : decide (t ∈ l0) = false := by
     rw [decide_eq_false_iff_not]
     intro ht
     obtain ⟨j, hj, e⟩ := List.getElem_of_mem ht
     have := I.out.1 j hj
     rw [getElem!_pos l0 j hj, e, cmpT_tot.refl] at this
     omega
    have HB := Lib.hid hb
    clear hb
    have b2 : decide (((l0.length : Nat) : Int) < (l0.length : Int)) = false := by simp
    have b3 : decide (l0.length < l0.length) = false := by simp
    obtain ⟨wq, hwq⟩ : ∃ W, W = Go.Sort.grow (w1.drewN n) os := ⟨_, rfl⟩
    rw [← hwq]
    have WQ := Lib.hid hwq
    clear hwq t0 t1 t2 t3 t4 t5 htg hbg
    have mixed : Try.prog.follows .mixedOrders = true := by kernel_rfl
    go_wp2_with fail
    go_quiet_grown (fail)
    go_wp2
    go_ret2
    refine ⟨⟨_, by rw [HB.out]; rfl⟩, ?_⟩
    rw [WQ.out, HW1.out]
    refine ⟨n + nq, #[.cells #[.string t.f0.f0, .string t.f0.f1, .string t.f1, .string t.f2.f0, .string t.f2.f1, .string t.f2.f2] 41] ++ (os ++ osq), ?_⟩
    show Go.Sort.grow (Go.Sort.grow (((w.alloc _).drewN n).drewN nq) os) osq = _
    rw [Go.Sort.grow_grow, World.drewN_drewN, Go.Sort.alloc_eq_grow]
    show Go.Sort.grow (Go.Sort.grow (w.drewN (n + nq)) _) _ = _
    rw [Go.Sort.grow_grow]

end Go.Proofs.Ytpgmeaofmlipkaa.PT
