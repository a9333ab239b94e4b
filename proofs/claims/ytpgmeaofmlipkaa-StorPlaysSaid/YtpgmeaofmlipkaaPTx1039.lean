-- Written by a program of this session (wip/tools/pp.py over the kit's printer). Lean checks it.
import Derived.Test.YtpgmeaofmlipkaaLaid
import Derived.Test.YtpgmeaofmlipkaaHFlat
import Derived.Test.YtpgmeaofmlipkaaHOrd
import Derived.Test.YtpgmeaofmlipkaaPTx0
import Derived.Test.YtpgmeaofmlipkaaPTx1037
import Derived.Test.YtpgmeaofmlipkaaPTx1056
import Derived.Test.YtpgmeaofmlipkaaPTx3037
namespace Go.Proofs.Ytpgmeaofmlipkaa.PT
open Go.RowKit Go.Proofs.YtpgmeaofmlipkaaW.PrintWords Go.Proofs.YtpgmeaofmlipkaaW.PrintLast Go.Proofs.YtpgmeaofmlipkaaW.PrintMore
attribute [local go_sem] max2_int min2_int max_two min_two max_three min_three max_four min_four   -- for this text's walks alone
set_option linter.unusedVariables false
set_option linter.unusedSimpArgs false

attribute [local go_sem high] eqA41
--EXT Derived.Test.YtpgmeaofmlipkaaLaid Derived.Test.YtpgmeaofmlipkaaHFlat Derived.Test.YtpgmeaofmlipkaaHOrd
open Go.Proofs.YtpgmeaofmlipkaaH
/-! ### tupl_Compare: function 39 -/
theorem cmp_Or_first (l : List Int) (hl : l.length < 9223372036854775807) (d : Nat) : ∀ (k i : Nat), i ≤ l.length → l.length - i = d → d < k →
  cmp_Or_int.l0 k 0 l (l.length : Int) (i : Int) = some (firstNZ (l.drop i)) := by
 induction d with
 | zero =>
  intro k i hi hd hk
  obtain ⟨k, rfl⟩ : ∃ m, k = m + 1 := ⟨k - 1, by omega⟩
  simp only [cmp_Or_int.l0]
  rw [if_neg (by omega), List.drop_eq_nil_of_le (by omega)]
  rfl
 | succ d ih =>
  intro k i hi hd hk
  obtain ⟨k, rfl⟩ : ∃ m, k = m + 1 := ⟨k - 1, by omega⟩
  have hlt : i < l.length := by omega
  have hr : rd l (i : Int) = l[i] := by simp [rd, hlt]
  have hw : wrap64 ((i : Int) + 1) = ((i + 1 : Nat) : Int) := by unfold wrap64; omega
  simp only [cmp_Or_int.l0]
  rw [if_pos (by omega), if_pos (by omega), if_pos (by omega), hr, hw, List.drop_eq_getElem_cons hlt]
  by_cases h0 : l[i] = 0
  ·rw [if_pos h0, ih k (i + 1) (by omega) (by omega) (by omega)]
   simp [firstNZ, h0]
  ·rw [if_neg h0]
   simp [firstNZ, h0]
theorem cmp_Or_eq (l : List Int) (hl : l.length < 9223372036854775807) : cmp_Or_int.f (l.length + 1) l = some (firstNZ l) := by
 have := cmp_Or_first l hl l.length (l.length + 1) 0 (by omega) (by omega) (by omega)
 simpa [cmp_Or_int.f] using this

theorem box2_a (w : World) (A B : Array Value) {t u : TypeId} (i : Nat) (v : Value) (h : A[i]? = some v) : (((w.alloc (.cells A t)).alloc (.cells B u)).drew).cell? ⟨w.heap.size, i, none⟩ = some v :=
 Lib.cell?_alloc_some _ (box_new w A i v h)
theorem box2_b (w : World) (A B : Array Value) {t u : TypeId} (i : Nat) (v : Value) (h : B[i]? = some v) : (((w.alloc (.cells A t)).alloc (.cells B u)).drew).cell? ⟨w.heap.size + 1, i, none⟩ = some v := by
 have := box_new (w.alloc (.cells A t)) B (t := u) i v h
 rwa [World.size_alloc] at this
/-- How two tuples stand to each other. -/
def cmpT (x y : S41) : Int := firstNZ [Lib.compareBytes x.f0.f0.data.toList y.f0.f0.data.toList, Lib.compareBytes x.f0.f1.data.toList y.f0.f1.data.toList, Lib.compareBytes x.f1.data.toList y.f1.data.toList, Lib.compareBytes x.f2.f0.data.toList y.f2.f0.data.toList, Lib.compareBytes x.f2.f1.data.toList y.f2.f1.data.toList, Lib.compareBytes x.f2.f2.data.toList y.f2.f2.data.toList]

set_option maxHeartbeats 2000000 in
set_option maxRecDepth 100000 in
theorem compare_exact (x y : S41) (w : World) :
  Calls Try.prog 39 #[.agg (enc41 x).toArray, .agg (enc41 y).toArray] w fun e w' => e = .returned (.int .i64 (cmpT x y)) ∧ ∃ q os', w' = Go.Sort.grow (w.drewN q) os' := by
 have h57 := fun (a b : ByteArray) (W : World) => Try.strings_Compare a b W
 have hf := cmp_Or_eq [Lib.compareBytes x.f0.f0.data.toList y.f0.f0.data.toList, Lib.compareBytes x.f0.f1.data.toList y.f0.f1.data.toList, Lib.compareBytes x.f1.data.toList y.f1.data.toList, Lib.compareBytes x.f2.f0.data.toList y.f2.f0.data.toList, Lib.compareBytes x.f2.f1.data.toList y.f2.f1.data.toList, Lib.compareBytes x.f2.f2.data.toList y.f2.f2.data.toList] (by simp)
 have hc : cmpT x y = firstNZ [Lib.compareBytes x.f0.f0.data.toList y.f0.f0.data.toList, Lib.compareBytes x.f0.f1.data.toList y.f0.f1.data.toList, Lib.compareBytes x.f1.data.toList y.f1.data.toList, Lib.compareBytes x.f2.f0.data.toList y.f2.f0.data.toList, Lib.compareBytes x.f2.f1.data.toList y.f2.f1.data.toList, Lib.compareBytes x.f2.f2.data.toList y.f2.f2.data.toList] := rfl
 rw [← hc] at hf
 generalize cmpT x y = r at hf ⊢
 clear hc
 generalize hc0 : Lib.compareBytes x.f0.f0.data.toList y.f0.f0.data.toList = r0 at hf
 generalize hc1 : Lib.compareBytes x.f0.f1.data.toList y.f0.f1.data.toList = r1 at hf
 generalize hc2 : Lib.compareBytes x.f1.data.toList y.f1.data.toList = r2 at hf
 generalize hc3 : Lib.compareBytes x.f2.f0.data.toList y.f2.f0.data.toList = r3 at hf
 generalize hc4 : Lib.compareBytes x.f2.f1.data.toList y.f2.f1.data.toList = r4 at hf
 generalize hc5 : Lib.compareBytes x.f2.f2.data.toList y.f2.f2.data.toList = r5 at hf
 have g0 := fun W => (h57 x.f0.f0 y.f0.f0 W)
 have g1 := fun W => (h57 x.f0.f1 y.f0.f1 W)
 have g2 := fun W => (h57 x.f1 y.f1 W)
 have g3 := fun W => (h57 x.f2.f0 y.f2.f0 W)
 have g4 := fun W => (h57 x.f2.f1 y.f2.f1 W)
 have g5 := fun W => (h57 x.f2.f2 y.f2.f2 W)
 rw [hc0] at g0; rw [hc1] at g1; rw [hc2] at g2; rw [hc3] at g3; rw [hc4] at g4; rw [hc5] at g5
 clear hc0 hc1 hc2 hc3 hc4 hc5 h57
 have HF := Aside0.mk hf
 clear hf
 show Calls Try.prog 39 #[.agg #[.string x.f0.f0, .string x.f0.f1, .string x.f1, .string x.f2.f0, .string x.f2.f1, .string x.f2.f2], .agg #[.string y.f0.f0, .string y.f0.f1, .string y.f1, .string y.f2.f0, .string y.f2.f1, .string y.f2.f2]] w _
 go_enter Try.func39, Try.ntmps39
 go_wp2_with fail
 refine still_tail_named 40 (by kernel_rfl) (by kernel_rfl) ?_
 intro W1 hW1
 have c00 : W1.cell? ⟨w.heap.size, 0, none⟩ = some (.string x.f0.f0) := by rw [hW1]; exact box2_a w _ _ 0 _ rfl
 have c01 : W1.cell? ⟨w.heap.size, 1, none⟩ = some (.string x.f0.f1) := by rw [hW1]; exact box2_a w _ _ 1 _ rfl
 have c02 : W1.cell? ⟨w.heap.size, 2, none⟩ = some (.string x.f1) := by rw [hW1]; exact box2_a w _ _ 2 _ rfl
 have c03 : W1.cell? ⟨w.heap.size, 3, none⟩ = some (.string x.f2.f0) := by rw [hW1]; exact box2_a w _ _ 3 _ rfl
 have c04 : W1.cell? ⟨w.heap.size, 4, none⟩ = some (.string x.f2.f1) := by rw [hW1]; exact box2_a w _ _ 4 _ rfl
 have c05 : W1.cell? ⟨w.heap.size, 5, none⟩ = some (.string x.f2.f2) := by rw [hW1]; exact box2_a w _ _ 5 _ rfl
 have c10 : W1.cell? ⟨w.heap.size + 1, 0, none⟩ = some (.string y.f0.f0) := by rw [hW1]; exact box2_b w _ _ 0 _ rfl
 have c11 : W1.cell? ⟨w.heap.size + 1, 1, none⟩ = some (.string y.f0.f1) := by rw [hW1]; exact box2_b w _ _ 1 _ rfl
 have c12 : W1.cell? ⟨w.heap.size + 1, 2, none⟩ = some (.string y.f1) := by rw [hW1]; exact box2_b w _ _ 2 _ rfl
 have c13 : W1.cell? ⟨w.heap.size + 1, 3, none⟩ = some (.string y.f2.f0) := by rw [hW1]; exact box2_b w _ _ 3 _ rfl
 have c14 : W1.cell? ⟨w.heap.size + 1, 4, none⟩ = some (.string y.f2.f1) := by rw [hW1]; exact box2_b w _ _ 4 _ rfl
 have c15 : W1.cell? ⟨w.heap.size + 1, 5, none⟩ = some (.string y.f2.f2) := by rw [hW1]; exact box2_b w _ _ 5 _ rfl
 have HW := Aside0.mk hW1
 clear hW1
 simp only [List.take_succ_cons, List.take_zero, List.drop_succ_cons, List.drop_zero]
 repeat (first | still_step | still_call (g0 _) | still_call (g1 _) | still_call (g2 _) | still_call (g3 _) | still_call (g4 _) | still_call (g5 _))
 refine wpStill_nil ?_
 clear c00 c01 c02 c03 c04 c05 c10 c11 c12 c13 c14 c15 g0 g1 g2 g3 g4 g5
 have hor : ∀ W, Kd.C (Kd.int .i64) W (some ⟨W1.heap.size, 0, none⟩) 6 [r0, r1, r2, r3, r4, r5] → Calls Try.prog 56 #[.slice (some ⟨W1.heap.size, 0, none⟩) 6 6] W fun e w' => e = .returned (.int .i64 r) ∧ Drawn0 W w' :=
  fun W hC => cmp_Or_int.calls _ _ 6 [r0, r1, r2, r3, r4, r5] r W hC (by simp) HF.out
 have hlit : Kd.C (Kd.int .i64) (W1.alloc (.cells #[.int .i64 r0, .int .i64 r1, .int .i64 r2, .int .i64 r3, .int .i64 r4, .int .i64 r5] 3)) (some ⟨W1.heap.size, 0, none⟩) 6 [r0, r1, r2, r3, r4, r5] := C_new W1 .i64 [r0, r1, r2, r3, r4, r5] 3 (by simp)
 have hor2 := hor _ hlit
 have H2 := Aside0.mk hor2
 clear hor hlit hor2
 go_wp2_with fail
 refine H2.out.mono ?_
 rintro e w' ⟨rfl, hw'⟩
 obtain ⟨⟨n, rfl⟩⟩ := hw'
 go_wp2
 go_ret
 exact ⟨rfl, 1 + n, #[.cells #[.string x.f0.f0, .string x.f0.f1, .string x.f1, .string x.f2.f0, .string x.f2.f1, .string x.f2.f2] 41, .cells #[.string y.f0.f0, .string y.f0.f1, .string y.f1, .string y.f2.f0, .string y.f2.f1, .string y.f2.f2] 41, .cells #[.int .i64 r0, .int .i64 r1, .int .i64 r2, .int .i64 r3, .int .i64 r4, .int .i64 r5] 3], by rw [HW.out]; exact grow3 _ _ _ _ _⟩
def tupl_Compare.f (a0_0 : ByteArray) (a0_1 : ByteArray) (a0_2 : ByteArray) (a0_3 : ByteArray) (a0_4 : ByteArray) (a0_5 : ByteArray) (a1_0 : ByteArray) (a1_1 : ByteArray) (a1_2 : ByteArray) (a1_3 : ByteArray) (a1_4 : ByteArray) (a1_5 : ByteArray) : Option (Int) := some (cmpT ⟨⟨a0_0, a0_1⟩, a0_2, ⟨a0_3, a0_4, a0_5⟩⟩ ⟨⟨a1_0, a1_1⟩, a1_2, ⟨a1_3, a1_4, a1_5⟩⟩)
theorem tupl_Compare.calls (a0_0 : ByteArray) (a0_1 : ByteArray) (a0_2 : ByteArray) (a0_3 : ByteArray) (a0_4 : ByteArray) (a0_5 : ByteArray) (a1_0 : ByteArray) (a1_1 : ByteArray) (a1_2 : ByteArray) (a1_3 : ByteArray) (a1_4 : ByteArray) (a1_5 : ByteArray) (r : Int) (w : World) (h : tupl_Compare.f a0_0 a0_1 a0_2 a0_3 a0_4 a0_5 a1_0 a1_1 a1_2 a1_3 a1_4 a1_5 = some r) :
  Calls Try.prog 39 #[.agg #[.string a0_0, .string a0_1, .string a0_2, .string a0_3, .string a0_4, .string a0_5], .agg #[.string a1_0, .string a1_1, .string a1_2, .string a1_3, .string a1_4, .string a1_5]] w fun e w' => e = .returned (.int .i64 r) ∧ Below w.heap.size w w' := by
 obtain rfl := Option.some.inj h
 exact (compare_exact ⟨⟨a0_0, a0_1⟩, a0_2, ⟨a0_3, a0_4, a0_5⟩⟩ ⟨⟨a1_0, a1_1⟩, a1_2, ⟨a1_3, a1_4, a1_5⟩⟩ w).mono fun e w' ⟨he, q, os, hw⟩ => ⟨he, by rw [hw]; exact below_grow _ _ _⟩
instance : DecidableEq S41 := fun x y => decidable_of_iff (x.f0.f0 = y.f0.f0 ∧ x.f0.f1 = y.f0.f1 ∧ x.f1 = y.f1 ∧ x.f2.f0 = y.f2.f0 ∧ x.f2.f1 = y.f2.f1 ∧ x.f2.f2 = y.f2.f2) (by
 obtain ⟨⟨_, _⟩, _, ⟨_, _, _⟩⟩ := x
 obtain ⟨⟨_, _⟩, _, ⟨_, _, _⟩⟩ := y
 simp [and_assoc])
instance : Inhabited S41 := ⟨z41⟩
theorem byteArray_ext {a b : ByteArray} (h : a.data.toList = b.data.toList) : a = b := by
 cases a; cases b
 congr 1
 exact Array.toList_inj.1 h
theorem cmpT_tot : TotCmp cmpT where
 toPreCmp := by
  have e : cmpT = fun x y => if Lib.compareBytes x.f0.f0.data.toList y.f0.f0.data.toList = 0 then (if Lib.compareBytes x.f0.f1.data.toList y.f0.f1.data.toList = 0 then (if Lib.compareBytes x.f1.data.toList y.f1.data.toList = 0 then (if Lib.compareBytes x.f2.f0.data.toList y.f2.f0.data.toList = 0 then (if Lib.compareBytes x.f2.f1.data.toList y.f2.f1.data.toList = 0 then Lib.compareBytes x.f2.f2.data.toList y.f2.f2.data.toList else Lib.compareBytes x.f2.f1.data.toList y.f2.f1.data.toList) else Lib.compareBytes x.f2.f0.data.toList y.f2.f0.data.toList) else Lib.compareBytes x.f1.data.toList y.f1.data.toList) else Lib.compareBytes x.f0.f1.data.toList y.f0.f1.data.toList) else Lib.compareBytes x.f0.f0.data.toList y.f0.f0.data.toList := by
   funext x y
   simp only [cmpT, firstNZ]
   by_cases h : Lib.compareBytes x.f2.f2.data.toList y.f2.f2.data.toList = 0
   ·rw [if_pos h, h]
   ·rw [if_neg h]
  rw [e]
  exact (bytes_pre.on (f := fun x : S41 => x.f0.f0.data.toList)).lex ((bytes_pre.on (f := fun x : S41 => x.f0.f1.data.toList)).lex ((bytes_pre.on (f := fun x : S41 => x.f1.data.toList)).lex ((bytes_pre.on (f := fun x : S41 => x.f2.f0.data.toList)).lex ((bytes_pre.on (f := fun x : S41 => x.f2.f1.data.toList)).lex (bytes_pre.on (f := fun x : S41 => x.f2.f2.data.toList))))))
 eq x y h := by
  simp only [cmpT, firstNZ] at h
  obtain ⟨⟨_, _⟩, _, ⟨_, _, _⟩⟩ := x
  obtain ⟨⟨_, _⟩, _, ⟨_, _, _⟩⟩ := y
  dsimp only at h
  split at h
  ·rename_i h0
   split at h
   ·rename_i h1
    split at h
    ·rename_i h2
     split at h
     ·rename_i h3
      split at h
      ·rename_i h4
       split at h
       ·rename_i h5
        rw [bytes_zero] at h0 h1 h2 h3 h4 h5
        rw [byteArray_ext h0, byteArray_ext h1, byteArray_ext h2, byteArray_ext h3, byteArray_ext h4, byteArray_ext h5]
       ·contradiction
      ·contradiction
     ·contradiction
    ·contradiction
   ·contradiction
  ·contradiction

end Go.Proofs.Ytpgmeaofmlipkaa.PT
