/- Walks and contracts over the store of tuples (Awake3). No condition beyond those that each contract names. -/
import Derived.Test.YtpgmeaofmlipkaaSCall3
import Derived.Lib.Hide
import Derived.Laws.EntriesVeiled
import Derived.Shelf.SlicesQ.IndexFunc
namespace Go.Proofs.Ytpgmeaofmlipkaa.PT
open Go.RowKit Go.Proofs.YtpgmeaofmlipkaaW.PrintWords Go.Proofs.YtpgmeaofmlipkaaW.PrintLast Go.Proofs.YtpgmeaofmlipkaaW.PrintMore
attribute [local go_sem] max2_int min2_int max_two min_two max_three min_three max_four min_four
set_option linter.unusedVariables false
set_option linter.unusedSimpArgs false
open Go.Proofs.YtpgmeaofmlipkaaH
theorem tm_is {n : Int} {t : S41} (h : entaillaw2_Tame.f n = some (t.f0.f0, t.f0.f1, t.f1, t.f2.f0, t.f2.f1, t.f2.f2)) : tm n = t := by
  have h2 := tm_eq n
  rw [h] at h2
  injection h2 with h2
  simp only [Prod.mk.injEq] at h2
  obtain ⟨h0, h1, h3, h4, h5, h6⟩ := h2
  generalize tm n = s at *
  obtain ⟨⟨a, b⟩, c, ⟨d, e, f⟩⟩ := s
  obtain ⟨⟨a', b'⟩, c', ⟨d', e', f'⟩⟩ := t
  simp only at *
  subst h0 h1 h3 h4 h5 h6
  rfl
def t0_ : S41 := ⟨⟨⟨#[97]⟩, ⟨#[97]⟩⟩, ⟨#[114]⟩, ⟨⟨#[117]⟩, ⟨#[97]⟩, ⟨#[114]⟩⟩⟩
def t1_ : S41 := ⟨⟨⟨#[98]⟩, ⟨#[97]⟩⟩, ⟨#[114]⟩, ⟨⟨#[117]⟩, ⟨#[97]⟩, ⟨#[114]⟩⟩⟩
def sof (o : Option (ByteArray × ByteArray × ByteArray × ByteArray × ByteArray × ByteArray)) : S41 := match o with
  | some (a, b, c, d, e, f) => ⟨⟨a, b⟩, c, ⟨d, e, f⟩⟩
  | none => z41
theorem tm_sof (n : Int) : tm n = sof (entaillaw2_Tame.f n) := by
  rw [tm_eq n]; rfl
theorem Rd.nil (w : World) : Rd w none 0 [] := (Row.nil w 0).rd
theorem small_tm (n : Int) (h : Small (sof (entaillaw2_Tame.f n))) : Small (tm n) := by rw [tm_sof]; exact h
instance (t : S41) : Decidable (Small t) := by unfold Small; infer_instance
theorem sm0 : Small (tm 0) := small_tm 0 (by decide +kernel)
theorem sm1 : Small (tm 1) := small_tm 1 (by decide +kernel)
theorem sm2 : Small (tm 2) := small_tm 2 (by decide +kernel)
theorem sm4 : Small (tm 4) := small_tm 4 (by decide +kernel)
theorem clamp2 : clampM 2 = 2 := by decide

theorem rev_n {w : World} {B g : Nat} {q : Option Nat} {m : Int} {past now} (h : St w B g q m past now) (n : Int) (e : (past.length : Int) = n) : Calls Try.prog 27 #[.pointer (some ⟨g, 0, none⟩)] w fun e w' => e = .returned (.int .i64 n) ∧ w' = w := by
  rw [← e]; exact rev_any h
theorem len_n {w : World} {B g : Nat} {q : Option Nat} {m : Int} {past now} (h : St w B g q m past now) (n : Int) (e : (now.length : Int) = n) : Calls Try.prog 35 #[.pointer (some ⟨g, 0, none⟩)] w fun e w' => e = .returned (.int .i64 n) ∧ ∃ q, w' = w.drewN q := by
  rw [← e]; exact len_any h
theorem all_c {w : World} {B g : Nat} {q : Option Nat} {m : Int} {past now} (h : St w B g q m past now) (hlt : now.length < 1000000000) : Calls Try.prog 28 #[.pointer (some ⟨g, 0, none⟩)] w (NewRow w now) := (all_any h (by omega)).mono fun _ _ h => newRow h
/-- A set and true have come back. -/
def AtRow (w : World) (l : List S41) (e : Ending) (w' : World) : Prop := ∃ A c, e = .returned (.tuple #[.slice A l.length c, .bool true]) ∧ Row w' w.heap.size A c l ∧ Below w.heap.size w w'
theorem at_c {w : World} {B g : Nat} {q : Option Nat} {m : Int} {past now} (h : St w B g q m past now) (r : Nat) (i : Int) (hi : (r : Int) = i) (l : List S41) (hl : (past ++ [now])[r]? = some l) (hlt : l.length < 1000000000) : Calls Try.prog 31 #[.pointer (some ⟨g, 0, none⟩), .int .i64 i] w (AtRow w l) := by
  subst hi
  refine (at_some h r l hl (by omega)).mono fun e w' ⟨v, he, hR, hb⟩ => ?_
  obtain ⟨A, c, rfl, hrow⟩ := row_of hR
  exact ⟨A, c, he, hrow, hb⟩

theorem TupAt.old {w : World} {b t} (h : TupAt w b t) : ∀ (o : Obj) (i : Nat), (w.alloc o).cell? ⟨b, i, none⟩ = w.cell? ⟨b, i, none⟩ := fun o i =>
  (below_alloc (Below.refl _ _) o).cell (p := ⟨b, i, none⟩) (Array.getElem?_eq_some_iff.1 h).1
theorem Row.nil_rd (w : World) : Rd w none 0 ([] : List S41) := Rd.nil w
/-- What the walk of awake carries: a store, three tuples in variables. -/
structure AW (W0 : World) (g : Nat) (q : Option Nat) (past : List (List S41)) (now : List S41) (ba bb bc : Nat) (W : World) : Prop where
  st : St W W0.heap.size g q 2 past now
  ta : TupAt W ba (tm 0)
  tb : TupAt W bb (tm 1)
  tc : TupAt W bc (tm 2)
  bw : Below W0.heap.size W0 W
theorem AW.below {W0 : World} {g : Nat} {q : Option Nat} {past now} {ba bb bc : Nat} {W W' : World} (h : AW W0 g q past now ba bb bc W) (hb : Below W.heap.size W W') : AW W0 g q past now ba bb bc W' :=
  ⟨h.st.below hb, h.ta.below hb, h.tb.below hb, h.tc.below hb, below_then h.bw h.bw.size hb⟩
theorem AW.write {W0 : World} {g : Nat} {q q' : Option Nat} {past now past' now'} {ba bb bc : Nat} {W W' : World} (h : AW W0 g q past now ba bb bc W) (hs : St W' W0.heap.size g q' 2 past' now') (hk : Kept W W' (fun k => k = g ∨ some k = q)) (hb : Below W0.heap.size W W') : AW W0 g q' past' now' ba bb bc W' :=
  ⟨hs, blk_write h.ta (by decide) (by decide) h.st hk, blk_write h.tb (by decide) (by decide) h.st hk, blk_write h.tc (by decide) (by decide) h.st hk, h.bw.trans hb⟩
set_option maxHeartbeats 4000000 in
set_option maxRecDepth 100000 in
theorem awake4_c (w : World) : Calls Try.prog 32 #[] w fun e w' => e = .returned (.bool true) ∧ Below w.heap.size w w' := by
  go_enter Try.func32, Try.ntmps32
  go_wp2_with fail
  refine (new_any 2 _).mono ?_
  rintro e w1 ⟨g, q1, rfl, hst, hb⟩
  rw [clamp2] at hst
  have HS1 := Lib.hid hst
  have HB1 := Lib.hid hb
  clear hst hb
  go_wp2_with fail
  refine (tame_c 0 _).mono ?_
  rintro e w2 ⟨rfl, hb⟩
  have HS2 := Lib.hid (HS1.out.below hb)
  have HB2 := Lib.hid (chainB HB1.out hb)
  clear hb HS1 HB1
  go_wp2_with fail
  refine (tame_c 1 _).mono ?_
  rintro e w3 ⟨rfl, hb⟩
  have HS3 := Lib.hid (HS2.out.below hb)
  have HB3 := Lib.hid (chainB HB2.out hb)
  clear hb HS2 HB2
  go_wp2_with fail
  refine (tame_c 2 _).mono ?_
  rintro e w4 ⟨rfl, hb⟩
  have HS4 := Lib.hid (HS3.out.below hb)
  have HB4 := Lib.hid (chainB HB3.out hb)
  clear hb HS3 HB3
  go_upto_region 5 with fail
  obtain ⟨W5, hW5⟩ : ∃ W5, W5 = ((w4.alloc (.cells #[.string (tm 0).f0.f0, .string (tm 0).f0.f1, .string (tm 0).f1, .string (tm 0).f2.f0, .string (tm 0).f2.f1, .string (tm 0).f2.f2] 41)).alloc (.cells #[.string (tm 1).f0.f0, .string (tm 1).f0.f1, .string (tm 1).f1, .string (tm 1).f2.f0, .string (tm 1).f2.f1, .string (tm 1).f2.f2] 41)).alloc (.cells #[.string (tm 2).f0.f0, .string (tm 2).f0.f1, .string (tm 2).f1, .string (tm 2).f2.f0, .string (tm 2).f2.f1, .string (tm 2).f2.f2] 41) := ⟨_, rfl⟩
  rw [← hW5]
  have HA5 := Lib.hid (show AW w g q1 [] [] w4.heap.size (w4.heap.size + 1) (w4.heap.size + 1 + 1) W5 by
    have h1 := below_alloc (Below.refl w4.heap.size w4) (.cells #[.string (tm 0).f0.f0, .string (tm 0).f0.f1, .string (tm 0).f1, .string (tm 0).f2.f0, .string (tm 0).f2.f1, .string (tm 0).f2.f2] 41)
    have h2 := below_alloc h1 (.cells #[.string (tm 1).f0.f0, .string (tm 1).f0.f1, .string (tm 1).f1, .string (tm 1).f2.f0, .string (tm 1).f2.f1, .string (tm 1).f2.f2] 41)
    have h3 := below_alloc h2 (.cells #[.string (tm 2).f0.f0, .string (tm 2).f0.f1, .string (tm 2).f1, .string (tm 2).f2.f0, .string (tm 2).f2.f1, .string (tm 2).f2.f2] 41)
    rw [hW5]
    refine ⟨HS4.out.below h3, ?_, ?_, ?_, chainB HB4.out h3⟩
    · exact blkB (blkB (heap_newS rfl) (below_alloc (Below.refl _ _) _)) (below_alloc (Below.refl _ _) _)
    · exact blkB (heap_newS (by simp)) (below_alloc (Below.refl _ _) _)
    · exact heap_newS (by simp))
  generalize w4.heap.size = ba at HA5 ⊢
  clear hW5 HS4 HB4

  have ca50 := HA5.out.ta.c0
  have ca51 := HA5.out.ta.c1
  have ca52 := HA5.out.ta.c2
  have ca53 := HA5.out.ta.c3
  have ca54 := HA5.out.ta.c4
  have ca55 := HA5.out.ta.c5
  have axa5 := HA5.out.ta.old
  go_wp2_with fail
  clear axa5
  clear ca50 ca51 ca52 ca53 ca54 ca55
  obtain ⟨V50, hV50⟩ : ∃ V, V = W5 := ⟨_, rfl⟩
  obtain ⟨V51, hV51⟩ : ∃ V, V = V50.alloc (.cells #[.string (tm 0).f0.f0, .string (tm 0).f0.f1, .string (tm 0).f1, .string (tm 0).f2.f0, .string (tm 0).f2.f1, .string (tm 0).f2.f2] 41) := ⟨_, rfl⟩
  have hb5_0 : Below V50.heap.size V50 V50 := Below.refl _ _
  have hb5_1 : Below V50.heap.size V50 V51 := by rw [hV51]; exact below_alloc (Below.refl _ _) _
  have hr5_1 : Row V51 V50.heap.size (some ⟨V50.heap.size, 0, none⟩) 1 [tm 0] := by rw [hV51]; exact row_lit _ _ _ 1 rfl rfl (by decide)
  have HA5x := HA5.out
  rw [← hV50] at HA5x
  replace HA5x := HA5x.below hb5_1
  rw [← hV50]
  rw [← hV51]
  refine (write_eq (⟨some ⟨V50.heap.size, 0, none⟩, 1, [tm 0], none, 0, [], none, 0, [], none, 0, []⟩ : BArg) (n := 0) (past' := [[]]) (now' := [tm 0]) (by simp only [pastA, nowA, wErrA, wrongB, wErr, nextW, tm_sof]; decide +kernel) (by simp only [pastA, nowA, wErrA, wrongB, wErr, nextW, tm_sof]; decide +kernel) (by simp only [pastA, nowA, wErrA, wrongB, wErr, nextW, tm_sof]; decide +kernel) HA5x.st ⟨hr5_1.rd, Rd.nil _, Rd.nil _, Rd.nil _⟩ ⟨by simp, by simp, by simp, by simp⟩ ⟨by simp [sm0], by simp, by simp, by simp⟩ (by simp) (by simp [SS]) (by simp)).mono ?_
  rintro e w6 ⟨q5, rfl, hst, hk, hb⟩
  have HA6 := Lib.hid (HA5x.write hst hk hb)
  clear hst hk hb HA5 HA5x
  clear hb5_0 hb5_1 hr5_1
  clear hV51 hV50
  have ca60 := HA6.out.ta.c0
  have ca61 := HA6.out.ta.c1
  have ca62 := HA6.out.ta.c2
  have ca63 := HA6.out.ta.c3
  have ca64 := HA6.out.ta.c4
  have ca65 := HA6.out.ta.c5
  have cb60 := HA6.out.tb.c0
  have cb61 := HA6.out.tb.c1
  have cb62 := HA6.out.tb.c2
  have cb63 := HA6.out.tb.c3
  have cb64 := HA6.out.tb.c4
  have cb65 := HA6.out.tb.c5
  have cc60 := HA6.out.tc.c0
  have cc61 := HA6.out.tc.c1
  have cc62 := HA6.out.tc.c2
  have cc63 := HA6.out.tc.c3
  have cc64 := HA6.out.tc.c4
  have cc65 := HA6.out.tc.c5
  have axa6 := HA6.out.ta.old
  have axb6 := HA6.out.tb.old
  have axc6 := HA6.out.tc.old
  go_wp2_with fail
  clear axa6 axb6 axc6
  clear ca60 ca61 ca62 ca63 ca64 ca65 cb60 cb61 cb62 cb63 cb64 cb65 cc60 cc61 cc62 cc63 cc64 cc65
  obtain ⟨V60, hV60⟩ : ∃ V, V = w6 := ⟨_, rfl⟩
  obtain ⟨V61, hV61⟩ : ∃ V, V = V60.alloc (.cells #[.string (tm 0).f0.f0, .string (tm 0).f0.f1, .string (tm 0).f1, .string (tm 0).f2.f0, .string (tm 0).f2.f1, .string (tm 0).f2.f2, .string (tm 1).f0.f0, .string (tm 1).f0.f1, .string (tm 1).f1, .string (tm 1).f2.f0, .string (tm 1).f2.f1, .string (tm 1).f2.f2, .string (tm 2).f0.f0, .string (tm 2).f0.f1, .string (tm 2).f1, .string (tm 2).f2.f0, .string (tm 2).f2.f1, .string (tm 2).f2.f2] 41) := ⟨_, rfl⟩
  have hb6_0 : Below V60.heap.size V60 V60 := Below.refl _ _
  have hb6_1 : Below V60.heap.size V60 V61 := by rw [hV61]; exact below_alloc (Below.refl _ _) _
  have hr6_1 : Row V61 V60.heap.size (some ⟨V60.heap.size, 0, none⟩) 3 [tm 0, tm 1, tm 2] := by rw [hV61]; exact row_lit _ _ _ 3 rfl rfl (by decide)
  have HA6x := HA6.out
  rw [← hV60] at HA6x
  replace HA6x := HA6x.below hb6_1
  rw [← hV60]
  rw [← hV61]
  refine (write_eq (⟨some ⟨V60.heap.size, 0, none⟩, 3, [tm 0, tm 1, tm 2], none, 0, [], none, 0, [], none, 0, []⟩ : BArg) (n := 5) (past' := [[]]) (now' := [tm 0]) (by simp only [pastA, nowA, wErrA, wrongB, wErr, nextW, tm_sof]; decide +kernel) (by simp only [pastA, nowA, wErrA, wrongB, wErr, nextW, tm_sof]; decide +kernel) (by simp only [pastA, nowA, wErrA, wrongB, wErr, nextW, tm_sof]; decide +kernel) HA6x.st ⟨hr6_1.rd, Rd.nil _, Rd.nil _, Rd.nil _⟩ ⟨by simp, by simp, by simp, by simp⟩ ⟨by simp [sm0, sm1, sm2], by simp, by simp, by simp⟩ (by simp) (by simp [SS]) (by simp)).mono ?_
  rintro e w7 ⟨q6, rfl, hst, hk, hb⟩
  have HA7 := Lib.hid (HA6x.write hst hk hb)
  clear hst hk hb HA6 HA6x
  clear hb6_0 hb6_1 hr6_1
  clear hV61 hV60
  have ca70 := HA7.out.ta.c0
  have ca71 := HA7.out.ta.c1
  have ca72 := HA7.out.ta.c2
  have ca73 := HA7.out.ta.c3
  have ca74 := HA7.out.ta.c4
  have ca75 := HA7.out.ta.c5
  have axa7 := HA7.out.ta.old
  go_wp2_with fail
  clear axa7
  clear ca70 ca71 ca72 ca73 ca74 ca75
  obtain ⟨V70, hV70⟩ : ∃ V, V = w7 := ⟨_, rfl⟩
  obtain ⟨V71, hV71⟩ : ∃ V, V = V70.alloc (.cells #[.string (tm 0).f0.f0, .string (tm 0).f0.f1, .string (tm 0).f1, .string (tm 0).f2.f0, .string (tm 0).f2.f1, .string (tm 0).f2.f2] 41) := ⟨_, rfl⟩
  obtain ⟨V72, hV72⟩ : ∃ V, V = V71.alloc (.cells #[.string (tm 0).f0.f0, .string (tm 0).f0.f1, .string (tm 0).f1, .string (tm 0).f2.f0, .string (tm 0).f2.f1, .string (tm 0).f2.f2] 41) := ⟨_, rfl⟩
  have hb7_0 : Below V70.heap.size V70 V70 := Below.refl _ _
  have hb7_1 : Below V70.heap.size V70 V71 := by rw [hV71]; exact below_alloc (Below.refl _ _) _
  have hb7_2 : Below V71.heap.size V71 V72 := by rw [hV72]; exact below_alloc (Below.refl _ _) _
  have hr7_1 : Row V71 V70.heap.size (some ⟨V70.heap.size, 0, none⟩) 1 [tm 0] := by rw [hV71]; exact row_lit _ _ _ 1 rfl rfl (by decide)
  replace hr7_1 := hr7_1.below hb7_2
  have hr7_2 : Row V72 V71.heap.size (some ⟨V71.heap.size, 0, none⟩) 1 [tm 0] := by rw [hV72]; exact row_lit _ _ _ 1 rfl rfl (by decide)
  rw [show V71.heap.size = V70.heap.size + 1 by rw [hV71]; simp] at hr7_2
  have HA7x := HA7.out
  rw [← hV70] at HA7x
  replace HA7x := HA7x.below hb7_1
  replace HA7x := HA7x.below hb7_2
  rw [← hV70]
  rw [← hV71]
  rw [← hV72]
  refine (write_eq (⟨some ⟨V70.heap.size, 0, none⟩, 1, [tm 0], some ⟨V70.heap.size + 1, 0, none⟩, 1, [tm 0], none, 0, [], none, 0, []⟩ : BArg) (n := 6) (past' := [[]]) (now' := [tm 0]) (by simp only [pastA, nowA, wErrA, wrongB, wErr, nextW, tm_sof]; decide +kernel) (by simp only [pastA, nowA, wErrA, wrongB, wErr, nextW, tm_sof]; decide +kernel) (by simp only [pastA, nowA, wErrA, wrongB, wErr, nextW, tm_sof]; decide +kernel) HA7x.st ⟨hr7_1.rd, hr7_2.rd, Rd.nil _, Rd.nil _⟩ ⟨by simp, by simp, by simp, by simp⟩ ⟨by simp [sm0], by simp [sm0], by simp, by simp⟩ (by simp) (by simp [SS]) (by simp)).mono ?_
  rintro e w8 ⟨q7, rfl, hst, hk, hb⟩
  have HA8 := Lib.hid (HA7x.write hst hk hb)
  clear hst hk hb HA7 HA7x
  clear hb7_0 hb7_1 hb7_2 hr7_1 hr7_2
  clear hV72 hV71 hV70
  have cb80 := HA8.out.tb.c0
  have cb81 := HA8.out.tb.c1
  have cb82 := HA8.out.tb.c2
  have cb83 := HA8.out.tb.c3
  have cb84 := HA8.out.tb.c4
  have cb85 := HA8.out.tb.c5
  have axb8 := HA8.out.tb.old
  go_wp2_with fail
  clear axb8
  clear cb80 cb81 cb82 cb83 cb84 cb85
  obtain ⟨V80, hV80⟩ : ∃ V, V = w8 := ⟨_, rfl⟩
  obtain ⟨V81, hV81⟩ : ∃ V, V = V80.alloc (.cells #[.string (tm 1).f0.f0, .string (tm 1).f0.f1, .string (tm 1).f1, .string (tm 1).f2.f0, .string (tm 1).f2.f1, .string (tm 1).f2.f2] 41) := ⟨_, rfl⟩
  have hb8_0 : Below V80.heap.size V80 V80 := Below.refl _ _
  have hb8_1 : Below V80.heap.size V80 V81 := by rw [hV81]; exact below_alloc (Below.refl _ _) _
  have hr8_1 : Row V81 V80.heap.size (some ⟨V80.heap.size, 0, none⟩) 1 [tm 1] := by rw [hV81]; exact row_lit _ _ _ 1 rfl rfl (by decide)
  have HA8x := HA8.out
  rw [← hV80] at HA8x
  replace HA8x := HA8x.below hb8_1
  rw [← hV80]
  rw [← hV81]
  refine (write_eq (⟨none, 0, [], none, 0, [], some ⟨V80.heap.size, 0, none⟩, 1, [tm 1], none, 0, []⟩ : BArg) (n := 4) (past' := [[]]) (now' := [tm 0]) (by simp only [pastA, nowA, wErrA, wrongB, wErr, nextW, tm_sof]; decide +kernel) (by simp only [pastA, nowA, wErrA, wrongB, wErr, nextW, tm_sof]; decide +kernel) (by simp only [pastA, nowA, wErrA, wrongB, wErr, nextW, tm_sof]; decide +kernel) HA8x.st ⟨Rd.nil _, Rd.nil _, hr8_1.rd, Rd.nil _⟩ ⟨by simp, by simp, by simp, by simp⟩ ⟨by simp, by simp, by simp [sm1], by simp⟩ (by simp) (by simp [SS]) (by simp)).mono ?_
  rintro e w9 ⟨q8, rfl, hst, hk, hb⟩
  have HA9 := Lib.hid (HA8x.write hst hk hb)
  clear hst hk hb HA8 HA8x
  clear hb8_0 hb8_1 hr8_1
  clear hV81 hV80
  go_wp2_with fail
  refine (at_c HA9.out.st 0 0 rfl [] rfl (by simp)).mono ?_
  rintro e w10 ⟨A10, c10, rfl, _, hb⟩
  have HA10 := Lib.hid (HA9.out.below hb)
  clear hb HA9
  go_wp2_with fail
  refine (at_none HA10.out.st 2 (Or.inr (by decide))).mono ?_
  rintro e w11 ⟨rfl, rfl⟩
  go_wp2_with fail
  refine (rev_n HA10.out.st 1 rfl).mono ?_
  rintro e w12 ⟨rfl, rfl⟩
  go_wp2_with fail
  refine (len_n HA10.out.st 1 rfl).mono ?_
  rintro e w13 ⟨rfl, hdr⟩
  have HA11 := Lib.hid (HA10.out.below (below_of_drawn hdr))
  clear hdr HA10
  go_wp2_with fail
  refine (all_c HA11.out.st (by simp)).mono ?_
  rintro e w14 ⟨A14, c14, rfl, _, hb⟩
  have HA12 := Lib.hid (HA11.out.below hb)
  clear hb HA11
  go_wp2
  go_ret
  exact ⟨rfl, HA12.out.bw⟩
end Go.Proofs.Ytpgmeaofmlipkaa.PT
