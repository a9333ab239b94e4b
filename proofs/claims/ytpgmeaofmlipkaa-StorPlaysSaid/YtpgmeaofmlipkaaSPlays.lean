/- Walks and contracts over the store of tuples (Plays). No condition beyond those that each contract names. -/
import Derived.Test.YtpgmeaofmlipkaaSAwake3
import Derived.Test.YtpgmeaofmlipkaaPTx1030
import Derived.Lib.Hide
import Derived.Laws.EntriesVeiled
import Derived.Shelf.SlicesQ.IndexFunc
namespace Go.Proofs.Ytpgmeaofmlipkaa.PT
open Go.RowKit Go.Proofs.YtpgmeaofmlipkaaW.PrintWords Go.Proofs.YtpgmeaofmlipkaaW.PrintLast Go.Proofs.YtpgmeaofmlipkaaW.PrintMore
attribute [local go_sem] max2_int min2_int max_two min_two max_three min_three max_four min_four
set_option linter.unusedVariables false
set_option linter.unusedSimpArgs false
open Go.Proofs.YtpgmeaofmlipkaaH
theorem and15 (x : Int) : Go.bits .and .i64 x 15 = x % 16 := and_mask 4 (by decide) x
theorem nm_size (n : Int) (s : ByteArray) (h : entaillaw1_Nm.f n = some s) : s.size < 100 := by
 unfold entaillaw1_Nm.f at h
 simp only [and7, Option.bind_some] at h
 rw [if_pos (by omega), if_pos (by simp only [List.length_cons, List.length_nil]; omega)] at h
 injection h with h
 subst h
 have h0 : n % 8 = 0 ∨ n % 8 = 1 ∨ n % 8 = 2 ∨ n % 8 = 3 ∨ n % 8 = 4 ∨ n % 8 = 5 ∨ n % 8 = 6 ∨ n % 8 = 7 := by omega
 rcases h0 with h | h | h | h | h | h | h | h <;> rw [h] <;> decide
theorem tm_small (n : Int) : Small (tm n) := by
 have h := tm_eq n
 obtain ⟨s1, h1⟩ := nm_some (n / 2)
 obtain ⟨s2, h2⟩ := nm_some (n / 8192)
 have k1 := nm_size _ _ h1
 have k2 := nm_size _ _ h2
 unfold entaillaw2_Tame.f at h
 simp only [and1, and3, and255, Option.bind_some, h1, h2, List.length_cons, List.length_nil] at h
 have t0 : 0 ≤ Int.tmod (n / 32 % 256) 3 ∧ Int.tmod (n / 32 % 256) 3 < 3 := by
  rw [Int.tmod_eq_emod_of_nonneg (by omega)]; omega
 rw [if_pos (by omega), if_pos (by omega), if_pos (by omega), if_pos (by omega), if_pos t0.1, if_pos (by have := t0.2; omega)] at h
 have hh : s1 = (tm n).f0.f1 ∧ s2 = (tm n).f2.f1 := by
  by_cases hz : n / 65536 % 4 = 0
  ·rw [if_pos hz, if_pos (by omega), if_pos (by omega)] at h
   simp only [Option.some.injEq, Prod.mk.injEq] at h
   exact ⟨h.2.1, h.2.2.2.2.1⟩
  ·rw [if_neg hz] at h
   simp only [Option.some.injEq, Prod.mk.injEq] at h
   exact ⟨h.2.1, h.2.2.2.2.1⟩
 refine ⟨?_, ?_⟩
 ·rw [← hh.1]; omega
 ·rw [← hh.2]; omega
/-- What a batch's four rows are known to be. -/
structure BOk (n : Nat) (a b c d : List S41) : Prop where
 n1 : a.length ≤ n
 n2 : b.length ≤ n
 n3 : c.length ≤ n
 n4 : d.length ≤ n
 s1 : ∀ t ∈ a, Small t
 s2 : ∀ t ∈ b, Small t
 s3 : ∀ t ∈ c, Small t
 s4 : ∀ t ∈ d, Small t
theorem sm_app {a : List S41} (h : ∀ t ∈ a, Small t) {x : S41} (hx : Small x) : ∀ t ∈ a ++ [x], Small t := by
 intro t ht
 rcases List.mem_append.1 ht with h1 | h1
 ·exact h t h1
 ·rw [List.mem_singleton.1 h1]; exact hx
theorem BOk.a1 {n : Nat} {a b c d : List S41} (h : BOk n a b c d) {x : S41} (hx : Small x) : BOk (n + 1) (a ++ [x]) b c d :=
 ⟨by have := h.n1; simp; omega, by have := h.n2; omega, by have := h.n3; omega, by have := h.n4; omega, sm_app h.s1 hx, h.s2, h.s3, h.s4⟩
theorem BOk.a2 {n : Nat} {a b c d : List S41} (h : BOk n a b c d) {x : S41} (hx : Small x) : BOk (n + 1) a (b ++ [x]) c d :=
 ⟨by have := h.n1; omega, by have := h.n2; simp; omega, by have := h.n3; omega, by have := h.n4; omega, h.s1, sm_app h.s2 hx, h.s3, h.s4⟩
theorem BOk.a3 {n : Nat} {a b c d : List S41} (h : BOk n a b c d) {x : S41} (hx : Small x) : BOk (n + 1) a b (c ++ [x]) d :=
 ⟨by have := h.n1; omega, by have := h.n2; omega, by have := h.n3; simp; omega, by have := h.n4; omega, h.s1, h.s2, sm_app h.s3 hx, h.s4⟩
theorem BOk.a4 {n : Nat} {a b c d : List S41} (h : BOk n a b c d) {x : S41} (hx : Small x) : BOk (n + 1) a b c (d ++ [x]) :=
 ⟨by have := h.n1; omega, by have := h.n2; omega, by have := h.n3; omega, by have := h.n4; simp; omega, h.s1, h.s2, h.s3, sm_app h.s4 hx⟩
theorem BOk.mono {n m : Nat} {a b c d : List S41} (h : BOk n a b c d) (hm : n ≤ m) : BOk m a b c d :=
 ⟨by have := h.n1; omega, by have := h.n2; omega, by have := h.n3; omega, by have := h.n4; omega, h.s1, h.s2, h.s3, h.s4⟩
def xT : S41 := ⟨⟨⟨#[]⟩, ⟨#[]⟩⟩, ⟨#[120]⟩, ⟨⟨#[]⟩, ⟨#[]⟩, ⟨#[]⟩⟩⟩
theorem xT_small : Small xT := by unfold Small; decide
theorem j1_step (l : List Int) (i : Nat) (hi : i < l.length) (a b c d : List S41) (k : Nat) : entaillaw4_Batch.j1 (k + 1) l (i : Int) true a b c d = entaillaw4_Batch.j2 k l i (l[i] % 16) (decide (l[i] % 16 ≤ 8)) a b c d (tm (l[i] / 16)).f0.f0 (tm (l[i] / 16)).f0.f1 (tm (l[i] / 16)).f1 (tm (l[i] / 16)).f2.f0 (tm (l[i] / 16)).f2.f1 (tm (l[i] / 16)).f2.f2 := by
 have hx : 0 ≤ l[i] % 16 ∧ l[i] % 16 < 16 := by omega
 simp only [entaillaw4_Batch.j1, and15, rd_at l i hi, tm_eq, Option.bind_some]
 rw [if_pos trivial, if_pos (by omega), if_pos (by omega)]
 generalize tm (l[i] / 16) = t
 generalize l[i] % 16 = x at hx ⊢
 have h0 : x = 0 ∨ x = 1 ∨ x = 2 ∨ x = 3 ∨ x = 4 ∨ x = 5 ∨ x = 6 ∨ x = 7 ∨ x = 8 ∨ x = 9 ∨ x = 10 ∨ x = 11 ∨ x = 12 ∨ x = 13 ∨ x = 14 ∨ x = 15 := by omega
 rcases h0 with rfl | rfl | rfl | rfl | rfl | rfl | rfl | rfl | rfl | rfl | rfl | rfl | rfl | rfl | rfl | rfl <;> rfl
theorem batch_loop (l : List Int) : ∀ (n i : Nat) (a b c d : List S41), i + n = 12 → BOk i a b c d → ∃ a' b' c' d', BOk 12 a' b' c' d' ∧ Ev (fun k => entaillaw4_Batch.l0 k l (i : Int) a b c d) (a', b', c', d') := by
 intro n
 induction n with
 | zero =>
  intro i a b c d hi h
  refine ⟨a, b, c, d, h.mono (by omega), Ev.step (f := fun k => entaillaw4_Batch.j1 k l (i : Int) false a b c d) (fun k => ?_) (Ev.step (f := fun _ => some (a, b, c, d)) (fun k => ?_) (Ev.now _))⟩
  ·simp only [entaillaw4_Batch.l0]
   have : decide ((i : Int) < 12) = false := by rw [decide_eq_false_iff_not]; omega
   rw [this, ite_self]
  ·simp [entaillaw4_Batch.j1]
 | succ n ih =>
  intro i a b c d hi h
  by_cases hl : i < l.length
  ·have hw := wrap_succ i (by omega)
   have m1 := h.n1
   have m2 := h.n2
   have m3 := h.n3
   have m4 := h.n4
   have hs := tm_small (l[i] / 16)
   have go : ∃ a' b' c' d', BOk 12 a' b' c' d' ∧ Ev (fun k => entaillaw4_Batch.j2 k l i (l[i] % 16) (decide (l[i] % 16 ≤ 8)) a b c d (tm (l[i] / 16)).f0.f0 (tm (l[i] / 16)).f0.f1 (tm (l[i] / 16)).f1 (tm (l[i] / 16)).f2.f0 (tm (l[i] / 16)).f2.f1 (tm (l[i] / 16)).f2.f2) (a', b', c', d') := by
    have hx : 0 ≤ l[i] % 16 ∧ l[i] % 16 < 16 := by omega
    generalize tm (l[i] / 16) = t at hs ⊢
    generalize l[i] % 16 = x at hx ⊢
    by_cases h8 : x ≤ 8
    ·obtain ⟨a', b', c', d', hB, hE⟩ := ih (i + 1) (a ++ [t]) b c d (by omega) (h.a1 hs)
     refine ⟨a', b', c', d', hB, Ev.step (fun k => ?_) hE⟩
     rw [decide_eq_true h8]
     simp only [entaillaw4_Batch.j2, hw]
     rw [if_pos trivial, if_pos (by omega)]
    ·have s2 : ∀ k, entaillaw4_Batch.j2 (k + 1) l i x (decide (x ≤ 8)) a b c d t.f0.f0 t.f0.f1 t.f1 t.f2.f0 t.f2.f1 t.f2.f2 = entaillaw4_Batch.j3 k l i x (decide (x ≤ 12)) a b c d t.f0.f0 t.f0.f1 t.f1 t.f2.f0 t.f2.f1 t.f2.f2 := by
      intro k
      have h0 : x = 9 ∨ x = 10 ∨ x = 11 ∨ x = 12 ∨ x = 13 ∨ x = 14 ∨ x = 15 := by omega
      rcases h0 with rfl | rfl | rfl | rfl | rfl | rfl | rfl <;> rfl
     by_cases h12 : x ≤ 12
     ·obtain ⟨a', b', c', d', hB, hE⟩ := ih (i + 1) a (b ++ [t]) c d (by omega) (h.a2 hs)
      refine ⟨a', b', c', d', hB, Ev.step s2 (Ev.step (fun k => ?_) hE)⟩
      rw [decide_eq_true h12]
      simp only [entaillaw4_Batch.j3, hw]
      rw [if_pos trivial, if_pos (by omega)]
     ·by_cases h13 : x = 13
      ·obtain ⟨a', b', c', d', hB, hE⟩ := ih (i + 1) a b (c ++ [t]) d (by omega) (h.a3 hs)
       refine ⟨a', b', c', d', hB, Ev.step s2 (Ev.step (fun k => ?_) hE)⟩
       rw [decide_eq_false h12]
       simp only [entaillaw4_Batch.j3, hw]
       rw [if_neg (by decide), if_pos h13, if_pos (by omega)]
      ·by_cases h14 : x = 14
       ·obtain ⟨a', b', c', d', hB, hE⟩ := ih (i + 1) a b c (d ++ [t]) (by omega) (h.a4 hs)
        refine ⟨a', b', c', d', hB, Ev.step s2 (Ev.step (fun k => ?_) hE)⟩
        rw [decide_eq_false h12]
        simp only [entaillaw4_Batch.j3, hw]
        rw [if_neg (by decide), if_neg h13, if_pos h14, if_pos (by omega)]
       ·obtain ⟨a', b', c', d', hB, hE⟩ := ih (i + 1) (a ++ [xT]) b c d (by omega) (h.a1 xT_small)
        refine ⟨a', b', c', d', hB, Ev.step s2 (Ev.step (fun k => ?_) hE)⟩
        rw [decide_eq_false h12]
        simp only [entaillaw4_Batch.j3, hw]
        rw [if_neg (by decide), if_neg h13, if_neg h14, if_pos (by omega)]
        rfl
   obtain ⟨a', b', c', d', hB, hE⟩ := go
   refine ⟨a', b', c', d', hB, Ev.step (f := fun k => entaillaw4_Batch.j1 k l (i : Int) true a b c d) (fun k => ?_) (Ev.step (fun k => j1_step l i hl a b c d k) hE)⟩
   simp only [entaillaw4_Batch.l0]
   rw [if_pos (by omega), decide_eq_true (by omega)]
  ·refine ⟨a, b, c, d, h.mono (by omega), Ev.step (f := fun k => entaillaw4_Batch.j1 k l (i : Int) false a b c d) (fun k => ?_) (Ev.step (f := fun _ => some (a, b, c, d)) (fun k => ?_) (Ev.now _))⟩
   ·simp only [entaillaw4_Batch.l0]
    rw [if_neg (by omega)]
   ·simp [entaillaw4_Batch.j1]
/-- A batch's rows, made since. -/
structure BRow (w : World) (B : Nat) (x : BArg) : Prop where
 r1 : Row w B x.A1 x.c1 x.l1
 r2 : Row w B x.A2 x.c2 x.l2
 r3 : Row w B x.A3 x.c3 x.l3
 r4 : Row w B x.A4 x.c4 x.l4
theorem BRow.rd {w : World} {B : Nat} {x : BArg} (h : BRow w B x) : BRd x w := ⟨h.r1.rd, h.r2.rd, h.r3.rd, h.r4.rd⟩
theorem BRow.below {w w1 : World} {B : Nat} {x : BArg} (h : BRow w B x) (hb : Below w.heap.size w w1) : BRow w1 B x := ⟨h.r1.below hb, h.r2.below hb, h.r3.below hb, h.r4.below hb⟩
theorem BOk.len {x : BArg} (h : BOk 12 x.l1 x.l2 x.l3 x.l4) : BLen x := ⟨by have := h.n1; omega, by have := h.n2; omega, by have := h.n3; omega, by have := h.n4; omega⟩
theorem BOk.small {n : Nat} {x : BArg} (h : BOk n x.l1 x.l2 x.l3 x.l4) : BSmall x := ⟨h.s1, h.s2, h.s3, h.s4⟩
def NewBatch (w : World) (e : Ending) (w' : World) : Prop := ∃ x : BArg, e = .returned (.agg #[.slice x.A1 x.l1.length x.c1, .slice x.A2 x.l2.length x.c2, .slice x.A3 x.l3.length x.c3, .slice x.A4 x.l4.length x.c4]) ∧ BRow w' w.heap.size x ∧ BOk 12 x.l1 x.l2 x.l3 x.l4 ∧ Below w.heap.size w w'
theorem batch_c {w : World} {A : Option Addr} {c : Nat} {l : List Int} (hr : Kd.C (Kd.int .i64) w A l.length l) (hc : l.length ≤ c) : Calls Try.prog 30 #[.slice A l.length c] w (NewBatch w) := by
 obtain ⟨a, b, d, e, hB, hE⟩ := batch_loop l 12 0 [] [] [] [] rfl ⟨by simp, by simp, by simp, by simp, by simp, by simp, by simp, by simp⟩
 obtain ⟨k, hk⟩ := hE
 refine (entaillaw4_Batch.calls k A c l a b d e w hr hc (hk k (Nat.le_refl _))).mono ?_
 rintro _ w' ⟨v0, v1, v2, v3, rfl, h0, h1, h2, h3, hb⟩
 obtain ⟨A1, c1, rfl, r1⟩ := row_of (Kd.R_mono h0 (fun _ _ => trivial))
 obtain ⟨A2, c2, rfl, r2⟩ := row_of (Kd.R_mono h1 (fun _ _ => trivial))
 obtain ⟨A3, c3, rfl, r3⟩ := row_of (Kd.R_mono h2 (fun _ _ => trivial))
 obtain ⟨A4, c4, rfl, r4⟩ := row_of (Kd.R_mono h3 (fun _ _ => trivial))
 exact ⟨⟨A1, c1, a, A2, c2, b, A3, c3, d, A4, c4, e⟩, rfl, ⟨r1, r2, r3, r4⟩, hB, hb⟩
open Go.Proofs.YtpgmeaofmlipkaaH
/-- What one Write makes of the sets. -/
structure Step (m : Int) (past : List (List S41)) (now : List S41) (past' : List (List S41)) (now' : List S41) (n : Int) (x : BArg) : Prop where
 ss : SS cmpT now'
 len : now'.length ≤ now.length + x.l1.length
 plen : past'.length ≤ past.length + 1
 max : (now.length : Int) ≤ m → (now'.length : Int) ≤ m
 old : (past' ++ [now'])[past.length]? = some now
 bad : n ≠ 0 → now' = now ∧ past' = past
 good : n = 0 → now' = nextW now x
 same : now' = now → past' = past
 diff : now' ≠ now → past' = past ++ [now]
theorem step_of {m : Int} {past : List (List S41)} {now : List S41} (x : BArg) (hss : SS cmpT now) : Step m past now (pastA m past now x) (nowA m now x) (wErrA m now x) x := by
 by_cases h0 : wErrA m now x = 0
 ·have hn : nowA m now x = nextW now x := by unfold nowA; rw [if_pos h0]
  have hm : ¬ m < ((nextW now x).length : Int) := by
   intro h
   unfold wErrA at h0
   split at h0
   ·exact absurd h0 (by decide)
   ·unfold wErr at h0
    split at h0
    ·exact absurd h0 (by decide)
    ·split at h0
     ·exact absurd h0 (by decide)
     ·split at h0
      ·exact absurd h0 (by decide)
      ·exact absurd h0 (by decide)
  by_cases h1 : nextW now x = now
  ·have hp : pastA m past now x = past := by unfold pastA; rw [if_neg (fun h => h.2 h1)]
   rw [hn, hp, h0]
   exact ⟨by rw [h1]; exact hss, nextW_length now x, by omega, fun _ => by omega, by rw [h1]; simp, fun h => absurd rfl h, fun _ => rfl, fun _ => rfl, fun h => absurd h1 h⟩
  ·have hp : pastA m past now x = past ++ [now] := by unfold pastA; rw [if_pos ⟨h0, h1⟩]
   rw [hn, hp, h0]
   exact ⟨ss_norm cmpT_tot _, nextW_length now x, by simp, fun _ => by omega, by simp, fun h => absurd rfl h, fun _ => rfl, fun h => absurd h h1, fun _ => rfl⟩
 ·have hn : nowA m now x = now := by unfold nowA; rw [if_neg h0]
  have hp : pastA m past now x = past := by unfold pastA; rw [if_neg (fun h => h0 h.1)]
  rw [hn, hp]
  exact ⟨hss, by omega, by omega, fun h => h, by simp, fun _ => ⟨rfl, rfl⟩, fun h => absurd h h0, fun _ => rfl, fun h => absurd rfl h⟩
def WroteS (w : World) (B g : Nat) (q : Option Nat) (m : Int) (past : List (List S41)) (now : List S41) (x : BArg) (e : Ending) (w' : World) : Prop :=
 ∃ q' n past' now', e = .returned (.int .i64 n) ∧ St w' B g q' m past' now' ∧ Step m past now past' now' n x ∧ Kept w w' (fun k => k = g ∨ some k = q) ∧ Below B w w'
theorem write_s {w : World} {B g : Nat} {q : Option Nat} {m : Int} {past now} (h : St w B g q m past now) (x : BArg) (hr : BRd x w) (hok : BOk 12 x.l1 x.l2 x.l3 x.l4) (hn : now.length < 100000000) (hss : SS cmpT now) (hp : past.length < 1000000) :
  Calls Try.prog 29 #[.pointer (some ⟨g, 0, none⟩), .agg #[.slice x.A1 x.l1.length x.c1, .slice x.A2 x.l2.length x.c2, .slice x.A3 x.l3.length x.c3, .slice x.A4 x.l4.length x.c4]] w (WroteS w B g q m past now x) :=
 (write_c h x hr hok.len hok.small hn hss hp).mono fun e w' ⟨q', he, hst, hk, hb⟩ => ⟨q', _, _, _, he, hst, step_of x hss, hk, hb⟩
open Go.Proofs.YtpgmeaofmlipkaaH
/-- The store at block g: its bound, the sets that were, the set that is. -/
structure RSt (w : World) (B g : Nat) (q : Option Nat) (m : Int) (past : List (List S41)) (now : List S41) : Prop where
 mk :: (out : ∃ v, v.ownBlock = q ∧ w.heap[g]? = some (.cells #[.int .i64 m, v] 63 (0, 0)) ∧ B ≤ g ∧ Kd.R (Kd.slice 41 k41) 23 w B (fun _ => True) v (past ++ [now]))
theorem RSt.below {w w1 : World} {B g : Nat} {q : Option Nat} {m : Int} {past now} (h : RSt w B g q m past now) (hb : Below w.heap.size w w1) : RSt w1 B g q m past now := by
 obtain ⟨v, hq, hg, hB, hR⟩ := h.out
 exact ⟨v, hq, (hb.block g (Array.getElem?_eq_some_iff.1 hg).1).trans hg, hB, Kd.R_below hR hb⟩
theorem RSt.lt {w : World} {B g : Nat} {q : Option Nat} {m : Int} {past now} (h : RSt w B g q m past now) : g < w.heap.size := by
 obtain ⟨v, hq, hg, hB, hR⟩ := h.out
 exact (Array.getElem?_eq_some_iff.1 hg).1
/-- What a walk asks of a store. -/
theorem RSt.reads {w : World} {B g : Nat} {q : Option Nat} {m : Int} {past now} (h : RSt w B g q m past now) : ∃ A c, w.cell? ⟨g, 0, none⟩ = some (.int .i64 m) ∧ w.cell? ⟨g, 1, none⟩ = some (.slice A (past.length + 1) c) ∧ w.frozen? ⟨g, 0, none⟩ = false ∧ past.length + 1 ≤ 9223372036854775807 ∧ Kd.C (Kd.slice 41 k41) w A (past.length + 1) (past ++ [now]) := by
 obtain ⟨v, hq, hg, hB, hR⟩ := h.out
 obtain ⟨A, c, rfl, hl, hC⟩ := Kd.R_reads hR
 rw [List.length_append, List.length_singleton] at hg hC
 exact ⟨A, c, (blk_cell hg 0).trans rfl, (blk_cell hg 1).trans rfl, blk_frozen hg 0, hC.2.1, hC⟩
theorem RSt.nowIs {w : World} {B g : Nat} {q : Option Nat} {m : Int} {past now} (h : RSt w B g q m past now) : ∃ A c, NowIs w g past.length A c now := by
 obtain ⟨A, c, h0, h1, h2, h3, h4⟩ := h.reads
 obtain ⟨ad, cs, rfl, hlen, hK, hcell⟩ := Kd.C_get h4 ([] : List S41) past.length (by omega) (by omega)
 obtain ⟨A2, c2, rfl, hl2, hC2⟩ := hK
 have e : (past ++ [now]).getD (past.length : Int).toNat [] = now := by simp
 rw [e] at hl2 hC2 hcell
 have hcz := hcell 0 _ rfl
 have hcz2 : w.cell? (ad.add past.length) = some (.slice A2 now.length c2) := by simpa [Kd.slice] using hcz
 exact ⟨A2, c2, ⟨ad, c, h1, hcz2, hl2, hC2⟩⟩
def NewRSt (m : Int) (w : World) (e : Ending) (w' : World) : Prop := ∃ g q, e = .returned (.pointer (some ⟨g, 0, none⟩)) ∧ RSt w' w.heap.size g q (clampM m) [] [] ∧ Below w.heap.size w w'
set_option maxHeartbeats 1000000 in
theorem rnew_any (m : Int) (w : World) : Calls Try.prog 33 #[.int .i64 m] w (NewRSt m w) := by
 go_enter Try.func33, Try.ntmps33
 go_wp2
 all_goals
  have hm : ∀ x : Int, x = clampM m → Obj.cells #[Value.int IntKind.i64 x, Value.slice (some { block := w.heap.size, off := 0 }) 1 1] 63 = .cells #[.int .i64 (clampM m), .slice (some ⟨w.heap.size, 0, none⟩) 1 1] 63 (0, 0) := fun x h => by rw [h]
  go_ret
  refine ⟨_, _, rfl, ⟨_, rfl, ?_, ?_, Kd.R_below (one_nil w 23 _ (Nat.le_refl _) trivial) ?_⟩, ?_⟩
  ·rw [hm _ (by unfold clampM; omega)]
   exact heap_newS (by simp)
  ·simp
  ·exact below_alloc (Below.refl _ _) _
  ·exact below_alloc (below_alloc (Below.refl _ _) _) _
theorem RSt.base {w : World} {B g : Nat} {q : Option Nat} {m : Int} {past now} (h : RSt w B g q m past now) : B ≤ g := by
 obtain ⟨v, hq, hg, hB, hR⟩ := h.out
 exact hB

set_option maxHeartbeats 1000000 in
theorem rall_c {w : World} {B g : Nat} {q : Option Nat} {m : Int} {past now} (h : RSt w B g q m past now) : Calls Try.prog 36 #[.pointer (some ⟨g, 0, none⟩)] w fun e w' => ∃ A c, e = .returned (.slice A now.length c) ∧ Rd w A c now ∧ ∃ q, w' = w.drewN q := by
 obtain ⟨A, c, hn⟩ := h.nowIs
 obtain ⟨A0, c00, h0, h1, h2, h3, h4⟩ := h.reads
 obtain ⟨ad, c0, k1, hcz2, k3, k4⟩ := hn.out
 have K4 := Lib.hid k4
 have K3 := Lib.hid k3
 clear h4 h hn k4 h1 k3
 go_enter Try.func36, Try.ntmps36
 go_wp2
 go_quiet (fail)
 go_wp2
 go_ret
 exact ⟨A, c, rfl, ⟨K3.out, K4.out⟩, _, rfl⟩
/-- What Write's walk carries along. -/
structure RWB (W0 : World) (B g : Nat) (q : Option Nat) (m : Int) (past : List (List S41)) (now : List S41) (x : BArg) (b0 : Nat) (W : World) : Prop where
 st : RSt W B g q m past now
 rd : BRd x W
 bx : W.heap[b0]? = some (.cells #[.slice x.A1 x.l1.length x.c1, .slice x.A2 x.l2.length x.c2, .slice x.A3 x.l3.length x.c3, .slice x.A4 x.l4.length x.c4] 54 (0, 0))
 bw : Below W0.heap.size W0 W
theorem RWB.below {W0 : World} {B g : Nat} {q : Option Nat} {m : Int} {past now} {x : BArg} {b0 : Nat} {W W' : World} (h : RWB W0 B g q m past now x b0 W) (hb : Below W.heap.size W W') : RWB W0 B g q m past now x b0 W' :=
 ⟨h.st.below hb, h.rd.below hb, (hb.block b0 (Array.getElem?_eq_some_iff.1 h.bx).1).trans h.bx, below_then h.bw h.bw.size hb⟩
theorem RWB.f0 {W0 : World} {B g : Nat} {q : Option Nat} {m : Int} {past now} {x : BArg} {b0 : Nat} {W : World} (h : RWB W0 B g q m past now x b0 W) : W.cell? ⟨b0, 0, none⟩ = some (.slice x.A1 x.l1.length x.c1) := (blk_cell h.bx 0).trans rfl
theorem RWB.f1 {W0 : World} {B g : Nat} {q : Option Nat} {m : Int} {past now} {x : BArg} {b0 : Nat} {W : World} (h : RWB W0 B g q m past now x b0 W) : W.cell? ⟨b0, 1, none⟩ = some (.slice x.A2 x.l2.length x.c2) := (blk_cell h.bx 1).trans rfl
theorem RWB.f2 {W0 : World} {B g : Nat} {q : Option Nat} {m : Int} {past now} {x : BArg} {b0 : Nat} {W : World} (h : RWB W0 B g q m past now x b0 W) : W.cell? ⟨b0, 2, none⟩ = some (.slice x.A3 x.l3.length x.c3) := (blk_cell h.bx 2).trans rfl
theorem RWB.f3 {W0 : World} {B g : Nat} {q : Option Nat} {m : Int} {past now} {x : BArg} {b0 : Nat} {W : World} (h : RWB W0 B g q m past now x b0 W) : W.cell? ⟨b0, 3, none⟩ = some (.slice x.A4 x.l4.length x.c4) := (blk_cell h.bx 3).trans rfl
theorem rwb_start {w : World} {B g : Nat} {q : Option Nat} {m : Int} {past now} (h : RSt w B g q m past now) (x : BArg) (hr : BRd x w) : RWB w B g q m past now x w.heap.size (w.alloc (.cells #[.slice x.A1 x.l1.length x.c1, .slice x.A2 x.l2.length x.c2, .slice x.A3 x.l3.length x.c3, .slice x.A4 x.l4.length x.c4] 54)) :=
 ⟨h.below (below_alloc (Below.refl _ _) _), hr.below (below_alloc (Below.refl _ _) _), heap_newS rfl, below_alloc (Below.refl _ _) _⟩
/-- What a store's Write has done. -/
def RWrote (w : World) (B g : Nat) (q : Option Nat) (m : Int) (past : List (List S41)) (now : List S41) (x : BArg) (e : Ending) (w' : World) : Prop :=
 ∃ q' past' now', e = .returned (.int .i64 (wErr m now x)) ∧ RSt w' B g q' m past' now' ∧ Kept w w' (fun k => k = g ∨ some k = q) ∧ Below B w w' ∧ (q' = q ∨ ∃ k, q' = some k ∧ w.heap.size ≤ k) ∧
  (if wErr m now x = 0 ∧ ¬ nextW now x = now then past' = past ++ [now] ∧ now' = nextW now x else past' = past ∧ now' = now)
theorem rwb_base {w : World} {B g : Nat} {q : Option Nat} {m : Int} {past now} {x : BArg} {b0 : Nat} {W : World} (hl : g < w.heap.size) (hx : RWB w B g q m past now x b0 W) : Below B w W := hx.bw.mono (by have := hx.st.base; omega)
theorem rsame_wrote {w : World} {B g : Nat} {q : Option Nat} {m : Int} {past now} {x : BArg} {b0 : Nat} {W : World} (hn : wErr m now x = 0) (heq : nextW now x = now) (hl : g < w.heap.size) (hx : RWB w B g q m past now x b0 W) : RWrote w B g q m past now x (.returned (.int .i64 0)) W :=
 ⟨q, past, now, by rw [hn], hx.st, Kept.of_below hx.bw _, rwb_base hl hx, Or.inl rfl, by rw [if_neg (fun h => h.2 heq)]; exact ⟨rfl, rfl⟩⟩
theorem rnew_wrote {w : World} {B g : Nat} {q : Option Nat} {m : Int} {past now} {x : BArg} {b0 : Nat} {W w11 : World} {v v1 : Value} (hn : wErr m now x = 0) (heq : ¬ nextW now x = now) (hl : g < w.heap.size) (hx : RWB w B g q m past now x b0 W)
  (hR : Kd.R (Kd.slice 41 k41) 23 w11 B (fun _ => True) v1 (past ++ [now] ++ [nextW now x])) (hB : Below B W w11) (hgr : W.grownBy w11 v.ownBlock) (hat : v1.ownBlock = v.ownBlock ∨ ∃ b, v1.ownBlock = some b ∧ W.heap.size ≤ b)
  (hG : w11.heap[g]? = some (.cells #[.int .i64 m, v] 63 (0, 0))) (hq : v.ownBlock = q) : RWrote w B g q m past now x (.returned (.int .i64 0)) (w11.setCell ⟨g, 1, none⟩ v1) := by
 have hsz := hx.bw.size
 refine ⟨v1.ownBlock, past ++ [now], nextW now x, by rw [hn], ⟨v1, rfl, by simpa using blk_set hG 1 v1, hx.st.base, Kd.R_mono (Kd.R_far (p := ⟨g, 1, none⟩) (Kd.R_types hR hG (by decide)) (fun _ hk => hk.2) v1) (fun _ hk => hk.1)⟩, ⟨?_, fun i hi hne => ?_⟩, ?_, ?_, by rw [if_pos ⟨hn, heq⟩]; exact ⟨rfl, rfl⟩⟩
 ·have := hgr.size
  simp [World.setCell]
  omega
 ·rw [Below.heap_setCell _ _ _ _ (fun h => hne (Or.inl h)), hgr.block i (by omega) (fun h => hne (Or.inr (by rw [← hq]; exact h))), hx.bw.block i hi]
 ·exact (Below.trans (rwb_base hl hx) hB).setCell hx.st.base v1
 ·rcases hat with h | ⟨b, h, hle⟩
  ·exact Or.inl (h.trans hq)
  ·exact Or.inr ⟨b, h, by omega⟩
/-- What the reference's Write carries: the set that is, a row. -/
structure RW (W0 : World) (B g : Nat) (q : Option Nat) (m : Int) (past : List (List S41)) (now : List S41) (x : BArg) (b0 : Nat) (An : Option Addr) (cn : Nat) (W : World) : Prop where
 wb : RWB W0 B g q m past now x b0 W
 nn : Rd W An cn now
theorem RW.below {W0 : World} {B g : Nat} {q : Option Nat} {m : Int} {past now} {x : BArg} {b0 : Nat} {An cn} {W W' : World} (h : RW W0 B g q m past now x b0 An cn W) (hb : Below W.heap.size W W') : RW W0 B g q m past now x b0 An cn W' := ⟨h.wb.below hb, h.nn.below hb⟩
theorem kmR_flat {W : World} {base : Nat} {okp : Nat → Prop} (x : S41) (cs : List Value) (h : k41.K W x cs) : k41.M W base okp x cs := by
 rw [flat41.openK _ _ _ h]
 exact flat41.mkM _ _ _ _
def RWroteA (w : World) (B g : Nat) (q : Option Nat) (m : Int) (past : List (List S41)) (now : List S41) (x : BArg) (e : Ending) (w' : World) : Prop :=
 ∃ q', e = .returned (.int .i64 (wErrA m now x)) ∧ RSt w' B g q' m (pastA m past now x) (nowA m now x) ∧ Kept w w' (fun k => k = g ∨ some k = q) ∧ Below B w w' ∧ (q' = q ∨ ∃ k, q' = some k ∧ w.heap.size ≤ k)
theorem rrefused {w : World} {B g : Nat} {q : Option Nat} {m n : Int} {past now} {x : BArg} {b0 : Nat} {W : World} (hn : wErrA m now x = n) (h0 : n ≠ 0) (hl : g < w.heap.size) (hx : RWB w B g q m past now x b0 W) : RWroteA w B g q m past now x (.returned (.int .i64 n)) W := by
 have h1 : nowA m now x = now := by unfold nowA; rw [if_neg (by rw [hn]; exact h0)]
 have h2 : pastA m past now x = past := by unfold pastA; rw [if_neg (fun h => h0 (by rw [← hn]; exact h.1))]
 exact ⟨q, by rw [hn], by rw [h1, h2]; exact hx.st, Kept.of_below hx.bw _, rwb_base hl hx, Or.inl rfl⟩
theorem rdone {w : World} {B g : Nat} {q : Option Nat} {m : Int} {past now} {x : BArg} {e : Ending} {W : World} (hw : wrongB x = false) (h : RWrote w B g q m past now x e W) : RWroteA w B g q m past now x e W := by
 obtain ⟨q', past', now', he, hst, hk, hb, hq, hc⟩ := h
 have h1 : wErrA m now x = wErr m now x := by unfold wErrA; rw [hw, if_neg (by decide)]
 have e1 : pastA m past now x = past' ∧ nowA m now x = now' := by
  unfold pastA nowA
  rw [h1]
  by_cases h0 : wErr m now x = 0
  ·by_cases h4 : nextW now x = now
   ·rw [if_neg (fun h => h.2 h4)] at hc
    rw [if_neg (fun h => h.2 h4), if_pos h0, h4]
    exact ⟨hc.1.symm, hc.2.symm⟩
   ·rw [if_pos ⟨h0, h4⟩] at hc
    rw [if_pos ⟨h0, h4⟩, if_pos h0]
    exact ⟨hc.1.symm, hc.2.symm⟩
  ·rw [if_neg (fun h => h0 h.1)] at hc
   rw [if_neg (fun h => h0 h.1), if_neg h0]
   exact ⟨hc.1.symm, hc.2.symm⟩
 exact ⟨q', by rw [h1]; exact he, by rw [e1.1, e1.2]; exact hst, hk, hb, hq⟩
/-- All four rows. -/
def allB (x : BArg) : List S41 := (((([] : List S41) ++ x.l1) ++ x.l2) ++ x.l3) ++ x.l4
theorem allB_any (x : BArg) : (allB x).any badB = wrongB x := by simp [allB, wrongB, List.any_append, Bool.or_assoc]
theorem allB_small {x : BArg} (h : BSmall x) : ∀ t ∈ allB x, Small t := by
 intro t ht
 simp only [allB, List.nil_append, List.mem_append] at ht
 rcases ht with ((h1 | h1) | h1) | h1
 ·exact h.s1 t h1
 ·exact h.s2 t h1
 ·exact h.s3 t h1
 ·exact h.s4 t h1
theorem allB_len {x : BArg} (h : BLen x) : (allB x).length < 500000000 := by
 have := h.n1
 have := h.n2
 have := h.n3
 have := h.n4
 simp only [allB, List.length_append, List.length_nil]
 omega
theorem anyTake {α : Type} (p : α → Bool) (l : List α) (j : Nat) (h : j < l.length) : (l.take (j + 1)).any p = ((l.take j).any p || p l[j]) := by
 rw [List.take_succ_eq_append_getElem h, List.any_append]
 simp
theorem any_at {α : Type} (p : α → Bool) (l : List α) (j : Nat) (h : j < l.length) (hp : p l[j] = true) : l.any p = true := List.any_eq_true.2 ⟨l[j], List.getElem_mem h, hp⟩
theorem less_lt (a b : List S41) : ((less (norm cmpT a) b).length < (norm cmpT a).length) ↔ a.any (fun t => decide (t ∈ b)) = true := by
 unfold less
 rw [List.length_filter_lt_length_iff_exists]
 simp only [List.any_eq_true, decide_eq_true_eq, mem_norm cmpT_tot]
 constructor
 ·rintro ⟨t, h1, h2⟩; exact ⟨t, h1, by simpa using h2⟩
 ·rintro ⟨t, h1, h2⟩; exact ⟨t, h1, by simpa using h2⟩
/-- The errors, one behind the other. -/
theorem wErr_both {m : Int} {now} {x : BArg} (hw : wrongB x = false) (h : x.l1.any (fun t => decide (t ∈ x.l2)) = true) : wErrA m now x = 6 := by
 unfold wErrA wErr; rw [hw, if_neg (by decide), if_pos ((less_lt _ _).2 h)]
theorem wErr_lack {m : Int} {now} {x : BArg} (hw : wrongB x = false) (h : x.l1.any (fun t => decide (t ∈ x.l2)) = false) (h3 : (x.l3.any fun t => !decide (t ∈ now)) = true) : wErrA m now x = 4 := by
 unfold wErrA wErr; rw [hw, if_neg (by decide), if_neg (fun h2 => by rw [(less_lt _ _).1 h2] at h; exact absurd h (by decide)), if_pos h3]
theorem wErr_have {m : Int} {now} {x : BArg} (hw : wrongB x = false) (h : x.l1.any (fun t => decide (t ∈ x.l2)) = false) (h3 : (x.l3.any fun t => !decide (t ∈ now)) = false) (h4 : (x.l4.any fun t => decide (t ∈ now)) = true) : wErrA m now x = 3 := by
 unfold wErrA wErr; rw [hw, if_neg (by decide), if_neg (fun h2 => by rw [(less_lt _ _).1 h2] at h; exact absurd h (by decide)), if_neg (by rw [h3]; decide), if_pos h4]
theorem wErr_rest {m : Int} {now} {x : BArg} (hw : wrongB x = false) (h : x.l1.any (fun t => decide (t ∈ x.l2)) = false) (h3 : (x.l3.any fun t => !decide (t ∈ now)) = false) (h4 : (x.l4.any fun t => decide (t ∈ now)) = false) : wErr m now x = (if m < ((nextW now x).length : Int) then 5 else 0) ∧ wErrA m now x = (if m < ((nextW now x).length : Int) then 5 else 0) := by
 have e : wErrA m now x = wErr m now x := by unfold wErrA; rw [hw, if_neg (by decide)]
 have e2 : wErr m now x = (if m < ((nextW now x).length : Int) then 5 else 0) := by
  unfold wErr; rw [if_neg (fun h2 => by rw [(less_lt _ _).1 h2] at h; exact absurd h (by decide)), if_neg (by rw [h3]; decide), if_neg (by rw [h4]; decide)]
 exact ⟨e2, by rw [e, e2]⟩
set_option maxHeartbeats 8000000 in
set_option maxRecDepth 100000 in
theorem rwrite_c {w : World} {B g : Nat} {q : Option Nat} {m : Int} {past now} (h : RSt w B g q m past now) (x : BArg) (hr : BRd x w) (hl : BLen x) (hs : BSmall x) (hn : now.length < 100000000) (hss : SS cmpT now) (hp : past.length < 1000000) :
  Calls Try.prog 34 #[.pointer (some ⟨g, 0, none⟩), .agg #[.slice x.A1 x.l1.length x.c1, .slice x.A2 x.l2.length x.c2, .slice x.A3 x.l3.length x.c3, .slice x.A4 x.l4.length x.c4]] w (RWroteA w B g q m past now x) := by
 have hgl := h.lt
 have HX0 := Lib.hid (rwb_start h x hr)
 have HSS := Lib.hid hss
 clear h hr hss
 go_enter Try.func34, Try.ntmps34
 go_upto_region 1 with fail
 obtain ⟨W1, hW1⟩ : ∃ W1, W1 = w.alloc (.cells #[.slice x.A1 x.l1.length x.c1, .slice x.A2 x.l2.length x.c2, .slice x.A3 x.l3.length x.c3, .slice x.A4 x.l4.length x.c4] 54) := ⟨_, rfl⟩
 rw [← hW1]
 rw [← hW1] at HX0
 clear hW1
 generalize w.heap.size = b0 at HX0 ⊢
 go_wp2_with fail
 refine (rall_c HX0.out.st).mono ?_
 rintro e w2 ⟨An, cn, rfl, hrd, hdr⟩
 have hb := below_of_drawn hdr
 have HW := Lib.hid (show RW w B g q m past now x b0 An cn w2 from ⟨HX0.out.below hb, hrd.below hb⟩)
 clear hrd hdr hb HX0
 go_wp2_with fail
 have HQ := Lib.hid (show RW w B g q m past now x b0 An cn w2.drew from HW.out.below (below_drew (Below.refl _ _)))

 refine start_ (n := 14) (S := fun w' => RW w B g q m past now x b0 An cn w') (ds := []) #[F,F,F,F,F,F,F,F,F,F,F,F,F,F] (by kernel_rfl) rfl rfl (HQ.out) (fun hHeld => ?_)
 clear HW
 generalize w2.drew = W3 at hHeld HQ ⊢
 refine pure_ (i := 1) (N := some 16) (v := ?_) (a' := ?_) #[F,T,F,F,F,F,F,F,F,F,F,F,F,F] rfl rfl (by kernel_rfl) (fun _ _ _ h => h) (Or.inl ⟨by rfl, ?_⟩) ?_ ?_
 rotate_left
 ·intro w'
  go_simp
  with_reducible rfl
 rotate_left
 ·simp only [Act.put, sa_, sz_, ss_, i64_w, i32_w]
  rfl
 refine pure_ (i := 4) (N := some 19) (v := ?_) (a' := ?_) #[F,T,F,F,T,F,F,F,F,F,F,F,F,F] rfl rfl (by kernel_rfl) (fun _ _ _ h => h) (Or.inl ⟨by rfl, ?_⟩) ?_ ?_
 rotate_left
 ·intro w'
  go_simp
  with_reducible rfl
 rotate_left
 ·simp only [Act.put, sa_, sz_, ss_, i64_w, i32_w]
  rfl
 refine pure_ (i := 7) (N := some 22) (v := ?_) (a' := ?_) #[F,T,F,F,T,F,F,T,F,F,F,F,F,F] rfl rfl (by kernel_rfl) (fun _ _ _ h => h) (Or.inl ⟨by rfl, ?_⟩) ?_ ?_
 rotate_left
 ·intro w'
  go_simp
  with_reducible rfl
 rotate_left
 ·simp only [Act.put, sa_, sz_, ss_, i64_w, i32_w]
  rfl
 refine pure_ (i := 10) (N := some 25) (v := ?_) (a' := ?_) #[F,T,F,F,T,F,F,T,F,F,T,F,F,F] rfl rfl (by kernel_rfl) (fun _ _ _ h => h) (Or.inl ⟨by rfl, ?_⟩) ?_ ?_
 rotate_left
 ·intro w'
  go_simp
  with_reducible rfl
 rotate_left
 ·simp only [Act.put, sa_, sz_, ss_, i64_w, i32_w]
  rfl
 refine take_ (i := 2) (N := some 17) (v := ?_) (a' := ?_) #[F,T,T,F,T,F,F,T,F,F,T,F,F,F] rfl rfl (by kernel_rfl) (fun _ _ _ h => h) (Or.inl ⟨by rfl, ?_⟩) hHeld ?_ ?_
 rotate_left
 ·rintro w' h
  have y0 := h.wb.f0
  have y1 := h.wb.f1
  have y2 := h.wb.f2
  have y3 := h.wb.f3
  go_simp
  with_reducible rfl
 rotate_left
 ·simp only [Act.put, sa_, sz_, ss_, i64_w, i32_w]
  rfl
 refine take_ (i := 5) (N := some 20) (v := ?_) (a' := ?_) #[F,T,T,F,T,T,F,T,F,F,T,F,F,F] rfl rfl (by kernel_rfl) (fun _ _ _ h => h) (Or.inl ⟨by rfl, ?_⟩) hHeld ?_ ?_
 rotate_left
 ·rintro w' h
  have y0 := h.wb.f0
  have y1 := h.wb.f1
  have y2 := h.wb.f2
  have y3 := h.wb.f3
  go_simp
  with_reducible rfl
 rotate_left
 ·simp only [Act.put, sa_, sz_, ss_, i64_w, i32_w]
  rfl
 refine take_ (i := 8) (N := some 23) (v := ?_) (a' := ?_) #[F,T,T,F,T,T,F,T,T,F,T,F,F,F] rfl rfl (by kernel_rfl) (fun _ _ _ h => h) (Or.inl ⟨by rfl, ?_⟩) hHeld ?_ ?_
 rotate_left
 ·rintro w' h
  have y0 := h.wb.f0
  have y1 := h.wb.f1
  have y2 := h.wb.f2
  have y3 := h.wb.f3
  go_simp
  with_reducible rfl
 rotate_left
 ·simp only [Act.put, sa_, sz_, ss_, i64_w, i32_w]
  rfl
 refine take_ (i := 11) (N := some 26) (v := ?_) (a' := ?_) #[F,T,T,F,T,T,F,T,T,F,T,T,F,F] rfl rfl (by kernel_rfl) (fun _ _ _ h => h) (Or.inl ⟨by rfl, ?_⟩) hHeld ?_ ?_
 rotate_left
 ·rintro w' h
  have y0 := h.wb.f0
  have y1 := h.wb.f1
  have y2 := h.wb.f2
  have y3 := h.wb.f3
  go_simp
  with_reducible rfl
 rotate_left
 ·simp only [Act.put, sa_, sz_, ss_, i64_w, i32_w]
  rfl
 refine one_ (i := 0) (N := some 15) #[T,T,T,F,T,T,F,T,T,F,T,T,F,F] rfl rfl (by kernel_rfl) (by decide) (fun K hK => ?_)
 go_simp
 refine hK.out _ _ (hHeld.below (below_alloc (Below.refl _ _) _)) (fun hHeld => ?_)
 clear hK K
 try simp only [Act.put, sa_, sz_, ss_, i64_w, i32_w]
 have HR0 := Lib.hid (row_lit W3 [] #[] 0 rfl rfl (by decide))
 have HB0 := Lib.hid (below_alloc (Below.refl W3.heap.size W3) (.cells #[] 41))
 generalize (some ⟨W3.heap.size, 0, none⟩ : Option Addr) = P0 at HR0 ⊢
 generalize W3.alloc (.cells #[] 41) = V0 at HR0 HB0 hHeld ⊢
 refine one_ (i := 3) (N := some 18) #[T,T,T,T,T,T,F,T,T,F,T,T,F,F] rfl rfl (by kernel_rfl) (by decide) (fun K hK => ?_)
 refine Kd.R_append_rows_step k41 (w0 := W3) W3.heap.size (by rfl) (.tmp 15) (.tmp 17) 23 41 (.agg #[.string ⟨#[]⟩, .string ⟨#[]⟩, .string ⟨#[]⟩, .string ⟨#[]⟩, .string ⟨#[]⟩, .string ⟨#[]⟩]) 96 rfl Try.underlying23 (by kernel_rfl) rfl (by decide) (by decide) (.slice P0 0 0) [] x.l1 x.A1 x.l1.length x.c1 (fun _ => True) (fun _ => False) rfl rfl HR0.out.out hHeld.wb.rd.r1.C kmR_flat (fun _ h => h.elim) (fun _ _ => trivial) HB0.out HB0.out.size (by have := hl.n1; have := hl.n2; have := hl.n3; have := hl.n4; simp only [List.length_append, List.length_nil]; omega) ?_
 intro v1 w30 hR1 hB1 hgr _
 obtain ⟨P1, d1, rfl, hrow⟩ := row_of hR1
 have HR1 := Lib.hid hrow
 have HB1 := Lib.hid hB1
 clear hrow hR1 hB1 hgr HR0 HB0
 refine hK.out _ _ (HQ.out.below HB1.out) (fun hHeld => ?_)
 clear hK K
 try simp only [Act.put, sa_, sz_, ss_, i64_w, i32_w]
 refine one_ (i := 6) (N := some 21) #[T,T,T,T,T,T,T,T,T,F,T,T,F,F] rfl rfl (by kernel_rfl) (by decide) (fun K hK => ?_)
 refine Kd.R_append_rows_step k41 (w0 := W3) W3.heap.size (by rfl) (.tmp 18) (.tmp 20) 23 41 (.agg #[.string ⟨#[]⟩, .string ⟨#[]⟩, .string ⟨#[]⟩, .string ⟨#[]⟩, .string ⟨#[]⟩, .string ⟨#[]⟩]) 96 rfl Try.underlying23 (by kernel_rfl) rfl (by decide) (by decide) (.slice P1 ([] ++ x.l1).length d1) ([] ++ x.l1) x.l2 x.A2 x.l2.length x.c2 (fun _ => True) (fun _ => False) rfl rfl HR1.out.out hHeld.wb.rd.r2.C kmR_flat (fun _ h => h.elim) (fun _ _ => trivial) HB1.out HB1.out.size (by have := hl.n1; have := hl.n2; have := hl.n3; have := hl.n4; simp only [List.length_append, List.length_nil]; omega) ?_
 intro v1 w31 hR1 hB1 hgr _
 obtain ⟨P2, d2, rfl, hrow⟩ := row_of hR1
 have HR2 := Lib.hid hrow
 have HB2 := Lib.hid hB1
 clear hrow hR1 hB1 hgr HR1 HB1
 refine hK.out _ _ (HQ.out.below HB2.out) (fun hHeld => ?_)
 clear hK K
 try simp only [Act.put, sa_, sz_, ss_, i64_w, i32_w]
 refine one_ (i := 9) (N := some 24) #[T,T,T,T,T,T,T,T,T,T,T,T,F,F] rfl rfl (by kernel_rfl) (by decide) (fun K hK => ?_)
 refine Kd.R_append_rows_step k41 (w0 := W3) W3.heap.size (by rfl) (.tmp 21) (.tmp 23) 23 41 (.agg #[.string ⟨#[]⟩, .string ⟨#[]⟩, .string ⟨#[]⟩, .string ⟨#[]⟩, .string ⟨#[]⟩, .string ⟨#[]⟩]) 96 rfl Try.underlying23 (by kernel_rfl) rfl (by decide) (by decide) (.slice P2 (([] ++ x.l1) ++ x.l2).length d2) (([] ++ x.l1) ++ x.l2) x.l3 x.A3 x.l3.length x.c3 (fun _ => True) (fun _ => False) rfl rfl HR2.out.out hHeld.wb.rd.r3.C kmR_flat (fun _ h => h.elim) (fun _ _ => trivial) HB2.out HB2.out.size (by have := hl.n1; have := hl.n2; have := hl.n3; have := hl.n4; simp only [List.length_append, List.length_nil]; omega) ?_
 intro v1 w32 hR1 hB1 hgr _
 obtain ⟨P3, d3, rfl, hrow⟩ := row_of hR1
 have HR3 := Lib.hid hrow
 have HB3 := Lib.hid hB1
 clear hrow hR1 hB1 hgr HR2 HB2
 refine hK.out _ _ (HQ.out.below HB3.out) (fun hHeld => ?_)
 clear hK K
 try simp only [Act.put, sa_, sz_, ss_, i64_w, i32_w]
 refine one_ (i := 12) (N := some 27) #[T,T,T,T,T,T,T,T,T,T,T,T,T,F] rfl rfl (by kernel_rfl) (by decide) (fun K hK => ?_)
 refine Kd.R_append_rows_step k41 (w0 := W3) W3.heap.size (by rfl) (.tmp 24) (.tmp 26) 23 41 (.agg #[.string ⟨#[]⟩, .string ⟨#[]⟩, .string ⟨#[]⟩, .string ⟨#[]⟩, .string ⟨#[]⟩, .string ⟨#[]⟩]) 96 rfl Try.underlying23 (by kernel_rfl) rfl (by decide) (by decide) (.slice P3 ((([] ++ x.l1) ++ x.l2) ++ x.l3).length d3) ((([] ++ x.l1) ++ x.l2) ++ x.l3) x.l4 x.A4 x.l4.length x.c4 (fun _ => True) (fun _ => False) rfl rfl HR3.out.out hHeld.wb.rd.r4.C kmR_flat (fun _ h => h.elim) (fun _ _ => trivial) HB3.out HB3.out.size (by have := hl.n1; have := hl.n2; have := hl.n3; have := hl.n4; simp only [List.length_append, List.length_nil]; omega) ?_
 intro v1 w33 hR1 hB1 hgr _
 obtain ⟨P4, d4, rfl, hrow⟩ := row_of hR1
 have HR4 := Lib.hid hrow
 have HB4 := Lib.hid hB1
 clear hrow hR1 hB1 hgr HR3 HB3
 have HALL := Lib.hid (allB_any x)
 have HSM := Lib.hid (allB_small hs)
 have hal := allB_len hl
 have HR := Lib.hid (show Row w33 W3.heap.size P4 d4 (allB x) from HR4.out)
 rw [show ((((([] : List S41) ++ x.l1) ++ x.l2) ++ x.l3) ++ x.l4).length = (allB x).length from rfl]
 generalize allB x = al at HALL HSM HR hal ⊢
 clear HR4
 refine hK.out _ _ (HQ.out.below HB4.out) (fun hHeld => ?_)
 clear hK K
 try simp only [Act.put, sa_, sz_, ss_, i64_w, i32_w]
 refine pure_ (i := 13) (N := some 6) (v := ?_) (a' := ?_) #[T,T,T,T,T,T,T,T,T,T,T,T,T,T] rfl rfl (by kernel_rfl) (fun _ _ _ h => h) (Or.inl ⟨by rfl, ?_⟩) ?_ ?_
 rotate_left
 ·intro w'
  go_simp
  with_reducible rfl
 rotate_left
 ·simp only [Act.put, sa_, sz_, ss_, i64_w, i32_w]
  rfl
 clear hHeld
 refine done_ (by kernel_rfl) ?_
 have HW4 := Lib.hid (HQ.out.below HB4.out)
 clear HB4 HQ
 go_wp2_with fail
 go_loopw [7] (fun i wr => ∃ (j : Nat), i = .int .i64 j ∧ j ≤ al.length ∧ (al.take j).any badB = false ∧ Below w33.heap.size w33 wr) (fun i _ => al.length - (intOf i).toNat)
 case atStart => exact ⟨0, rfl, by omega, by simp, Below.refl _ _⟩
 case round =>
  obtain ⟨j, rfl, hj, hno, hB⟩ := hrel
  have HWj := Lib.hid (HW4.out.below hB)
  have HRj := Lib.hid (HR.out.below hB)
  have HBj := Lib.hid hB
  have HNO := Lib.hid hno
  clear hno hB
  by_cases hjl : j < al.length
  ·have hj1 : (j : Int) < (al.length : Int) := by omega
   have hj0 : (0 : Int) ≤ (j : Int) := by omega
   obtain ⟨ad, hA, x0, x1, x2, x3, x4, x5⟩ := at_T41 HRj.out.rd.C (j : Int) (by omega) (by omega)
   subst hA
   rw [rd_tup al j hjl] at x0 x1 x2 x3 x4 x5
   simp only [Int.toNat_natCast] at x0 x1 x2 x3 x4 x5
   have hst := anyTake badB al j hjl
   rw [HNO.out, Bool.false_or] at hst
   have HST := Lib.hid hst
   have HAT := Lib.hid (any_at badB al j hjl)
   have HSt := Lib.hid (HSM.out _ (List.getElem_mem hjl))
   clear hst
   generalize al[j] = t at x0 x1 x2 x3 x4 x5 HST HSt HAT
   go_wp2_with fail
   refine (rok_c t HSt.out _).mono ?_
   rintro e w5 ⟨rfl, hb⟩
   have HB5 := Lib.hid (below_then HBj.out HBj.out.size hb)
   clear hb x0 x1 x2 x3 x4 x5
   cases hok : okT t
   ·have HOK := Lib.hid (show badB t = true by unfold badB; rw [hok]; rfl)
    clear hok
    go_wp2_with fail
    go_ret
    exact rrefused (by unfold wErrA; rw [← HALL.out, HAT.out HOK.out, if_pos rfl]) (by decide) hgl (HW4.out.below HB5.out).wb
   ·have HOK := Lib.hid (show badB t = false by unfold badB; rw [hok]; rfl)
    clear hok
    go_wp2_with fail
    go_roundw
    case rel => exact ⟨j + 1, by go_num, by omega, by rw [HST.out, HOK.out], HB5.out⟩
    case measure => simp [intOf]; omega
  ·obtain rfl : j = al.length := by omega
   have HWR := Lib.hid (show wrongB x = false by rw [← HALL.out, ← HNO.out, List.take_length])
   clear HALL HSM HR HRj HBj HNO HW4 hjl hj
   have y1 := HWj.out.wb.f1
   go_wp2_with fail
   refine (refOf_c HWj.out.wb.rd.r2 (by have := hl.n2; omega)).mono ?_
   rintro e w8 ⟨Ad, cd, rfl, hrow, hb⟩
   have HD := Lib.hid hrow.rd
   have HW8 := Lib.hid (HWj.out.below hb)
   clear hrow hb HWj y1
   go_wp2_with fail

   go_loopw [9] (fun i wz => ∃ (j : Nat), i = .int .i64 j ∧ j ≤ x.l1.length ∧ (x.l1.take j).any (fun t => decide (t ∈ x.l2)) = false ∧ Below w8.heap.size w8 wz) (fun i _ => x.l1.length - (intOf i).toNat)
   case atStart => exact ⟨0, rfl, by omega, by simp, Below.refl _ _⟩
   case round =>
    obtain ⟨j, rfl, hj, hno, hB⟩ := hrel
    have HWj := Lib.hid (HW8.out.below hB)
    have HSj := Lib.hid (HD.out.below hB)
    have HBj := Lib.hid hB
    have HNO := Lib.hid hno
    clear hno hB
    have yy := HWj.out.wb.f0
    have hbn := hl.n1
    by_cases hjl : j < x.l1.length
    ·have hj1 : (j : Int) < (x.l1.length : Int) := by omega
     have hj0 : (0 : Int) ≤ (j : Int) := by omega
     obtain ⟨ad, hA, x0, x1, x2, x3, x4, x5⟩ := at_T41 HWj.out.wb.rd.r1.C (j : Int) (by omega) (by omega)
     rw [hA] at yy
     clear hA
     rw [rd_tup x.l1 j hjl] at x0 x1 x2 x3 x4 x5
     simp only [Int.toNat_natCast] at x0 x1 x2 x3 x4 x5
     have hst := anyTake (fun t => decide (t ∈ x.l2)) x.l1 j hjl
     rw [HNO.out, Bool.false_or] at hst
     have HST := Lib.hid hst
     have HAT := Lib.hid (any_at (fun t => decide (t ∈ x.l2)) x.l1 j hjl)
     clear hst
     generalize x.l1[j] = t at x0 x1 x2 x3 x4 x5 HST HAT
     go_wp2_with fail
     refine (refHas_c HSj.out (by have := norm_length cmpT x.l2; have := hl.n2; omega) (ss_norm cmpT_tot x.l2) t).mono ?_
     rw [decide_eq_decide.2 (mem_norm cmpT_tot t x.l2)]
     rintro e w5 ⟨rfl, hb⟩
     have HB5 := Lib.hid (below_then HBj.out HBj.out.size hb)
     clear hb
     cases hok : decide (t ∈ x.l2)
     ·have HOK := Lib.hid hok
      clear hok
      go_wp2_with fail
      go_roundw
      case rel => exact ⟨j + 1, by go_num, by omega, by rw [HST.out]; simp only [HOK.out, Bool.not_true, Bool.not_false], HB5.out⟩
      case measure => simp [intOf]; omega
     ·have HOK := Lib.hid hok
      clear hok
      go_wp2_with fail
      go_ret
      exact rrefused (wErr_both HWR.out (HAT.out HOK.out)) (by decide) hgl (HW8.out.below HB5.out).wb
    ·obtain rfl : j = x.l1.length := by omega
     have HE1 := Lib.hid (show x.l1.any (fun t => decide (t ∈ x.l2)) = false by rw [← HNO.out, List.take_length])
     clear HBj hjl hj HNO 
     obtain ⟨wa1, hwa⟩ : ∃ W, W = wr := ⟨_, rfl⟩
     rw [← hwa] at HWj HSj yy ⊢
     clear hwa
     have HWj1 := HWj
     clear HWj HSj HW8 HD
     go_wp2_with fail
     clear yy
     go_loopw [10] (fun i wz => ∃ (j : Nat), i = .int .i64 j ∧ j ≤ x.l3.length ∧ (x.l3.take j).any (fun t => !decide (t ∈ now)) = false ∧ Below wa1.heap.size wa1 wz) (fun i _ => x.l3.length - (intOf i).toNat)
     case atStart => exact ⟨0, rfl, by omega, by simp, Below.refl _ _⟩
     case round =>
      obtain ⟨j, rfl, hj, hno, hB⟩ := hrel
      have HWj := Lib.hid (HWj1.out.below hB)
      have HSj := Lib.hid (HWj1.out.nn.below hB)
      have HBj := Lib.hid hB
      have HNO := Lib.hid hno
      clear hno hB
      have yy := HWj.out.wb.f2
      have hbn := hl.n3
      by_cases hjl : j < x.l3.length
      ·have hj1 : (j : Int) < (x.l3.length : Int) := by omega
       have hj0 : (0 : Int) ≤ (j : Int) := by omega
       obtain ⟨ad, hA, x0, x1, x2, x3, x4, x5⟩ := at_T41 HWj.out.wb.rd.r3.C (j : Int) (by omega) (by omega)
       rw [hA] at yy
       clear hA
       rw [rd_tup x.l3 j hjl] at x0 x1 x2 x3 x4 x5
       simp only [Int.toNat_natCast] at x0 x1 x2 x3 x4 x5
       have hst := anyTake (fun t => !decide (t ∈ now)) x.l3 j hjl
       rw [HNO.out, Bool.false_or] at hst
       have HST := Lib.hid hst
       have HAT := Lib.hid (any_at (fun t => !decide (t ∈ now)) x.l3 j hjl)
       clear hst
       generalize x.l3[j] = t at x0 x1 x2 x3 x4 x5 HST HAT
       go_wp2_with fail
       refine (refHas_c HSj.out (by omega) HSS.out t).mono ?_
       rintro e w5 ⟨rfl, hb⟩
       have HB5 := Lib.hid (below_then HBj.out HBj.out.size hb)
       clear hb
       cases hok : decide (t ∈ now)
       ·have HOK := Lib.hid hok
        clear hok
        go_wp2_with fail
        go_ret
        exact rrefused (wErr_lack HWR.out HE1.out (HAT.out (by rw [HOK.out]; rfl))) (by decide) hgl (HWj1.out.below HB5.out).wb
       ·have HOK := Lib.hid hok
        clear hok
        go_wp2_with fail
        go_roundw
        case rel => exact ⟨j + 1, by go_num, by omega, by rw [HST.out]; simp only [HOK.out, Bool.not_true, Bool.not_false], HB5.out⟩
        case measure => simp [intOf]; omega
      ·obtain rfl : j = x.l3.length := by omega
       have HE3 := Lib.hid (show x.l3.any (fun t => !decide (t ∈ now)) = false by rw [← HNO.out, List.take_length])
       clear HBj hjl hj HNO 
       obtain ⟨wa3, hwa⟩ : ∃ W, W = wr := ⟨_, rfl⟩
       rw [← hwa] at HWj HSj yy ⊢
       clear hwa
       have HWj3 := HWj
       clear HWj HSj HWj1
       go_wp2_with fail
       clear yy
       go_loopw [11] (fun i wz => ∃ (j : Nat), i = .int .i64 j ∧ j ≤ x.l4.length ∧ (x.l4.take j).any (fun t => decide (t ∈ now)) = false ∧ Below wa3.heap.size wa3 wz) (fun i _ => x.l4.length - (intOf i).toNat)
       case atStart => exact ⟨0, rfl, by omega, by simp, Below.refl _ _⟩
       case round =>
        obtain ⟨j, rfl, hj, hno, hB⟩ := hrel
        have HWj := Lib.hid (HWj3.out.below hB)
        have HSj := Lib.hid (HWj3.out.nn.below hB)
        have HBj := Lib.hid hB
        have HNO := Lib.hid hno
        clear hno hB
        have yy := HWj.out.wb.f3
        have hbn := hl.n4
        by_cases hjl : j < x.l4.length
        ·have hj1 : (j : Int) < (x.l4.length : Int) := by omega
         have hj0 : (0 : Int) ≤ (j : Int) := by omega
         obtain ⟨ad, hA, x0, x1, x2, x3, x4, x5⟩ := at_T41 HWj.out.wb.rd.r4.C (j : Int) (by omega) (by omega)
         rw [hA] at yy
         clear hA
         rw [rd_tup x.l4 j hjl] at x0 x1 x2 x3 x4 x5
         simp only [Int.toNat_natCast] at x0 x1 x2 x3 x4 x5
         have hst := anyTake (fun t => decide (t ∈ now)) x.l4 j hjl
         rw [HNO.out, Bool.false_or] at hst
         have HST := Lib.hid hst
         have HAT := Lib.hid (any_at (fun t => decide (t ∈ now)) x.l4 j hjl)
         clear hst
         generalize x.l4[j] = t at x0 x1 x2 x3 x4 x5 HST HAT
         go_wp2_with fail
         refine (refHas_c HSj.out (by omega) HSS.out t).mono ?_
         rintro e w5 ⟨rfl, hb⟩
         have HB5 := Lib.hid (below_then HBj.out HBj.out.size hb)
         clear hb
         cases hok : decide (t ∈ now)
         ·have HOK := Lib.hid hok
          clear hok
          go_wp2_with fail
          go_roundw
          case rel => exact ⟨j + 1, by go_num, by omega, by rw [HST.out]; simp only [HOK.out, Bool.not_true, Bool.not_false], HB5.out⟩
          case measure => simp [intOf]; omega
         ·have HOK := Lib.hid hok
          clear hok
          go_wp2_with fail
          go_ret
          exact rrefused (wErr_have HWR.out HE1.out HE3.out (HAT.out HOK.out)) (by decide) hgl (HWj3.out.below HB5.out).wb
        ·obtain rfl : j = x.l4.length := by omega
         have HE4 := Lib.hid (show x.l4.any (fun t => decide (t ∈ now)) = false by rw [← HNO.out, List.take_length])
         clear HBj hjl hj HNO 
         obtain ⟨wa4, hwa⟩ : ∃ W, W = wr := ⟨_, rfl⟩
         rw [← hwa] at HWj HSj yy ⊢
         clear hwa
         have HWj4 := HWj
         clear HWj HSj HWj3
         go_wp2_with fail
         clear yy
         have HF := Lib.hid (wErr_rest (m := m) HWR.out HE1.out HE3.out HE4.out)
         clear HE1 HE3 HE4
         have HQ := Lib.hid (show RW w B g q m past now x b0 An cn wa4.drew from HWj4.out.below (below_drew (Below.refl _ _)))
         refine start_ (n := 8) (S := fun w' => RW w B g q m past now x b0 An cn w') (ds := []) #[F,F,F,F,F,F,F,F] (by kernel_rfl) rfl rfl (HQ.out) (fun hHeld => ?_)
         clear HWj4 HQ
         generalize wa4.drew = W24 at hHeld ⊢
         refine pure_ (i := 0) (N := some 86) (v := ?_) (a' := ?_) #[T,F,F,F,F,F,F,F] rfl rfl (by kernel_rfl) (fun _ _ _ h => h) (Or.inl ⟨by rfl, ?_⟩) ?_ ?_
         rotate_left
         ·intro w'
          go_simp
          with_reducible rfl
         rotate_left
         ·simp only [Act.put, sa_, sz_, ss_, i64_w, i32_w]
          rfl
         refine pure_ (i := 1) (N := some 87) (v := ?_) (a' := ?_) #[T,T,F,F,F,F,F,F] rfl rfl (by kernel_rfl) (fun _ _ _ h => h) (Or.inl ⟨by rfl, ?_⟩) ?_ ?_
         rotate_left
         ·intro w'
          go_simp
          with_reducible rfl
         rotate_left
         ·simp only [Act.put, sa_, sz_, ss_, i64_w, i32_w]
          rfl
         refine pure_ (i := 4) (N := some 90) (v := ?_) (a' := ?_) #[T,T,F,F,T,F,F,F] rfl rfl (by kernel_rfl) (fun _ _ _ h => h) (Or.inl ⟨by rfl, ?_⟩) ?_ ?_
         rotate_left
         ·intro w'
          go_simp
          with_reducible rfl
         rotate_left
         ·simp only [Act.put, sa_, sz_, ss_, i64_w, i32_w]
          rfl
         refine take_ (i := 2) (N := some 88) (v := ?_) (a' := ?_) #[T,T,T,F,T,F,F,F] rfl rfl (by kernel_rfl) (fun _ _ _ h => h) (Or.inl ⟨by rfl, ?_⟩) hHeld ?_ ?_
         rotate_left
         ·rintro w' h
          have y0 := h.wb.f0
          have y1 := h.wb.f1
          have y2 := h.wb.f2
          have y3 := h.wb.f3
          go_simp
          with_reducible rfl
         rotate_left
         ·simp only [Act.put, sa_, sz_, ss_, i64_w, i32_w]
          rfl
         refine take_ (i := 5) (N := some 91) (v := ?_) (a' := ?_) #[T,T,T,F,T,T,F,F] rfl rfl (by kernel_rfl) (fun _ _ _ h => h) (Or.inl ⟨by rfl, ?_⟩) hHeld ?_ ?_
         rotate_left
         ·rintro w' h
          have y0 := h.wb.f0
          have y1 := h.wb.f1
          have y2 := h.wb.f2
          have y3 := h.wb.f3
          go_simp
          with_reducible rfl
         rotate_left
         ·simp only [Act.put, sa_, sz_, ss_, i64_w, i32_w]
          rfl
         refine one_ (i := 3) (N := some 89) #[T,T,T,T,T,T,F,F] rfl rfl (by kernel_rfl) (by decide) (fun K hK => ?_)
         go_simp
         refine (refMinus_c hHeld.nn hHeld.wb.rd.r2 (by omega) (by have := hl.n2; omega)).mono ?_
         rintro e w43 ⟨Ab, cb, rfl, hrow, hb⟩
         have RP := Lib.hid hrow.rd
         clear hrow
         refine hK.out _ _ (hHeld.below hb) (fun hHeld => ?_)
         clear hK K
         try simp only [Act.put, sa_, sz_, ss_, i64_w, i32_w]
         refine one_ (i := 6) (N := some 92) #[T,T,T,T,T,T,T,F] rfl rfl (by kernel_rfl) (by decide) (fun K hK => ?_)
         go_simp
         refine (refPlus_c RP.out hHeld.wb.rd.r1 (by have := less_length (norm cmpT now) x.l2; have := norm_length cmpT now; omega) (by have := hl.n1; omega)).mono ?_
         rintro e w46 ⟨AN, cN, rfl, hrow, hb⟩
         have HN := Lib.hid (show Row w46 B AN cN (nextW now x) from hrow.lower (by have h1 := hHeld.wb.st.base; have h2 := hHeld.wb.st.lt; omega))
         have HWN := Lib.hid (hHeld.below hb)
         rw [show norm cmpT (less (norm cmpT now) x.l2 ++ x.l1) = nextW now x from rfl]
         clear hrow RP
         refine hK.out _ _ (HWN.out) (fun hHeld => ?_)
         clear hK K
         try simp only [Act.put, sa_, sz_, ss_, i64_w, i32_w]
         refine pure_ (i := 7) (N := some 12) (v := ?_) (a' := ?_) #[T,T,T,T,T,T,T,T] rfl rfl (by kernel_rfl) (fun _ _ _ h => h) (Or.inl ⟨by rfl, ?_⟩) ?_ ?_
         rotate_left
         ·intro w'
          go_simp
          with_reducible rfl
         rotate_left
         ·simp only [Act.put, sa_, sz_, ss_, i64_w, i32_w]
          rfl
         clear hHeld
         refine done_ (by kernel_rfl) ?_
         obtain ⟨v, hvq, hvg, hvB, hvR⟩ := HWN.out.wb.st.out
         have k0 := (blk_cell hvg 0).trans (rfl : _ = some (Value.int .i64 m))
         have k1 := (blk_cell hvg 1).trans (rfl : _ = some v)
         have kf := blk_frozen hvg 1
         have HG := Lib.hid hvg
         have HRW := Lib.hid hvR
         have HVQ := Lib.hid hvq
         clear hvg hvR hvq hvB
         have hnx : (nextW now x).length < 1000000000 := by have := nextW_length now x; have := hl.n1; omega
         by_cases hbig : m < ((nextW now x).length : Int)
         ·have HBIG := Lib.hid hbig
          go_wp2_with fail
          go_ret
          exact rrefused (HF.out.2.trans (if_pos HBIG.out)) (by decide) hgl HWN.out.wb
         ·have HBIG := Lib.hid hbig
          go_wp2_with fail
          refine (same_c HN.out.rd HWN.out.nn hnx).mono ?_
          rintro e w47 ⟨rfl, hdr⟩
          have hb := below_of_drawn hdr
          have HR6 := Lib.hid (HWN.out.below hb)
          have HN6 := Lib.hid (HN.out.below hb)
          have HG6 := Lib.hid (blkB HG.out hb)
          have HRW6 := Lib.hid (Kd.R_below HRW.out hb)
          have HE := Lib.hid (show wErr m now x = 0 from HF.out.1.trans (if_neg (by have := HBIG.out; omega)))
          clear hdr hb HWN HN HG HRW k0 k1 kf HF HBIG hbig
          have k0 := (blk_cell HG6.out 0).trans (rfl : _ = some (Value.int .i64 m))
          have k1 := (blk_cell HG6.out 1).trans (rfl : _ = some v)
          have kf := blk_frozen HG6.out 1
          by_cases heq : nextW now x = now
          ·rw [decide_eq_true heq]
           have HEQ := Lib.hid heq
           clear heq
           go_wp2_with fail
           go_ret
           exact rdone HWR.out (rsame_wrote HE.out HEQ.out hgl HR6.out.wb)
          ·rw [decide_eq_false heq]
           have HEQ := Lib.hid heq
           clear heq
           have HAP := Lib.hid (next_apart HRW6.out HN6.out)
           have HBB := Lib.hid (show B ≤ w47.heap.size by have h1 := HR6.out.wb.bw.size; have h2 := HR6.out.wb.st.base; omega)
           go_wp2_with (at_builtin; refine Kd.R_append (Kd.slice 41 k41) (w0 := w47) B rfl (.tmp 108) (.tmp 110) 48 23 (.slice none 0 0) 24 rfl Try.underlying48 info23 rfl (by decide) (by decide) v (past ++ [now]) (nextW now x) [.slice AN (nextW now x).length cN] (fun _ => True) (fun k => some k ≠ v.ownBlock) rfl rfl ?ap1 ?ap2 ?ap3 HRW6.out (Below.refl _ _) HBB.out ?ap5 ?_)
           case ap1 => exact HAP.out
           case ap2 => exact fun k hk => ⟨trivial, hk⟩
           case ap3 => exact fun _ _ => trivial
           case ap5 => simp only [List.length_append, List.length_cons, List.length_nil]; omega
           intro v1 w11 hR1 hB1 hgr hat
           obtain ⟨Av, cv, hv1, _⟩ := Kd.R_reads hR1
           generalize (past ++ [now, nextW now x]).length = n1 at hv1
           subst hv1
           have G11 := blk_grown HG6.out hgr (Kd.R_ne HRW6.out HG6.out (by decide))
           have HNEW := Lib.hid (rnew_wrote HE.out HEQ.out hgl HR6.out.wb (by first | exact hR1 | (rw [List.append_assoc]; exact hR1)) hB1 hgr hat G11 HVQ.out)
           have j1 := (blk_cell G11 1).trans (rfl : _ = some v)
           have jf := blk_frozen G11 1
           clear hR1 hB1 hgr hat G11 k0 k1 kf
           go_wp2
           go_ret
           exact rdone HWR.out HNEW.out
open Go.Proofs.YtpgmeaofmlipkaaH
def WroteX (w : World) (B g : Nat) (q : Option Nat) (m : Int) (past : List (List S41)) (now : List S41) (x : BArg) (e : Ending) (w' : World) : Prop :=
 ∃ q', e = .returned (.int .i64 (wErrA m now x)) ∧ St w' B g q' m (pastA m past now x) (nowA m now x) ∧ Kept w w' (fun k => k = g ∨ some k = q) ∧ Below B w w' ∧ (q' = q ∨ ∃ k, q' = some k ∧ w.heap.size ≤ k)
theorem write_x {w : World} {B g : Nat} {q : Option Nat} {m : Int} {past now} (h : St w B g q m past now) (x : BArg) (hr : BRd x w) (hl : BLen x) (hs : BSmall x) (hn : now.length < 100000000) (hss : SS cmpT now) (hp : past.length < 1000000) :
  Calls Try.prog 29 #[.pointer (some ⟨g, 0, none⟩), .agg #[.slice x.A1 x.l1.length x.c1, .slice x.A2 x.l2.length x.c2, .slice x.A3 x.l3.length x.c3, .slice x.A4 x.l4.length x.c4]] w (WroteX w B g q m past now x) := by
 by_cases hw : wrongB x = true
 ·have h1 : wErrA m now x = 2 := by unfold wErrA; rw [if_pos hw]
  have h2 : nowA m now x = now := by unfold nowA; rw [h1, if_neg (by decide)]
  have h3 : pastA m past now x = past := by unfold pastA; rw [h1, if_neg (by simp)]
  refine (write_wrong h x hr hl hs (by unfold Wrong; unfold wrongB at hw; simpa [Bool.or_eq_true] using hw)).mono fun e w' ⟨he, hb⟩ => ?_
  exact ⟨q, by rw [h1]; exact he, by rw [h2, h3]; exact h.below hb, Kept.of_below hb _, hb.mono (by have := h.base; have := h.lt; omega), Or.inl rfl⟩
 ·have h1 : wErrA m now x = wErr m now x := by unfold wErrA; rw [if_neg hw]
  refine (write_main h x hr hl hs (by unfold NotWrong; unfold wrongB at hw; simpa [Bool.or_eq_true] using hw) hn hss hp).mono fun e w' ⟨q', past', now', he, hst, hk, hb, hq, hc⟩ => ?_
  have e1 : pastA m past now x = past' ∧ nowA m now x = now' := by
   unfold pastA nowA
   rw [h1]
   by_cases h0 : wErr m now x = 0
   ·by_cases h4 : nextW now x = now
    ·rw [if_neg (fun h => h.2 h4)] at hc
     rw [if_neg (fun h => h.2 h4), if_pos h0, h4]
     exact ⟨hc.1.symm, hc.2.symm⟩
    ·rw [if_pos ⟨h0, h4⟩] at hc
     rw [if_pos ⟨h0, h4⟩, if_pos h0]
     exact ⟨hc.1.symm, hc.2.symm⟩
   ·rw [if_neg (fun h => h0 h.1)] at hc
    rw [if_neg (fun h => h0 h.1), if_neg h0]
    exact ⟨hc.1.symm, hc.2.symm⟩
  exact ⟨q', by rw [h1]; exact he, by rw [e1.1, e1.2]; exact hst, hk, hb, hq⟩
/-- A row of rows is as it was where one of three things is: its block, or one of another type. -/
theorem R_two {W W' : World} {B g t : Nat} {q : Option Nat} {v0 : Value} {l : List (List S41)} {cs : Array Value} (h : Kd.R (Kd.slice 41 k41) 23 W B (fun _ => True) v0 l) (hg : W.heap[g]? = some (.cells cs t (0, 0))) (t1 : 23 ≠ t) (t2 : 41 ≠ t)
  (hq : ∀ k, some k = q → ∃ cells, W.heap[k]? = some (.cells cells 23 (0, 0))) (hne : ∀ k, v0.ownBlock = some k → some k ≠ q) (hk : Kept W W' (fun k => k = g ∨ some k = q)) : Kd.R (Kd.slice 41 k41) 23 W' B (fun _ => True) v0 l := by
 have h1 : Kd.R (Kd.slice 41 k41) 23 W B (fun k => k ≠ g ∧ some k ≠ q) v0 l := by
  obtain ⟨inner, ho⟩ := Kd.R_own h
  refine ⟨fun k hk0 => ⟨?_, hne k hk0⟩, h.2.imp_ (fun _ _ hp => ?_)⟩
  ·rintro rfl
   obtain ⟨cells', hc'⟩ := own_typed ho k hk0
   rw [hg] at hc'
   injection hc' with hc'
   injection hc' with _ hc'
   exact t1 hc'.symm
  ·obtain ⟨u, rfl, hr⟩ := hp
   refine ⟨u, rfl, Kd.R_mono (Kd.R_bound hr) (fun k hk0 => ⟨⟨?_, ?_⟩, hk0.1.2⟩)⟩
   ·obtain ⟨_, _, _, p, hp2, cells, hc⟩ := hk0
    rintro rfl
    rw [hg] at hc
    injection hc with hc
    injection hc with _ hc
    rw [← hc] at hp2
    have h41 : t = 41 := by
     have hE : k41.E = [] := rfl
     rw [hE] at hp2
     simpa using hp2
    exact t2 h41.symm
   ·obtain ⟨_, _, _, p, hp2, cells, hc⟩ := hk0
    intro he
    obtain ⟨cells', hc'⟩ := hq k he
    rw [hc] at hc'
    injection hc' with hc'
    injection hc' with _ hc'
    rw [hc'] at hp2
    exact absurd hp2 (by decide)
 exact Kd.R_mono (Kd.R_step h1 (fun k hk0 hlt => hk.2 k hlt (by rintro (he | he); exact hk0.1 he; exact hk0.2 he))) (fun _ _ => trivial)
theorem blk_two {W W' : World} {g gr t tr : Nat} {q : Option Nat} {cs cr : Array Value} (hr : W.heap[gr]? = some (.cells cr tr (0, 0))) (hg : W.heap[g]? = some (.cells cs t (0, 0))) (h1 : tr ≠ t) (h2 : tr ≠ 23)
  (hq : ∀ k, some k = q → ∃ cells, W.heap[k]? = some (.cells cells 23 (0, 0))) (hk : Kept W W' (fun k => k = g ∨ some k = q)) : W'.heap[gr]? = some (.cells cr tr (0, 0)) := by
 rw [hk.2 gr (Array.getElem?_eq_some_iff.1 hr).1 ?_]; exact hr
 rintro (rfl | he)
 ·rw [hr] at hg
  injection hg with hg
  injection hg with _ hg
  exact h1 hg
 ·obtain ⟨cells', hc'⟩ := hq gr he
  rw [hr] at hc'
  injection hc' with hc'
  injection hc' with _ hc'
  exact h2 hc'
theorem RSt.kept {W W' : World} {B B' g gr : Nat} {q qr : Option Nat} {m m' : Int} {past now past' now'} (h : RSt W B gr qr m past now) (s : St W B' g q m' past' now') (nq : ∀ k, q = some k → qr ≠ some k) (hk : Kept W W' (fun k => k = g ∨ some k = q)) : RSt W' B gr qr m past now := by
 obtain ⟨v, hv, hg, hB, hR⟩ := h.out
 obtain ⟨u, hu, hgs, hBs, hRs⟩ := s.out
 obtain ⟨inner, ho⟩ := Kd.R_own hRs
 have hq : ∀ k, some k = q → ∃ cells, W.heap[k]? = some (.cells cells 23 (0, 0)) := fun k hk0 => own_typed ho k (by rw [hu, hk0])
 exact ⟨v, hv, blk_two hg hgs (by decide) (by decide) hq hk, hB, R_two hR hgs (by decide) (by decide) hq (fun k hk0 he => nq k he.symm (by rw [← hv, hk0])) hk⟩
theorem St.keptR {W W' : World} {B B' g gr : Nat} {q qr : Option Nat} {m m' : Int} {past now past' now'} (h : St W B g q m past now) (s : RSt W B' gr qr m' past' now') (nq : ∀ k, q = some k → qr ≠ some k) (hk : Kept W W' (fun k => k = gr ∨ some k = qr)) : St W' B g q m past now := by
 obtain ⟨v, hv, hg, hB, hR⟩ := h.out
 obtain ⟨u, hu, hgs, hBs, hRs⟩ := s.out
 obtain ⟨inner, ho⟩ := Kd.R_own hRs
 have hq : ∀ k, some k = qr → ∃ cells, W.heap[k]? = some (.cells cells 23 (0, 0)) := fun k hk0 => own_typed ho k (by rw [hu, hk0])
 exact ⟨v, hv, blk_two hg hgs (by decide) (by decide) hq hk, hB, R_two hR hgs (by decide) (by decide) hq (fun k hk0 he => nq k (by rw [← hv, hk0]) he.symm) hk⟩
theorem St.fresh2 {w : World} {B g : Nat} {q : Option Nat} {m : Int} {past now} (h : St w B g q m past now) (k : Nat) (hk : w.heap.size ≤ k) : q ≠ some k := by
 obtain ⟨u, hq, hg, hB, hR⟩ := h.out
 obtain ⟨inner, ho⟩ := Kd.R_own hR
 intro he
 have := own_lt ho k (by rw [hq, he])
 omega
theorem RSt.fresh2 {w : World} {B g : Nat} {q : Option Nat} {m : Int} {past now} (h : RSt w B g q m past now) (k : Nat) (hk : w.heap.size ≤ k) : q ≠ some k := by
 obtain ⟨u, hq, hg, hB, hR⟩ := h.out
 obtain ⟨inner, ho⟩ := Kd.R_own hR
 intro he
 have := own_lt ho k (by rw [hq, he])
 omega
/-- The two stores, side by side. -/
structure Two (W0 : World) (g : Nat) (q : Option Nat) (past : List (List S41)) (now : List S41) (gr : Nat) (qr : Option Nat) (pastr : List (List S41)) (nowr : List S41) (m : Int) (W : World) : Prop where
 st : St W W0.heap.size g q m past now
 rst : RSt W W0.heap.size gr qr m pastr nowr
 nq : ∀ k, q = some k → qr ≠ some k
 bw : Below W0.heap.size W0 W
theorem Two.below {W0 : World} {g q past now gr qr pastr nowr m} {W W' : World} (h : Two W0 g q past now gr qr pastr nowr m W) (hb : Below W.heap.size W W') : Two W0 g q past now gr qr pastr nowr m W' := ⟨h.st.below hb, h.rst.below hb, h.nq, below_then h.bw h.bw.size hb⟩
theorem Two.w1 {W0 : World} {g q past now gr qr pastr nowr m} {W W' : World} {q' past' now'} (h : Two W0 g q past now gr qr pastr nowr m W) (hst : St W' W0.heap.size g q' m past' now') (hk : Kept W W' (fun k => k = g ∨ some k = q)) (hb : Below W0.heap.size W W') (hq : q' = q ∨ ∃ k, q' = some k ∧ W.heap.size ≤ k) : Two W0 g q' past' now' gr qr pastr nowr m W' :=
 ⟨hst, h.rst.kept h.st h.nq hk, fun k hk0 => by
  rcases hq with rfl | ⟨j, rfl, hj⟩
  ·exact h.nq k hk0
  ·injection hk0 with hk0
   subst hk0
   exact h.rst.fresh2 _ hj, h.bw.trans hb⟩
theorem Two.w2 {W0 : World} {g q past now gr qr pastr nowr m} {W W' : World} {qr' past' now'} (h : Two W0 g q past now gr qr pastr nowr m W) (hst : RSt W' W0.heap.size gr qr' m past' now') (hk : Kept W W' (fun k => k = gr ∨ some k = qr)) (hb : Below W0.heap.size W W') (hq : qr' = qr ∨ ∃ k, qr' = some k ∧ W.heap.size ≤ k) : Two W0 g q past now gr qr' past' now' m W' :=
 ⟨h.st.keptR h.rst h.nq hk, hst, fun k hk0 => by
  rcases hq with rfl | ⟨j, rfl, hj⟩
  ·exact h.nq k hk0
  ·intro he
   injection he with he
   subst he
   exact h.st.fresh2 _ hj hk0, h.bw.trans hb⟩
open Go.Proofs.YtpgmeaofmlipkaaH
/-- A script's rows of numbers. -/
def IRows (w : World) (A0 : Option Addr) (n : Nat) : Prop := ∀ i, i < n → ∃ ad, A0 = some ad ∧ ∃ A c, ∃ li : List Int, w.cell? (ad.add i) = some (.slice A li.length c) ∧ li.length ≤ c ∧ Kd.C (Kd.int .i64) w A li.length li
theorem IRows.below {w W : World} {A0 n} (h : IRows w A0 n) (hb : Below w.heap.size w W) : IRows W A0 n := fun i hi => by
 obtain ⟨ad, hA, A, c, li, h1, h2, h3⟩ := h i hi
 exact ⟨ad, hA, A, c, li, pw_cell_below hb h1, h2, Kd.C_below h3 hb⟩
open Go.Proofs.YtpgmeaofmlipkaaH
/-- A region's held fact may become a narrower one on the way. -/
theorem narrow_ {P : Program} {ops : Array Oper} {Q : Exit → Act → World → Prop} {md : Region.Mode} {S1 : World → Prop} (S2 : World → Prop) (h12 : ∀ w, S2 w → S1 w) : ∀ (fuel : Nat) (l : Array Bool) (a : Act) (w : World), S2 w → wpAnyLast P md ops Q S2 [] fuel l a w → wpAnyLast P md ops Q S1 [] fuel l a w
 | 0, _, _, _, _, h => h
 | fuel + 1, _, _, _, hw, h => ⟨h.1, fun i hi => wpOp_mono (fun a' w' h' => ⟨fun _ _ => h12 _ (h'.1 (by simp) hw), narrow_ S2 h12 fuel _ a' w' (h'.1 (by simp) hw) h'.2⟩) (h.2 i hi)⟩
open Go.Proofs.YtpgmeaofmlipkaaH
theorem Row.writeR {w w' : World} {B' A c l} {B g : Nat} {q : Option Nat} {m : Int} {past now} (h : Row w B' A c l) (s : RSt w B g q m past now) (hk : Kept w w' (fun k => k = g ∨ some k = q)) : Row w' B' A c l := by
 obtain ⟨v, hq, hg, hB, hR⟩ := s.out
 obtain ⟨inner, ho⟩ := Kd.R_own hR
 refine ⟨Kd.R_mono (Kd.R_step (Kd.R_bound h.out) (fun k hk2 hlt => hk.2 k hlt ?_)) (fun _ _ => trivial)⟩
 obtain ⟨_, _, _, t, ht, cells, hc⟩ := hk2
 rintro (rfl | he)
 ·rw [hg] at hc
  injection hc with hc
  injection hc with _ hc
  rw [← hc] at ht
  exact absurd ht (by decide)
 ·obtain ⟨cells', hc'⟩ := own_typed ho k (by rw [hq, he])
  rw [hc] at hc'
  injection hc' with hc'
  injection hc' with _ hc'
  rw [hc'] at ht
  exact absurd ht (by decide)
/-- A block of another type is as it was behind a store's Write. -/
theorem blk_writeR {w w' : World} {b t : Nat} {cs : Array Value} {B g : Nat} {q : Option Nat} {m : Int} {past now} (h : w.heap[b]? = some (.cells cs t (0, 0))) (h1 : t ≠ 63) (h2 : t ≠ 23) (s : RSt w B g q m past now) (hk : Kept w w' (fun k => k = g ∨ some k = q)) : w'.heap[b]? = some (.cells cs t (0, 0)) := by
 obtain ⟨v, hq, hg, hB, hR⟩ := s.out
 obtain ⟨inner, ho⟩ := Kd.R_own hR
 refine (hk.2 b (Array.getElem?_eq_some_iff.1 h).1 ?_).trans h
 rintro (rfl | he)
 ·rw [hg] at h
  injection h with h
  injection h with _ h
  exact h1 h.symm
 ·obtain ⟨cells', hc'⟩ := own_typed ho b (by rw [hq, he])
  rw [h] at hc'
  injection hc' with hc'
  injection hc' with _ hc'
  exact h2 hc'
theorem RSt.lower {w : World} {B B' g : Nat} {q : Option Nat} {m : Int} {past now} (h : RSt w B g q m past now) (hb : B' ≤ B) : RSt w B' g q m past now := by
 obtain ⟨v, hv, hg, hB, hR⟩ := h.out
 exact ⟨v, hv, hg, by omega, Kd.R_lower hR hb⟩
theorem Two.start {W0 w2 w3 : World} {g q gr qr m} (h : St w2 W0.heap.size g q m [] []) (hr : RSt w3 w2.heap.size gr qr m [] []) (h1 : Below W0.heap.size W0 w2) (h2 : Below w2.heap.size w2 w3) : Two W0 g q [] [] gr qr [] [] m w3 := by
 refine ⟨h.below h2, hr.lower h1.size, fun k hk he => ?_, chainB h1 h2⟩
 obtain ⟨v, hv, hg, hB, hR⟩ := hr.out
 have h3 := Kd.R_base hR k (by rw [hv, he])
 exact h.fresh2 k h3 hk
/-- A batch in a variable. -/
structure BVar (b : Nat) (x : BArg) (W : World) : Prop where
 bx : W.heap[b]? = some (.cells #[.slice x.A1 x.l1.length x.c1, .slice x.A2 x.l2.length x.c2, .slice x.A3 x.l3.length x.c3, .slice x.A4 x.l4.length x.c4] 54 (0, 0))
theorem BVar.below {b x} {W W' : World} (h : BVar b x W) (hb : Below W.heap.size W W') : BVar b x W' := ⟨blkB h.bx hb⟩
theorem BVar.f0 {b x} {W : World} (h : BVar b x W) : W.cell? ⟨b, 0, none⟩ = some (.slice x.A1 x.l1.length x.c1) := (blk_cell h.bx 0).trans rfl
theorem BVar.f1 {b x} {W : World} (h : BVar b x W) : W.cell? ⟨b, 1, none⟩ = some (.slice x.A2 x.l2.length x.c2) := (blk_cell h.bx 1).trans rfl
theorem BVar.f2 {b x} {W : World} (h : BVar b x W) : W.cell? ⟨b, 2, none⟩ = some (.slice x.A3 x.l3.length x.c3) := (blk_cell h.bx 2).trans rfl
theorem BVar.f3 {b x} {W : World} (h : BVar b x W) : W.cell? ⟨b, 3, none⟩ = some (.slice x.A4 x.l4.length x.c4) := (blk_cell h.bx 3).trans rfl
theorem BVar.w1 {W0 : World} {g q past now gr qr pastr nowr m b x} {W W' : World} (h : BVar b x W) (t : Two W0 g q past now gr qr pastr nowr m W) (hk : Kept W W' (fun k => k = g ∨ some k = q)) : BVar b x W' := ⟨blk_write h.bx (by decide) (by decide) t.st hk⟩
theorem BVar.w2 {W0 : World} {g q past now gr qr pastr nowr m b x} {W W' : World} (h : BVar b x W) (t : Two W0 g q past now gr qr pastr nowr m W) (hk : Kept W W' (fun k => k = gr ∨ some k = qr)) : BVar b x W' := ⟨blk_writeR h.bx (by decide) (by decide) t.rst hk⟩
structure PL (W0 : World) (g : Nat) (q : Option Nat) (gr : Nat) (qr : Option Nat) (m : Int) (past : List (List S41)) (now : List S41) (k : Nat) (W : World) : Prop where
 two : Two W0 g q past now gr qr past now m W
 ss : SS cmpT now
 nl : now.length ≤ 60 + 12 * k
 pn : past.length ≤ k + 1
 lens : ∀ l ∈ past, l.length ≤ 60 + 12 * k
theorem PL.len_at {W0 g q gr qr m past now k} {W : World} (h : PL W0 g q gr qr m past now k W) (r : Nat) (hr : r < (past ++ [now]).length) (hk : k ≤ 1000000 := by omega) : ((past ++ [now])[r]).length < 1000000000 := by
 have h1 := List.getElem_mem hr
 rcases List.mem_append.1 h1 with h2 | h2
 ·have := h.lens _ h2; omega
 ·rw [List.mem_singleton.1 h2]; have := h.nl; omega
theorem RSt.at {w : World} {B g : Nat} {q : Option Nat} {m : Int} {past now} (h : RSt w B g q m past now) (k : Nat) (i : Int) (hi : (k : Int) = i) (hk : k < (past ++ [now]).length) : ∃ ad c A2 c2, w.cell? ⟨g, 1, none⟩ = some (.slice (some ad) (past.length + 1) c) ∧ w.cell? (ad.add i.toNat) = some (.slice A2 ((past ++ [now])[k]).length c2) ∧ Rd w A2 c2 ((past ++ [now])[k]) := by
 subst hi
 obtain ⟨A, c, h0, h1, h2, h3, h4⟩ := h.reads
 have hk2 : k < past.length + 1 := by simpa using hk
 obtain ⟨ad, cs, rfl, hlen, hK, hcell⟩ := Kd.C_get h4 ([] : List S41) (k : Int) (by omega) (by omega)
 obtain ⟨A2, c2, rfl, hl2, hC2⟩ := hK
 have e : (past ++ [now]).getD (k : Int).toNat [] = (past ++ [now])[k] := by rw [Int.toNat_natCast, List.getD_eq_getElem?_getD, List.getElem?_eq_getElem hk, Option.getD_some]
 rw [e] at hl2 hC2 hcell
 have hcz := hcell 0 _ rfl
 exact ⟨ad, c, A2, c2, h1, by simpa [Kd.slice] using hcz, hl2, hC2⟩
theorem PL.below {W0 g q gr qr m past now k} {W W' : World} (h : PL W0 g q gr qr m past now k W) (hb : Below W.heap.size W W') : PL W0 g q gr qr m past now k W' := ⟨h.two.below hb, h.ss, h.nl, h.pn, h.lens⟩
theorem wrapQ (n : Nat) (h : n ≤ 100) : wrap64 (n : Int) = (n : Int) := by unfold wrap64; omega
theorem PL.first {W0 g q gr qr m} {x : BArg} {W : World} (h : Two W0 g q (pastA m [] [] x) (nowA m [] x) gr qr (pastA m [] [] x) (nowA m [] x) m W) (hx : x.l1.length ≤ 60) : PL W0 g q gr qr m (pastA m [] [] x) (nowA m [] x) 0 W := by
 have S := step_of (m := m) (past := []) (now := []) x (by simp [SS])
 refine ⟨h, S.ss, by have := S.len; simp only [List.length_nil] at this; omega, by have := S.plen; simp only [List.length_nil] at this; omega, fun l hl => ?_⟩
 by_cases he : nowA m [] x = []
 ·rw [S.same he] at hl; simp at hl
 ·rw [S.diff he] at hl
  have : l = [] := by simpa using hl
  rw [this]; simp
theorem PL.next {W0 g q gr qr q' qr' m past now k} {x : BArg} {W W' : World} (h : PL W0 g q gr qr m past now k W) (ht : Two W0 g q' (pastA m past now x) (nowA m now x) gr qr' (pastA m past now x) (nowA m now x) m W') (hx : x.l1.length ≤ 12) : PL W0 g q' gr qr' m (pastA m past now x) (nowA m now x) (k + 1) W' := by
 have S := step_of (m := m) (past := past) (now := now) x h.ss
 refine ⟨ht, S.ss, by have := S.len; have := h.nl; omega, by have := S.plen; have := h.pn; omega, fun l hl => ?_⟩
 by_cases he : nowA m now x = now
 ·rw [S.same he] at hl; have := h.lens l hl; omega
 ·rw [S.diff he] at hl
  rcases List.mem_append.1 hl with h1 | h1
  ·have := h.lens l h1; omega
  ·rw [List.mem_singleton.1 h1]; have := h.nl; omega
set_option maxHeartbeats 8000000 in
set_option maxRecDepth 100000 in
theorem plays_c (most rev : Int) (x : BArg) (A2 : Option Addr) (n c2 : Nat) (w : World) (hr : BRd x w) (hs : BSmall x) (hl1 : x.l1.length < 1000000000000000) (hl2 : x.l2.length < 1000000000000000) (hl3 : x.l3.length < 1000000000000000) (hl4 : x.l4.length < 1000000000000000) (hi : IRows w A2 n) :
  Calls Try.prog 8 #[.int .i64 most, .agg #[.slice x.A1 x.l1.length x.c1, .slice x.A2 x.l2.length x.c2, .slice x.A3 x.l3.length x.c3, .slice x.A4 x.l4.length x.c4], .slice A2 n c2, .int .i64 rev] w fun e w' => e = .returned (.bool true) ∧ Below w.heap.size w w' := by
 have HX := Lib.hid hr
 have HI := Lib.hid hi
 clear hr hi
 go_enter Try.func8, Try.ntmps8
 go_upto_region 1 with fail
 obtain ⟨W1, hW1⟩ : ∃ W1, W1 = w.alloc (.cells #[.slice x.A1 x.l1.length x.c1, .slice x.A2 x.l2.length x.c2, .slice x.A3 x.l3.length x.c3, .slice x.A4 x.l4.length x.c4] 54) := ⟨_, rfl⟩
 rw [← hW1]
 have HB1 := Lib.hid (show Below w.heap.size w W1 by rw [hW1]; exact below_alloc (Below.refl _ _) _)
 have HV1 := Lib.hid (show BVar w.heap.size x W1 from ⟨by rw [hW1]; exact heap_newS rfl⟩)
 clear hW1
 generalize hb0 : w.heap.size = b0 at HV1 ⊢
 have HB0 := Lib.hid hb0
 clear hb0
 have y0 := HV1.out.f0
 have y1 := HV1.out.f1
 have y2 := HV1.out.f2
 have y3 := HV1.out.f3
 by_cases hsum : x.l1.length + x.l2.length + x.l3.length + x.l4.length > 60
 ·have hs1 : (60 : Int) < (x.l1.length : Int) + (x.l2.length : Int) + (x.l3.length : Int) + (x.l4.length : Int) := by omega
  clear hsum
  go_wp2_with fail
  refine (awake4_c _).mono ?_
  rintro e w2 ⟨rfl, hb⟩
  have HB2 := Lib.hid (chainB HB1.out hb)
  clear hb HV1 y0 y1 y2 y3
  go_wp2_with fail
  go_ret
  exact ⟨rfl, by first | exact HB2.out | (rw [← HB0.out]; exact HB2.out)⟩
 ·have hs1 : ¬ (60 : Int) < (x.l1.length : Int) + (x.l2.length : Int) + (x.l3.length : Int) + (x.l4.length : Int) := by omega
  have HL60 := Lib.hid (show x.l1.length ≤ 60 by omega)
  have HLN := Lib.hid (show BLen x from ⟨by omega, by omega, by omega, by omega⟩)
  go_wp2_with fail
  clear hs1 hsum hl1 hl2 hl3 hl4 y0 y1 y2 y3
  go_loopw [0, 9] (fun mv i wr => ∃ (mq : Int) (z : Nat), mv = .int .i64 mq ∧ i = .int .i64 z ∧ z ≤ 2 ∧ Below W1.heap.size W1 wr) (fun _ i _ => 2 - (intOf i).toNat)
  case atStart => exact ⟨most, 0, rfl, rfl, by omega, Below.refl _ _⟩
  case round =>
   obtain ⟨mq, z, rfl, rfl, hz, hB⟩ := hrel
   have HBr := Lib.hid hB
   clear hB
   by_cases hz2 : z < 2
   ·have hz1 : (z : Int) < 2 := by omega
    have hz0 : (0 : Int) ≤ (z : Int) := by omega
    go_wp2_with fail
    refine (new_any mq _).mono ?_
    rintro e w2 ⟨g, q, rfl, hst, hb⟩
    have HS := Lib.hid hst
    have HB2 := Lib.hid hb
    clear hst hb
    go_wp2_with fail
    refine (rnew_any mq _).mono ?_
    rintro e w3 ⟨gr, qr, rfl, hst, hb⟩
    obtain ⟨Wr, hWr⟩ : ∃ W, W = wr := ⟨_, rfl⟩
    rw [← hWr] at HS HB2 HBr
    have HT := Lib.hid (Two.start HS.out hst HB2.out hb)
    have HV := Lib.hid (HV1.out.below (below_then HBr.out HBr.out.size HT.out.bw))
    clear hst hb hWr HS HB2
    generalize clampM mq = m at HT
    go_wp2_with fail
    have HXW := Lib.hid (HX.out.below (chainB HB1.out HBr.out))
    have HT5 := Lib.hid (HT.out.below (below_drew (Below.refl _ _)))

    refine start_ (n := 11) (S := fun w' => BVar b0 x w') (ds := []) #[F,F,F,F,F,F,F,F,F,F,F] (by kernel_rfl) rfl rfl (HV.out.below (below_drew (Below.refl _ _))) (fun hHeld => ?_)
    clear HV HT
    generalize w3.drew = W5 at hHeld HT5 ⊢
    refine pure_ (i := 0) (N := some 44) (v := ?_) (a' := ?_) #[T,F,F,F,F,F,F,F,F,F,F] rfl rfl (by kernel_rfl) (fun _ _ _ h => h) (Or.inl ⟨by rfl, ?_⟩) ?_ ?_
    rotate_left
    ·intro w'
     go_simp
     with_reducible rfl
    rotate_left
    ·simp only [Act.put, sa_, sz_, ss_, i64_w, i32_w]
     rfl
    refine pure_ (i := 1) (N := some 45) (v := ?_) (a' := ?_) #[T,T,F,F,F,F,F,F,F,F,F] rfl rfl (by kernel_rfl) (fun _ _ _ h => h) (Or.inl ⟨by rfl, ?_⟩) ?_ ?_
    rotate_left
    ·intro w'
     go_simp
     with_reducible rfl
    rotate_left
    ·simp only [Act.put, sa_, sz_, ss_, i64_w, i32_w]
     rfl
    refine pure_ (i := 2) (N := some 46) (v := ?_) (a' := ?_) #[T,T,T,F,F,F,F,F,F,F,F] rfl rfl (by kernel_rfl) (fun _ _ _ h => h) (Or.inl ⟨by rfl, ?_⟩) ?_ ?_
    rotate_left
    ·intro w'
     go_simp
     with_reducible rfl
    rotate_left
    ·simp only [Act.put, sa_, sz_, ss_, i64_w, i32_w]
     rfl
    refine pure_ (i := 3) (N := some 47) (v := ?_) (a' := ?_) #[T,T,T,T,F,F,F,F,F,F,F] rfl rfl (by kernel_rfl) (fun _ _ _ h => h) (Or.inl ⟨by rfl, ?_⟩) ?_ ?_
    rotate_left
    ·intro w'
     go_simp
     with_reducible rfl
    rotate_left
    ·simp only [Act.put, sa_, sz_, ss_, i64_w, i32_w]
     rfl
    refine pure_ (i := 6) (N := some 50) (v := ?_) (a' := ?_) #[T,T,T,T,F,F,T,F,F,F,F] rfl rfl (by kernel_rfl) (fun _ _ _ h => h) (Or.inl ⟨by rfl, ?_⟩) ?_ ?_
    rotate_left
    ·intro w'
     go_simp
     with_reducible rfl
    rotate_left
    ·simp only [Act.put, sa_, sz_, ss_, i64_w, i32_w]
     rfl
    refine take_ (i := 4) (N := some 48) (v := ?_) (a' := ?_) #[T,T,T,T,T,F,T,F,F,F,F] rfl rfl (by kernel_rfl) (fun _ _ _ h => h) (Or.inl ⟨by rfl, ?_⟩) hHeld ?_ ?_
    rotate_left
    ·rintro w' h
     have y0 := h.f0
     have y1 := h.f1
     have y2 := h.f2
     have y3 := h.f3
     go_simp
     with_reducible rfl
    rotate_left
    ·simp only [Act.put, sa_, sz_, ss_, i64_w, i32_w]
     rfl
    refine take_ (i := 7) (N := some 51) (v := ?_) (a' := ?_) #[T,T,T,T,T,F,T,T,F,F,F] rfl rfl (by kernel_rfl) (fun _ _ _ h => h) (Or.inl ⟨by rfl, ?_⟩) hHeld ?_ ?_
    rotate_left
    ·rintro w' h
     have y0 := h.f0
     have y1 := h.f1
     have y2 := h.f2
     have y3 := h.f3
     go_simp
     with_reducible rfl
    rotate_left
    ·simp only [Act.put, sa_, sz_, ss_, i64_w, i32_w]
     rfl
    refine one_ (i := 5) (N := some 49) #[T,T,T,T,T,T,T,T,F,F,F] rfl rfl (by kernel_rfl) (by decide) (fun K hK => ?_)
    go_simp
    refine (write_x HT5.out.st x (HXW.out.below HT5.out.bw) HLN.out hs (by simp) (by simp [SS]) (by simp)).mono ?_
    rintro e w105 ⟨q5, rfl, hst, hk, hb, hq⟩
    have HT6 := Lib.hid (HT5.out.w1 hst hk hb hq)
    have HV6 := Lib.hid (hHeld.w1 HT5.out hk)
    clear hst hk hb hq HT5
    refine hK.out _ _ (HV6.out) (fun hHeld => ?_)
    clear hK K
    try simp only [Act.put, sa_, sz_, ss_, i64_w, i32_w]
    refine one_ (i := 8) (N := some 52) #[T,T,T,T,T,T,T,T,T,F,F] rfl rfl (by kernel_rfl) (by decide) (fun K hK => ?_)
    go_simp
    refine (rwrite_c HT6.out.rst x (HXW.out.below HT6.out.bw) HLN.out hs (by simp) (by simp [SS]) (by simp)).mono ?_
    rintro e w108 ⟨q8, rfl, hst, hk, hb, hq⟩
    have HT7 := Lib.hid (HT6.out.w2 hst hk hb hq)
    have HV7 := Lib.hid (hHeld.w2 HT6.out hk)
    clear hst hk hb hq HT6 HV6
    refine hK.out _ _ (HV7.out) (fun hHeld => ?_)
    clear hK K
    try simp only [Act.put, sa_, sz_, ss_, i64_w, i32_w]
    refine pure_ (i := 9) (N := some 53) (v := ?_) (a' := ?_) #[T,T,T,T,T,T,T,T,T,T,F] rfl rfl (by kernel_rfl) (fun _ _ _ h => h) (Or.inl ⟨by rfl, ?_⟩) ?_ ?_
    rotate_left
    ·intro w'
     go_simp
     with_reducible rfl
    rotate_left
    ·simp only [Act.put, sa_, sz_, ss_, i64_w, i32_w]
     rfl
    try simp only [bne_self_eq_false, beq_self_eq_true, Bool.not_true, ne_eq, not_true_eq_false, decide_false]
    refine pure_ (i := 10) (N := some 54) (v := ?_) (a' := ?_) #[T,T,T,T,T,T,T,T,T,T,T] rfl rfl (by kernel_rfl) (fun _ _ _ h => h) (Or.inl ⟨by rfl, ?_⟩) ?_ ?_
    rotate_left
    ·intro w'
     go_simp
     with_reducible rfl
    rotate_left
    ·simp only [Act.put, sa_, sz_, ss_, i64_w, i32_w]
     rfl
    clear hHeld HV7
    refine done_ (by kernel_rfl) ?_
    have HP := Lib.hid (PL.first HT7.out HL60.out)
    clear HT7
    generalize pastA m [] [] x = past1 at HP
    generalize nowA m [] x = now1 at HP
    clear HXW
    go_wp2_with fail
    go_loopw [12] (fun i wz => ∃ (j : Nat) (q qr : Option Nat) (past : List (List S41)) (now : List S41), i = .int .i64 j ∧ j ≤ n ∧ j ≤ 30 ∧ PL Wr g q gr qr m past now j wz) (fun i _ => n - (intOf i).toNat)
    case atStart => exact ⟨0, q5, q8, past1, now1, rfl, by omega, by omega, HP.out⟩
    case round =>
     obtain ⟨j, q, qr, past, now, rfl, hj, hj30, hP⟩ := hrel
     have HPj := Lib.hid hP
     have hnl := hP.nl
     have hpn := hP.pn
     clear hP HP
     by_cases hgo : j < n ∧ j < 30
     ·obtain ⟨hjn, hjl⟩ := hgo
      have hj1 : (j : Int) < (n : Int) := by omega
      have hj2 : (j : Int) < 30 := by omega
      have hj0 : (0 : Int) ≤ (j : Int) := by omega
      obtain ⟨ad, hA, Ai, ci, li, hc, hcl, hC⟩ := HI.out.below (chainB (chainB HB1.out HBr.out) HPj.out.two.bw) j hjn
      subst hA
      have HC := Lib.hid hC
      clear hC
      go_wp2_with fail
      refine (batch_c HC.out hcl).mono ?_
      rintro e w5 ⟨y, rfl, hrow, hok, hb⟩
      have HOK := Lib.hid hok
      have HR5 := Lib.hid hrow
      have HP5 := Lib.hid (HPj.out.below hb)
      clear hrow hok hb HC hc HPj
      go_upto_region 13 with fail
      obtain ⟨W6, hW6⟩ : ∃ W6, W6 = w5.alloc (.cells #[.slice y.A1 y.l1.length y.c1, .slice y.A2 y.l2.length y.c2, .slice y.A3 y.l3.length y.c3, .slice y.A4 y.l4.length y.c4] 54) := ⟨_, rfl⟩
      rw [← hW6]
      have hb6 : Below w5.heap.size w5 W6 := by rw [hW6]; exact below_alloc (Below.refl _ _) _
      have HV6 := Lib.hid (show BVar w5.heap.size y W6.drew from (⟨by rw [hW6]; exact heap_newS rfl⟩ : BVar w5.heap.size y W6).below (below_drew (Below.refl _ _)))
      have HR6 := Lib.hid ((HR5.out.below hb6).below (below_drew (Below.refl _ _)))
      have HP6 := Lib.hid ((HP5.out.below hb6).below (below_drew (Below.refl _ _)))
      clear hW6 hb6 HR5 HP5
      generalize w5.heap.size = bt at HV6 ⊢

      refine start_ (n := 34) (S := fun w' => BVar bt y w') (ds := []) #[F,F,F,F,F,F,F,F,F,F,F,F,F,F,F,F,F,F,F,F,F,F,F,F,F,F,F,F,F,F,F,F,F,F] (by kernel_rfl) rfl rfl (HV6.out) (fun hHeld => ?_)
      clear HV6
      generalize W6.drew = W13 at hHeld HR6 HP6 ⊢
      refine pure_ (i := 0) (N := some 70) (v := ?_) (a' := ?_) #[T,F,F,F,F,F,F,F,F,F,F,F,F,F,F,F,F,F,F,F,F,F,F,F,F,F,F,F,F,F,F,F,F,F] rfl rfl (by kernel_rfl) (fun _ _ _ h => h) (Or.inl ⟨by rfl, ?_⟩) ?_ ?_
      rotate_left
      ·intro w'
       go_simp
       with_reducible rfl
      rotate_left
      ·simp only [Act.put, sa_, sz_, ss_, i64_w, i32_w]
       rfl
      refine pure_ (i := 3) (N := some 73) (v := ?_) (a' := ?_) #[T,F,F,T,F,F,F,F,F,F,F,F,F,F,F,F,F,F,F,F,F,F,F,F,F,F,F,F,F,F,F,F,F,F] rfl rfl (by kernel_rfl) (fun _ _ _ h => h) (Or.inl ⟨by rfl, ?_⟩) ?_ ?_
      rotate_left
      ·intro w'
       go_simp
       with_reducible rfl
      rotate_left
      ·simp only [Act.put, sa_, sz_, ss_, i64_w, i32_w]
       rfl
      refine take_ (i := 1) (N := some 71) (v := ?_) (a' := ?_) #[T,T,F,T,F,F,F,F,F,F,F,F,F,F,F,F,F,F,F,F,F,F,F,F,F,F,F,F,F,F,F,F,F,F] rfl rfl (by kernel_rfl) (fun _ _ _ h => h) (Or.inl ⟨by rfl, ?_⟩) hHeld ?_ ?_
      rotate_left
      ·rintro w' h
       have y0 := h.f0
       have y1 := h.f1
       have y2 := h.f2
       have y3 := h.f3
       go_simp
       with_reducible rfl
      rotate_left
      ·simp only [Act.put, sa_, sz_, ss_, i64_w, i32_w]
       rfl
      refine take_ (i := 4) (N := some 74) (v := ?_) (a' := ?_) #[T,T,F,T,T,F,F,F,F,F,F,F,F,F,F,F,F,F,F,F,F,F,F,F,F,F,F,F,F,F,F,F,F,F] rfl rfl (by kernel_rfl) (fun _ _ _ h => h) (Or.inl ⟨by rfl, ?_⟩) hHeld ?_ ?_
      rotate_left
      ·rintro w' h
       have y0 := h.f0
       have y1 := h.f1
       have y2 := h.f2
       have y3 := h.f3
       go_simp
       with_reducible rfl
      rotate_left
      ·simp only [Act.put, sa_, sz_, ss_, i64_w, i32_w]
       rfl
      refine one_ (i := 2) (N := some 72) #[T,T,T,T,T,F,F,F,F,F,F,F,F,F,F,F,F,F,F,F,F,F,F,F,F,F,F,F,F,F,F,F,F,F] rfl rfl (by kernel_rfl) (by decide) (fun K hK => ?_)
      go_simp
      refine (write_x HP6.out.two.st y HR6.out.rd HOK.out.len HOK.out.small (by omega) HP6.out.ss (by omega)).mono ?_
      rintro e w302 ⟨q2, rfl, hst, hk, hb, hq⟩
      have HT2 := Lib.hid (HP6.out.two.w1 hst hk hb hq)
      have HR2 := Lib.hid (show BRow w302 _ y from ⟨HR6.out.r1.write HP6.out.two.st hk, HR6.out.r2.write HP6.out.two.st hk, HR6.out.r3.write HP6.out.two.st hk, HR6.out.r4.write HP6.out.two.st hk⟩)
      have HV2 := Lib.hid (hHeld.w1 HP6.out.two hk)
      clear hst hk hb hq HR6
      refine hK.out _ _ (HV2.out) (fun hHeld => ?_)
      clear hK K
      try simp only [Act.put, sa_, sz_, ss_, i64_w, i32_w]
      refine one_ (i := 5) (N := some 75) #[T,T,T,T,T,T,F,F,F,F,F,F,F,F,F,F,F,F,F,F,F,F,F,F,F,F,F,F,F,F,F,F,F,F] rfl rfl (by kernel_rfl) (by decide) (fun K hK => ?_)
      go_simp
      refine (rwrite_c HT2.out.rst y HR2.out.rd HOK.out.len HOK.out.small (by omega) HP6.out.ss (by omega)).mono ?_
      rintro e w305 ⟨q3, rfl, hst, hk, hb, hq⟩
      have HT3 := Lib.hid (HT2.out.w2 hst hk hb hq)
      have HV3 := Lib.hid (hHeld.w2 HT2.out hk)
      have HP3 := Lib.hid (HP6.out.next HT3.out HOK.out.n1)
      clear hst hk hb hq HR2 HT2 HV2 HT3 HP6
      refine hK.out _ _ (HV3.out) (fun hHeld => ?_)
      clear hK K
      try simp only [Act.put, sa_, sz_, ss_, i64_w, i32_w]
      refine pure_ (i := 6) (N := some 76) (v := ?_) (a' := ?_) #[T,T,T,T,T,T,T,F,F,F,F,F,F,F,F,F,F,F,F,F,F,F,F,F,F,F,F,F,F,F,F,F,F,F] rfl rfl (by kernel_rfl) (fun _ _ _ h => h) (Or.inl ⟨by rfl, ?_⟩) ?_ ?_
      rotate_left
      ·intro w'
       go_simp
       with_reducible rfl
      rotate_left
      ·simp only [Act.put, sa_, sz_, ss_, i64_w, i32_w]
       rfl
      try simp only [bne_self_eq_false, beq_self_eq_true, Bool.not_true, ne_eq, not_true_eq_false, decide_false]
      refine pure_ (i := 7) (N := some 77) (v := ?_) (a' := ?_) #[T,T,T,T,T,T,T,T,F,F,F,F,F,F,F,F,F,F,F,F,F,F,F,F,F,F,F,F,F,F,F,F,F,F] rfl rfl (by kernel_rfl) (fun _ _ _ h => h) (Or.inl ⟨by rfl, ?_⟩) ?_ ?_
      rotate_left
      ·intro w'
       go_simp
       with_reducible rfl
      rotate_left
      ·simp only [Act.put, sa_, sz_, ss_, i64_w, i32_w]
       rfl
      generalize pastA m past now y = past3 at HP3
      generalize nowA m now y = now3 at HP3
      obtain ⟨Ar, cr, z1, hcell, z2, z3, z4⟩ := HP3.out.two.rst.reads
      clear z1 z2 z3 z4
      have hnl3 := HP3.out.nl
      have hpn3 := HP3.out.pn
      have hHeld2 := And.intro hHeld hcell
      clear hHeld hcell HV3
      refine narrow_ (fun w' => BVar bt y w' ∧ w'.cell? ⟨gr, 1, none⟩ = some (.slice Ar (past3.length + 1) cr)) (fun _ h => h.1) _ _ _ _ hHeld2 ?_
      have hHeld := hHeld2
      clear hHeld2
      refine pure_ (i := 8) (N := some 78) (v := ?_) (a' := ?_) #[T,T,T,T,T,T,T,T,T,F,F,F,F,F,F,F,F,F,F,F,F,F,F,F,F,F,F,F,F,F,F,F,F,F] rfl rfl (by kernel_rfl) (fun _ _ _ h => h) (Or.inl ⟨by rfl, ?_⟩) ?_ ?_
      rotate_left
      ·intro w'
       go_simp
       with_reducible rfl
      rotate_left
      ·simp only [Act.put, sa_, sz_, ss_, i64_w, i32_w]
       rfl
      refine pure_ (i := 10) (N := some 80) (v := ?_) (a' := ?_) #[T,T,T,T,T,T,T,T,T,F,T,F,F,F,F,F,F,F,F,F,F,F,F,F,F,F,F,F,F,F,F,F,F,F] rfl rfl (by kernel_rfl) (fun _ _ _ h => h) (Or.inl ⟨by rfl, ?_⟩) ?_ ?_
      rotate_left
      ·intro w'
       go_simp
       with_reducible rfl
      rotate_left
      ·simp only [Act.put, sa_, sz_, ss_, i64_w, i32_w]
       rfl
      refine pure_ (i := 11) (N := some 81) (v := ?_) (a' := ?_) #[T,T,T,T,T,T,T,T,T,F,T,T,F,F,F,F,F,F,F,F,F,F,F,F,F,F,F,F,F,F,F,F,F,F] rfl rfl (by kernel_rfl) (fun _ _ _ h => h) (Or.inl ⟨by rfl, ?_⟩) ?_ ?_
      rotate_left
      ·intro w'
       go_simp
       with_reducible rfl
      rotate_left
      ·simp only [Act.put, sa_, sz_, ss_, i64_w, i32_w]
       rfl
      refine pure_ (i := 12) (N := some 82) (v := ?_) (a' := ?_) #[T,T,T,T,T,T,T,T,T,F,T,T,T,F,F,F,F,F,F,F,F,F,F,F,F,F,F,F,F,F,F,F,F,F] rfl rfl (by kernel_rfl) (fun _ _ _ h => h) (Or.inl ⟨by rfl, ?_⟩) ?_ ?_
      rotate_left
      ·intro w'
       go_simp
       with_reducible rfl
      rotate_left
      ·simp only [Act.put, sa_, sz_, ss_, i64_w, i32_w]
       rfl
      refine take_ (i := 13) (N := some 83) (v := ?_) (a' := ?_) #[T,T,T,T,T,T,T,T,T,F,T,T,T,T,F,F,F,F,F,F,F,F,F,F,F,F,F,F,F,F,F,F,F,F] rfl rfl (by kernel_rfl) (fun _ _ _ h => h) (Or.inl ⟨by rfl, ?_⟩) hHeld ?_ ?_
      rotate_left
      ·rintro w' ⟨_, yy⟩
       go_simp
       with_reducible rfl
      rotate_left
      ·simp only [Act.put, sa_, sz_, ss_, i64_w, i32_w]
       rfl
      refine pure_ (i := 14) (N := some 84) (v := ?_) (a' := ?_) #[T,T,T,T,T,T,T,T,T,F,T,T,T,T,T,F,F,F,F,F,F,F,F,F,F,F,F,F,F,F,F,F,F,F] rfl rfl (by kernel_rfl) (fun _ _ _ h => h) (Or.inl ⟨by rfl, ?_⟩) ?_ ?_
      rotate_left
      ·intro w'
       go_simp
       with_reducible rfl
      rotate_left
      ·simp only [Act.put, sa_, sz_, ss_, i64_w, i32_w]
       rfl
      refine pure_ (i := 15) (N := some 85) (v := ?_) (a' := ?_) #[T,T,T,T,T,T,T,T,T,F,T,T,T,T,T,T,F,F,F,F,F,F,F,F,F,F,F,F,F,F,F,F,F,F] rfl rfl (by kernel_rfl) (fun _ _ _ h => h) (Or.inl ⟨by rfl, ?_⟩) ?_ ?_
      rotate_left
      ·intro w'
       go_simp
       with_reducible rfl
      rotate_left
      ·simp only [Act.put, sa_, sz_, ss_, i64_w, i32_w]
       rfl
      refine one_ (i := 9) (N := some 79) #[T,T,T,T,T,T,T,T,T,T,T,T,T,T,T,T,F,F,F,F,F,F,F,F,F,F,F,F,F,F,F,F,F,F] rfl rfl (by kernel_rfl) (by decide) (fun K hK => ?_)
      go_simp
      refine (rev_any HP3.out.two.st).mono ?_
      rintro e w309 ⟨rfl, rfl⟩
      refine hK.out _ _ (hHeld) (fun hHeld => ?_)
      clear hK K
      try simp only [Act.put, sa_, sz_, ss_, i64_w, i32_w]
      rw [wrapQ past3.length (by omega)]
      refine pure_ (i := 16) (N := some 86) (v := ?_) (a' := ?_) #[T,T,T,T,T,T,T,T,T,T,T,T,T,T,T,T,T,F,F,F,F,F,F,F,F,F,F,F,F,F,F,F,F,F] rfl rfl (by kernel_rfl) (fun _ _ _ h => h) (Or.inl ⟨by rfl, ?_⟩) ?_ ?_
      rotate_left
      ·intro w'
       go_simp
       with_reducible rfl
      rotate_left
      ·simp only [Act.put, sa_, sz_, ss_, i64_w, i32_w]
       rfl
      simp only [bne_self_eq_false]
      refine pure_ (i := 17) (N := some 87) (v := ?_) (a' := ?_) #[T,T,T,T,T,T,T,T,T,T,T,T,T,T,T,T,T,T,F,F,F,F,F,F,F,F,F,F,F,F,F,F,F,F] rfl rfl (by kernel_rfl) (fun _ _ _ h => h) (Or.inl ⟨by rfl, ?_⟩) ?_ ?_
      rotate_left
      ·intro w'
       go_simp
       with_reducible rfl
      rotate_left
      ·simp only [Act.put, sa_, sz_, ss_, i64_w, i32_w]
       rfl
      refine pure_ (i := 18) (N := some 88) (v := ?_) (a' := ?_) #[T,T,T,T,T,T,T,T,T,T,T,T,T,T,T,T,T,T,T,F,F,F,F,F,F,F,F,F,F,F,F,F,F,F] rfl rfl (by kernel_rfl) (fun _ _ _ h => h) (Or.inl ⟨by rfl, ?_⟩) ?_ ?_
      rotate_left
      ·intro w'
       go_simp
       with_reducible rfl
      rotate_left
      ·simp only [Act.put, sa_, sz_, ss_, i64_w, i32_w]
       rfl
      refine pure_ (i := 19) (N := some 89) (v := ?_) (a' := ?_) #[T,T,T,T,T,T,T,T,T,T,T,T,T,T,T,T,T,T,T,T,F,F,F,F,F,F,F,F,F,F,F,F,F,F] rfl rfl (by kernel_rfl) (fun _ _ _ h => h) (Or.inl ⟨by rfl, ?_⟩) ?_ ?_
      rotate_left
      ·intro w'
       go_simp
       with_reducible rfl
      rotate_left
      ·simp only [Act.put, sa_, sz_, ss_, i64_w, i32_w]
       rfl
      refine pure_ (i := 21) (N := some 91) (v := ?_) (a' := ?_) #[T,T,T,T,T,T,T,T,T,T,T,T,T,T,T,T,T,T,T,T,F,T,F,F,F,F,F,F,F,F,F,F,F,F] rfl rfl (by kernel_rfl) (fun _ _ _ h => h) (Or.inl ⟨by rfl, ?_⟩) ?_ ?_
      rotate_left
      ·intro w'
       go_simp
       with_reducible rfl
      rotate_left
      ·simp only [Act.put, sa_, sz_, ss_, i64_w, i32_w]
       rfl
      refine one_ (i := 20) (N := some 90) #[T,T,T,T,T,T,T,T,T,T,T,T,T,T,T,T,T,T,T,T,T,T,F,F,F,F,F,F,F,F,F,F,F,F] rfl rfl (by kernel_rfl) (by decide) (fun K hK => ?_)
      go_simp
      refine (len_n HP3.out.two.st _ rfl).mono ?_
      rintro e w320 ⟨rfl, hdr⟩
      have hb := below_of_drawn hdr
      have HP4 := Lib.hid (HP3.out.below hb)
      clear hdr HP3
      refine hK.out _ _ (⟨hHeld.1.below hb, pw_cell_below hb hHeld.2⟩) (fun hHeld => ?_)
      clear hK K
      try simp only [Act.put, sa_, sz_, ss_, i64_w, i32_w]
      refine one_ (i := 22) (N := some 92) #[T,T,T,T,T,T,T,T,T,T,T,T,T,T,T,T,T,T,T,T,T,T,T,F,F,F,F,F,F,F,F,F,F,F] rfl rfl (by kernel_rfl) (by decide) (fun K hK => ?_)
      go_simp
      refine (rall_c HP4.out.two.rst).mono ?_
      rintro e w322 ⟨Ax, cx, rfl, _, hdr⟩
      have hb := below_of_drawn hdr
      have HP5 := Lib.hid (HP4.out.below hb)
      clear hdr HP4
      refine hK.out _ _ (⟨hHeld.1.below hb, pw_cell_below hb hHeld.2⟩) (fun hHeld => ?_)
      clear hK K
      try simp only [Act.put, sa_, sz_, ss_, i64_w, i32_w]
      refine pure_ (i := 23) (N := some 93) (v := ?_) (a' := ?_) #[T,T,T,T,T,T,T,T,T,T,T,T,T,T,T,T,T,T,T,T,T,T,T,T,F,F,F,F,F,F,F,F,F,F] rfl rfl (by kernel_rfl) (fun _ _ _ h => h) (Or.inl ⟨by rfl, ?_⟩) ?_ ?_
      rotate_left
      ·intro w'
       go_simp
       with_reducible rfl
      rotate_left
      ·simp only [Act.put, sa_, sz_, ss_, i64_w, i32_w]
       rfl
      refine pure_ (i := 24) (N := some 94) (v := ?_) (a' := ?_) #[T,T,T,T,T,T,T,T,T,T,T,T,T,T,T,T,T,T,T,T,T,T,T,T,T,F,F,F,F,F,F,F,F,F] rfl rfl (by kernel_rfl) (fun _ _ _ h => h) (Or.inl ⟨by rfl, ?_⟩) ?_ ?_
      rotate_left
      ·intro w'
       go_simp
       with_reducible rfl
      rotate_left
      ·simp only [Act.put, sa_, sz_, ss_, i64_w, i32_w]
       rfl
      simp only [bne_self_eq_false]
      refine pure_ (i := 25) (N := some 95) (v := ?_) (a' := ?_) #[T,T,T,T,T,T,T,T,T,T,T,T,T,T,T,T,T,T,T,T,T,T,T,T,T,T,F,F,F,F,F,F,F,F] rfl rfl (by kernel_rfl) (fun _ _ _ h => h) (Or.inl ⟨by rfl, ?_⟩) ?_ ?_
      rotate_left
      ·intro w'
       go_simp
       with_reducible rfl
      rotate_left
      ·simp only [Act.put, sa_, sz_, ss_, i64_w, i32_w]
       rfl
      refine pure_ (i := 26) (N := some 96) (v := ?_) (a' := ?_) #[T,T,T,T,T,T,T,T,T,T,T,T,T,T,T,T,T,T,T,T,T,T,T,T,T,T,T,F,F,F,F,F,F,F] rfl rfl (by kernel_rfl) (fun _ _ _ h => h) (Or.inl ⟨by rfl, ?_⟩) ?_ ?_
      rotate_left
      ·intro w'
       go_simp
       with_reducible rfl
      rotate_left
      ·simp only [Act.put, sa_, sz_, ss_, i64_w, i32_w]
       rfl
      refine pure_ (i := 27) (N := some 97) (v := ?_) (a' := ?_) #[T,T,T,T,T,T,T,T,T,T,T,T,T,T,T,T,T,T,T,T,T,T,T,T,T,T,T,T,F,F,F,F,F,F] rfl rfl (by kernel_rfl) (fun _ _ _ h => h) (Or.inl ⟨by rfl, ?_⟩) ?_ ?_
      rotate_left
      ·intro w'
       go_simp
       with_reducible rfl
      rotate_left
      ·simp only [Act.put, sa_, sz_, ss_, i64_w, i32_w]
       rfl
      refine pure_ (i := 29) (N := some 99) (v := ?_) (a' := ?_) #[T,T,T,T,T,T,T,T,T,T,T,T,T,T,T,T,T,T,T,T,T,T,T,T,T,T,T,T,F,T,F,F,F,F] rfl rfl (by kernel_rfl) (fun _ _ _ h => h) (Or.inl ⟨by rfl, ?_⟩) ?_ ?_
      rotate_left
      ·intro w'
       go_simp
       with_reducible rfl
      rotate_left
      ·simp only [Act.put, sa_, sz_, ss_, i64_w, i32_w]
       rfl
      refine one_ (i := 28) (N := some 98) #[T,T,T,T,T,T,T,T,T,T,T,T,T,T,T,T,T,T,T,T,T,T,T,T,T,T,T,T,T,T,F,F,F,F] rfl rfl (by kernel_rfl) (by decide) (fun K hK => ?_)
      go_simp
      refine (all_c HP5.out.two.st (by omega)).mono ?_
      rintro e w328 ⟨Ay, cy, rfl, hrow, hb⟩
      have HRy := Lib.hid hrow.rd
      have HP7 := Lib.hid (HP5.out.below hb)
      clear hrow HP5
      refine hK.out _ _ (⟨hHeld.1.below hb, pw_cell_below hb hHeld.2⟩) (fun hHeld => ?_)
      clear hK K
      try simp only [Act.put, sa_, sz_, ss_, i64_w, i32_w]
      refine one_ (i := 30) (N := some 100) #[T,T,T,T,T,T,T,T,T,T,T,T,T,T,T,T,T,T,T,T,T,T,T,T,T,T,T,T,T,T,T,F,F,F] rfl rfl (by kernel_rfl) (by decide) (fun K hK => ?_)
      go_simp
      refine (rall_c HP7.out.two.rst).mono ?_
      rintro e w330 ⟨Az, cz, rfl, hrd, hdr⟩
      have hb := below_of_drawn hdr
      have HP8 := Lib.hid (HP7.out.below hb)
      have HRy2 := Lib.hid (HRy.out.below hb)
      have HRz := Lib.hid (hrd.below hb)
      clear hdr HP7 HRy hrd
      refine hK.out _ _ (⟨hHeld.1.below hb, pw_cell_below hb hHeld.2⟩) (fun hHeld => ?_)
      clear hK K
      try simp only [Act.put, sa_, sz_, ss_, i64_w, i32_w]
      refine one_ (i := 31) (N := some 101) #[T,T,T,T,T,T,T,T,T,T,T,T,T,T,T,T,T,T,T,T,T,T,T,T,T,T,T,T,T,T,T,T,F,F] rfl rfl (by kernel_rfl) (by decide) (fun K hK => ?_)
      go_simp
      refine (same_c HRy2.out HRz.out (by omega)).mono ?_
      rw [decide_eq_true rfl]
      rintro e w331 ⟨rfl, hdr⟩
      have hb := below_of_drawn hdr
      have HP9 := Lib.hid (HP8.out.below hb)
      clear hdr HP8 HRy2 HRz
      refine hK.out _ _ (⟨hHeld.1.below hb, pw_cell_below hb hHeld.2⟩) (fun hHeld => ?_)
      clear hK K
      try simp only [Act.put, sa_, sz_, ss_, i64_w, i32_w]
      refine pure_ (i := 32) (N := some 102) (v := ?_) (a' := ?_) #[T,T,T,T,T,T,T,T,T,T,T,T,T,T,T,T,T,T,T,T,T,T,T,T,T,T,T,T,T,T,T,T,T,F] rfl rfl (by kernel_rfl) (fun _ _ _ h => h) (Or.inl ⟨by rfl, ?_⟩) ?_ ?_
      rotate_left
      ·intro w'
       go_simp
       with_reducible rfl
      rotate_left
      ·simp only [Act.put, sa_, sz_, ss_, i64_w, i32_w]
       rfl
      refine pure_ (i := 33) (N := some 103) (v := ?_) (a' := ?_) #[T,T,T,T,T,T,T,T,T,T,T,T,T,T,T,T,T,T,T,T,T,T,T,T,T,T,T,T,T,T,T,T,T,T] rfl rfl (by kernel_rfl) (fun _ _ _ h => h) (Or.inl ⟨by rfl, ?_⟩) ?_ ?_
      rotate_left
      ·intro w'
       go_simp
       with_reducible rfl
      rotate_left
      ·simp only [Act.put, sa_, sz_, ss_, i64_w, i32_w]
       rfl
      clear hHeld
      refine done_ (by kernel_rfl) ?_
      go_wp2_with fail
      go_roundw
      case rel => exact ⟨j + 1, q2, q3, past3, now3, by go_num, by omega, by omega, HP9.out⟩
      case measure => simp [intOf]; omega
     ·have hfin : (¬ (j : Int) < (n : Int)) ∨ ((j : Int) < (n : Int) ∧ ¬ (j : Int) < 30) := by omega
      clear hgo
      rcases hfin with hx1 | ⟨hx3, hx4⟩
      all_goals
       go_wp2_with fail
       go_loopw [14] (fun k wk => ∃ (z3 : Nat), k = .int .i64 ((z3 : Int) - 1) ∧ z3 ≤ 41 ∧ Below wr.heap.size wr wk) (fun k _ => 41 - (intOf k + 1).toNat)
       case atStart => exact ⟨0, rfl, by omega, Below.refl _ _⟩
       case round =>
        obtain ⟨z3, rfl, hz3, hB⟩ := hrel
        have HPk := Lib.hid (HPj.out.below hB)
        have HBk := Lib.hid hB
        clear hB
        by_cases hz4 : z3 < 41
        ·have hk1 : (z3 : Int) - 1 < 40 := by omega
         have hr3 : (z3 : Int) - 1 < 0 ∨ ¬ ((z3 : Int) - 1 < 0) := by omega
         rcases hr3 with hr4 | hr4
         ·have HNL := Lib.hid HPk.out.nl
          by_cases hin : 0 ≤ rev ∧ rev ≤ (past.length : Int)
          ·obtain ⟨rn, hrn⟩ : ∃ rn : Nat, (rn : Int) = rev := ⟨(rev).toNat, by omega⟩
           have hrl : rn < (past ++ [now]).length := by simp only [List.length_append, List.length_cons, List.length_nil]; omega
           have HRN := Lib.hid hrn
           clear hrn
           go_wp2_with fail
           refine (at_c HPk.out.two.st rn _ HRN.out ((past ++ [now])[rn]) (List.getElem?_eq_getElem hrl) (HPk.out.len_at rn hrl)).mono ?_
           rintro e w7 ⟨A7, c7, rfl, hrow, hb⟩
           have HR7 := Lib.hid hrow.rd
           have HP7 := Lib.hid (HPk.out.below hb)
           have HB7 := Lib.hid (chainB HBk.out hb)
           have HLE := Lib.hid (HPk.out.len_at rn hrl)
           clear hrow hb HPk HBk
           obtain ⟨ad, cr, A8, c8, hcell, hc8, hr8⟩ := HP7.out.two.rst.at rn _ HRN.out hrl
           have HR8 := Lib.hid hr8
           clear hr8
           have hr1 : (0 : Int) ≤ rev := hin.1
           have hr2 : rev < (past.length : Int) + 1 := by omega
           clear hin
           generalize (past ++ [now])[rn] = l7 at HR7 HR8 HLE hc8 ⊢
           have hl7 : (l7.length : Int) ≤ 1000000000 := by have := HLE.out; omega
           go_wp2_with fail
           refine (same_c HR7.out HR8.out HLE.out).mono ?_
           rw [decide_eq_true rfl]
           rintro e w8 ⟨rfl, hdr⟩
           have hb := below_of_drawn hdr
           have HB8 := Lib.hid (chainB HB7.out hb)
           clear hdr hb hcell hc8
           go_wp2_with fail
           go_roundw
           case rel => exact ⟨z3 + 1, by first | go_num | (congr 1; omega), by omega, HB8.out⟩
           case measure => first | (simp [intOf]; done) | (simp [intOf]; omega)
          ·have hout : rev < 0 ∨ (past.length : Int) < rev := by omega
           have HOUT := Lib.hid hout
           clear hin hout
           go_wp2_with fail
           refine (at_none HPk.out.two.st _ HOUT.out).mono ?_
           rintro e w7 ⟨rfl, rfl⟩
           obtain ⟨Ar, cr, z1, hcell, z2, z4, z5⟩ := HPk.out.two.rst.reads
           clear z1 z2 z4 z5
           rcases HOUT.out with ho | ho
           ·have ho2 : ¬ (0 : Int) ≤ rev := by omega
            clear ho HOUT
            go_wp2_with fail
            go_roundw
            case rel => exact ⟨z3 + 1, by first | go_num | (congr 1; omega), by omega, HBk.out⟩
            case measure => first | (simp [intOf]; done) | (simp [intOf]; omega)
           ·have ho2 : (0 : Int) ≤ rev := by omega
            have ho3 : ¬ rev < (past.length : Int) + 1 := by omega
            clear ho HOUT
            go_wp2_with fail
            go_roundw
            case rel => exact ⟨z3 + 1, by first | go_num | (congr 1; omega), by omega, HBk.out⟩
            case measure => first | (simp [intOf]; done) | (simp [intOf]; omega)
         ·have HNL := Lib.hid HPk.out.nl
          by_cases hin : 0 ≤ ((z3 : Int) - 1) ∧ ((z3 : Int) - 1) ≤ (past.length : Int)
          ·obtain ⟨rn, hrn⟩ : ∃ rn : Nat, (rn : Int) = ((z3 : Int) - 1) := ⟨(((z3 : Int) - 1)).toNat, by omega⟩
           have hrl : rn < (past ++ [now]).length := by simp only [List.length_append, List.length_cons, List.length_nil]; omega
           have HRN := Lib.hid hrn
           clear hrn
           go_wp2_with fail
           refine (at_c HPk.out.two.st rn _ HRN.out ((past ++ [now])[rn]) (List.getElem?_eq_getElem hrl) (HPk.out.len_at rn hrl)).mono ?_
           rintro e w7 ⟨A7, c7, rfl, hrow, hb⟩
           have HR7 := Lib.hid hrow.rd
           have HP7 := Lib.hid (HPk.out.below hb)
           have HB7 := Lib.hid (chainB HBk.out hb)
           have HLE := Lib.hid (HPk.out.len_at rn hrl)
           clear hrow hb HPk HBk
           obtain ⟨ad, cr, A8, c8, hcell, hc8, hr8⟩ := HP7.out.two.rst.at rn _ HRN.out hrl
           have HR8 := Lib.hid hr8
           clear hr8
           have hr1 : (0 : Int) ≤ ((z3 : Int) - 1) := hin.1
           have hr2 : ((z3 : Int) - 1) < (past.length : Int) + 1 := by omega
           clear hin
           generalize (past ++ [now])[rn] = l7 at HR7 HR8 HLE hc8 ⊢
           have hl7 : (l7.length : Int) ≤ 1000000000 := by have := HLE.out; omega
           rw [show ((z3 : Int) - 1).toNat = z3 - 1 by omega] at hc8
           go_wp2_with fail
           refine (same_c HR7.out HR8.out HLE.out).mono ?_
           rw [decide_eq_true rfl]
           rintro e w8 ⟨rfl, hdr⟩
           have hb := below_of_drawn hdr
           have HB8 := Lib.hid (chainB HB7.out hb)
           clear hdr hb hcell hc8
           go_wp2_with fail
           go_roundw
           case rel => exact ⟨z3 + 1, by first | go_num | (congr 1; omega), by omega, HB8.out⟩
           case measure => first | (simp [intOf]; done) | (simp [intOf]; omega)
          ·have hout : ((z3 : Int) - 1) < 0 ∨ (past.length : Int) < ((z3 : Int) - 1) := by omega
           have HOUT := Lib.hid hout
           clear hin hout
           go_wp2_with fail
           refine (at_none HPk.out.two.st _ HOUT.out).mono ?_
           rintro e w7 ⟨rfl, rfl⟩
           obtain ⟨Ar, cr, z1, hcell, z2, z4, z5⟩ := HPk.out.two.rst.reads
           clear z1 z2 z4 z5
           rcases HOUT.out with ho | ho
           ·exact absurd ho (by omega)
           ·have ho2 : (0 : Int) ≤ ((z3 : Int) - 1) := by omega
            have ho3 : ¬ ((z3 : Int) - 1) < (past.length : Int) + 1 := by omega
            clear ho HOUT
            go_wp2_with fail
            go_roundw
            case rel => exact ⟨z3 + 1, by first | go_num | (congr 1; omega), by omega, HBk.out⟩
            case measure => first | (simp [intOf]; done) | (simp [intOf]; omega)
        ·obtain rfl : z3 = 41 := by omega
         have HBe := Lib.hid (below_then HBr.out HBr.out.size HPk.out.two.bw)
         clear HPk HPj HBk
         go_wp2_with fail
         go_roundw
         case rel => exact ⟨_, z + 1, rfl, by go_num, by omega, HBe.out⟩
         case measure => first | (simp [intOf]; done) | (simp [intOf]; omega)
   ·obtain rfl : z = 2 := by omega
    go_wp2_with fail
    refine (awake4_c _).mono ?_
    rintro e w2 ⟨rfl, hb⟩
    have HBf := Lib.hid (chainB (chainB HB1.out HBr.out) hb)
    clear hb HBr
    go_wp2_with fail
    go_ret
    exact ⟨rfl, HBf.out⟩

end Go.Proofs.Ytpgmeaofmlipkaa.PT
