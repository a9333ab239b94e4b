/- Walks and contracts over the store of tuples (Whole). No condition beyond those that each contract names. -/
import Derived.Test.YtpgmeaofmlipkaaSAwake2
import Derived.Test.YtpgmeaofmlipkaaPTx1030
import Derived.Lib.Hide
import Derived.Laws.EntriesVeiled
import Derived.Shelf.SlicesQ.IndexFunc
namespace Go.Proofs.Ytpgmeaofmlipkaa.PT
open Go.RowKit Go.Proofs.YtpgmeaofmlipkaaW.PrintWords Go.Proofs.YtpgmeaofmlipkaaW.PrintLast Go.Proofs.YtpgmeaofmlipkaaW.PrintMore
attribute [local go_sem] max2_int min2_int max_two min_two max_three min_three max_four min_four
set_option linter.unusedVariables false
set_option linter.unusedSimpArgs false
open Go.Proofs.YtpgmeaofmlipkaaH
theorem and15 (x : Int) : Go.bits .and .i64 x 15 = x % 16 := and_mask 4 (by decide) x
theorem nm_size (n : Int) (s : ByteArray) (h : entaillaw1_Nm.f n = some s) : s.size < 100 := by
 unfold entaillaw1_Nm.f at h
 simp only [and7, Option.bind_some] at h
 rw [if_pos (by omega), if_pos (by simp only [List.length_cons, List.length_nil]; omega)] at h
 injection h with h
 subst h
 have h0 : n % 8 = 0 ∨ n % 8 = 1 ∨ n % 8 = 2 ∨ n % 8 = 3 ∨ n % 8 = 4 ∨ n % 8 = 5 ∨ n % 8 = 6 ∨ n % 8 = 7 := by omega
 rcases h0 with h | h | h | h | h | h | h | h <;> rw [h] <;> decide
theorem tm_small (n : Int) : Small (tm n) := by
 have h := tm_eq n
 obtain ⟨s1, h1⟩ := nm_some (n / 2)
 obtain ⟨s2, h2⟩ := nm_some (n / 8192)
 have k1 := nm_size _ _ h1
 have k2 := nm_size _ _ h2
 unfold entaillaw2_Tame.f at h
 simp only [and1, and3, and255, Option.bind_some, h1, h2, List.length_cons, List.length_nil] at h
 have t0 : 0 ≤ Int.tmod (n / 32 % 256) 3 ∧ Int.tmod (n / 32 % 256) 3 < 3 := by
  rw [Int.tmod_eq_emod_of_nonneg (by omega)]; omega
 rw [if_pos (by omega), if_pos (by omega), if_pos (by omega), if_pos (by omega), if_pos t0.1, if_pos (by have := t0.2; omega)] at h
 have hh : s1 = (tm n).f0.f1 ∧ s2 = (tm n).f2.f1 := by
  by_cases hz : n / 65536 % 4 = 0
  ·rw [if_pos hz, if_pos (by omega), if_pos (by omega)] at h
   simp only [Option.some.injEq, Prod.mk.injEq] at h
   exact ⟨h.2.1, h.2.2.2.2.1⟩
  ·rw [if_neg hz] at h
   simp only [Option.some.injEq, Prod.mk.injEq] at h
   exact ⟨h.2.1, h.2.2.2.2.1⟩
 refine ⟨?_, ?_⟩
 ·rw [← hh.1]; omega
 ·rw [← hh.2]; omega
/-- What a batch's four rows are known to be. -/
structure BOk (n : Nat) (a b c d : List S41) : Prop where
 n1 : a.length ≤ n
 n2 : b.length ≤ n
 n3 : c.length ≤ n
 n4 : d.length ≤ n
 s1 : ∀ t ∈ a, Small t
 s2 : ∀ t ∈ b, Small t
 s3 : ∀ t ∈ c, Small t
 s4 : ∀ t ∈ d, Small t
theorem sm_app {a : List S41} (h : ∀ t ∈ a, Small t) {x : S41} (hx : Small x) : ∀ t ∈ a ++ [x], Small t := by
 intro t ht
 rcases List.mem_append.1 ht with h1 | h1
 ·exact h t h1
 ·rw [List.mem_singleton.1 h1]; exact hx
theorem BOk.a1 {n : Nat} {a b c d : List S41} (h : BOk n a b c d) {x : S41} (hx : Small x) : BOk (n + 1) (a ++ [x]) b c d :=
 ⟨by have := h.n1; simp; omega, by have := h.n2; omega, by have := h.n3; omega, by have := h.n4; omega, sm_app h.s1 hx, h.s2, h.s3, h.s4⟩
theorem BOk.a2 {n : Nat} {a b c d : List S41} (h : BOk n a b c d) {x : S41} (hx : Small x) : BOk (n + 1) a (b ++ [x]) c d :=
 ⟨by have := h.n1; omega, by have := h.n2; simp; omega, by have := h.n3; omega, by have := h.n4; omega, h.s1, sm_app h.s2 hx, h.s3, h.s4⟩
theorem BOk.a3 {n : Nat} {a b c d : List S41} (h : BOk n a b c d) {x : S41} (hx : Small x) : BOk (n + 1) a b (c ++ [x]) d :=
 ⟨by have := h.n1; omega, by have := h.n2; omega, by have := h.n3; simp; omega, by have := h.n4; omega, h.s1, h.s2, sm_app h.s3 hx, h.s4⟩
theorem BOk.a4 {n : Nat} {a b c d : List S41} (h : BOk n a b c d) {x : S41} (hx : Small x) : BOk (n + 1) a b c (d ++ [x]) :=
 ⟨by have := h.n1; omega, by have := h.n2; omega, by have := h.n3; omega, by have := h.n4; simp; omega, h.s1, h.s2, h.s3, sm_app h.s4 hx⟩
theorem BOk.mono {n m : Nat} {a b c d : List S41} (h : BOk n a b c d) (hm : n ≤ m) : BOk m a b c d :=
 ⟨by have := h.n1; omega, by have := h.n2; omega, by have := h.n3; omega, by have := h.n4; omega, h.s1, h.s2, h.s3, h.s4⟩
def xT : S41 := ⟨⟨⟨#[]⟩, ⟨#[]⟩⟩, ⟨#[120]⟩, ⟨⟨#[]⟩, ⟨#[]⟩, ⟨#[]⟩⟩⟩
theorem xT_small : Small xT := by unfold Small; decide
theorem j1_step (l : List Int) (i : Nat) (hi : i < l.length) (a b c d : List S41) (k : Nat) : entaillaw4_Batch.j1 (k + 1) l (i : Int) true a b c d = entaillaw4_Batch.j2 k l i (l[i] % 16) (decide (l[i] % 16 ≤ 8)) a b c d (tm (l[i] / 16)).f0.f0 (tm (l[i] / 16)).f0.f1 (tm (l[i] / 16)).f1 (tm (l[i] / 16)).f2.f0 (tm (l[i] / 16)).f2.f1 (tm (l[i] / 16)).f2.f2 := by
 have hx : 0 ≤ l[i] % 16 ∧ l[i] % 16 < 16 := by omega
 simp only [entaillaw4_Batch.j1, and15, rd_at l i hi, tm_eq, Option.bind_some]
 rw [if_pos trivial, if_pos (by omega), if_pos (by omega)]
 generalize tm (l[i] / 16) = t
 generalize l[i] % 16 = x at hx ⊢
 have h0 : x = 0 ∨ x = 1 ∨ x = 2 ∨ x = 3 ∨ x = 4 ∨ x = 5 ∨ x = 6 ∨ x = 7 ∨ x = 8 ∨ x = 9 ∨ x = 10 ∨ x = 11 ∨ x = 12 ∨ x = 13 ∨ x = 14 ∨ x = 15 := by omega
 rcases h0 with rfl | rfl | rfl | rfl | rfl | rfl | rfl | rfl | rfl | rfl | rfl | rfl | rfl | rfl | rfl | rfl <;> rfl
theorem batch_loop (l : List Int) : ∀ (n i : Nat) (a b c d : List S41), i + n = 12 → BOk i a b c d → ∃ a' b' c' d', BOk 12 a' b' c' d' ∧ Ev (fun k => entaillaw4_Batch.l0 k l (i : Int) a b c d) (a', b', c', d') := by
 intro n
 induction n with
 | zero =>
  intro i a b c d hi h
  refine ⟨a, b, c, d, h.mono (by omega), Ev.step (f := fun k => entaillaw4_Batch.j1 k l (i : Int) false a b c d) (fun k => ?_) (Ev.step (f := fun _ => some (a, b, c, d)) (fun k => ?_) (Ev.now _))⟩
  ·simp only [entaillaw4_Batch.l0]
   have : decide ((i : Int) < 12) = false := by rw [decide_eq_false_iff_not]; omega
   rw [this, ite_self]
  ·simp [entaillaw4_Batch.j1]
 | succ n ih =>
  intro i a b c d hi h
  by_cases hl : i < l.length
  ·have hw := wrap_succ i (by omega)
   have m1 := h.n1
   have m2 := h.n2
   have m3 := h.n3
   have m4 := h.n4
   have hs := tm_small (l[i] / 16)
   have go : ∃ a' b' c' d', BOk 12 a' b' c' d' ∧ Ev (fun k => entaillaw4_Batch.j2 k l i (l[i] % 16) (decide (l[i] % 16 ≤ 8)) a b c d (tm (l[i] / 16)).f0.f0 (tm (l[i] / 16)).f0.f1 (tm (l[i] / 16)).f1 (tm (l[i] / 16)).f2.f0 (tm (l[i] / 16)).f2.f1 (tm (l[i] / 16)).f2.f2) (a', b', c', d') := by
    have hx : 0 ≤ l[i] % 16 ∧ l[i] % 16 < 16 := by omega
    generalize tm (l[i] / 16) = t at hs ⊢
    generalize l[i] % 16 = x at hx ⊢
    by_cases h8 : x ≤ 8
    ·obtain ⟨a', b', c', d', hB, hE⟩ := ih (i + 1) (a ++ [t]) b c d (by omega) (h.a1 hs)
     refine ⟨a', b', c', d', hB, Ev.step (fun k => ?_) hE⟩
     rw [decide_eq_true h8]
     simp only [entaillaw4_Batch.j2, hw]
     rw [if_pos trivial, if_pos (by omega)]
    ·have s2 : ∀ k, entaillaw4_Batch.j2 (k + 1) l i x (decide (x ≤ 8)) a b c d t.f0.f0 t.f0.f1 t.f1 t.f2.f0 t.f2.f1 t.f2.f2 = entaillaw4_Batch.j3 k l i x (decide (x ≤ 12)) a b c d t.f0.f0 t.f0.f1 t.f1 t.f2.f0 t.f2.f1 t.f2.f2 := by
      intro k
      have h0 : x = 9 ∨ x = 10 ∨ x = 11 ∨ x = 12 ∨ x = 13 ∨ x = 14 ∨ x = 15 := by omega
      rcases h0 with rfl | rfl | rfl | rfl | rfl | rfl | rfl <;> rfl
     by_cases h12 : x ≤ 12
     ·obtain ⟨a', b', c', d', hB, hE⟩ := ih (i + 1) a (b ++ [t]) c d (by omega) (h.a2 hs)
      refine ⟨a', b', c', d', hB, Ev.step s2 (Ev.step (fun k => ?_) hE)⟩
      rw [decide_eq_true h12]
      simp only [entaillaw4_Batch.j3, hw]
      rw [if_pos trivial, if_pos (by omega)]
     ·by_cases h13 : x = 13
      ·obtain ⟨a', b', c', d', hB, hE⟩ := ih (i + 1) a b (c ++ [t]) d (by omega) (h.a3 hs)
       refine ⟨a', b', c', d', hB, Ev.step s2 (Ev.step (fun k => ?_) hE)⟩
       rw [decide_eq_false h12]
       simp only [entaillaw4_Batch.j3, hw]
       rw [if_neg (by decide), if_pos h13, if_pos (by omega)]
      ·by_cases h14 : x = 14
       ·obtain ⟨a', b', c', d', hB, hE⟩ := ih (i + 1) a b c (d ++ [t]) (by omega) (h.a4 hs)
        refine ⟨a', b', c', d', hB, Ev.step s2 (Ev.step (fun k => ?_) hE)⟩
        rw [decide_eq_false h12]
        simp only [entaillaw4_Batch.j3, hw]
        rw [if_neg (by decide), if_neg h13, if_pos h14, if_pos (by omega)]
       ·obtain ⟨a', b', c', d', hB, hE⟩ := ih (i + 1) (a ++ [xT]) b c d (by omega) (h.a1 xT_small)
        refine ⟨a', b', c', d', hB, Ev.step s2 (Ev.step (fun k => ?_) hE)⟩
        rw [decide_eq_false h12]
        simp only [entaillaw4_Batch.j3, hw]
        rw [if_neg (by decide), if_neg h13, if_neg h14, if_pos (by omega)]
        rfl
   obtain ⟨a', b', c', d', hB, hE⟩ := go
   refine ⟨a', b', c', d', hB, Ev.step (f := fun k => entaillaw4_Batch.j1 k l (i : Int) true a b c d) (fun k => ?_) (Ev.step (fun k => j1_step l i hl a b c d k) hE)⟩
   simp only [entaillaw4_Batch.l0]
   rw [if_pos (by omega), decide_eq_true (by omega)]
  ·refine ⟨a, b, c, d, h.mono (by omega), Ev.step (f := fun k => entaillaw4_Batch.j1 k l (i : Int) false a b c d) (fun k => ?_) (Ev.step (f := fun _ => some (a, b, c, d)) (fun k => ?_) (Ev.now _))⟩
   ·simp only [entaillaw4_Batch.l0]
    rw [if_neg (by omega)]
   ·simp [entaillaw4_Batch.j1]
/-- A batch's rows, made since. -/
structure BRow (w : World) (B : Nat) (x : BArg) : Prop where
 r1 : Row w B x.A1 x.c1 x.l1
 r2 : Row w B x.A2 x.c2 x.l2
 r3 : Row w B x.A3 x.c3 x.l3
 r4 : Row w B x.A4 x.c4 x.l4
theorem BRow.rd {w : World} {B : Nat} {x : BArg} (h : BRow w B x) : BRd x w := ⟨h.r1.rd, h.r2.rd, h.r3.rd, h.r4.rd⟩
theorem BRow.below {w w1 : World} {B : Nat} {x : BArg} (h : BRow w B x) (hb : Below w.heap.size w w1) : BRow w1 B x := ⟨h.r1.below hb, h.r2.below hb, h.r3.below hb, h.r4.below hb⟩
theorem BOk.len {x : BArg} (h : BOk 12 x.l1 x.l2 x.l3 x.l4) : BLen x := ⟨by have := h.n1; omega, by have := h.n2; omega, by have := h.n3; omega, by have := h.n4; omega⟩
theorem BOk.small {n : Nat} {x : BArg} (h : BOk n x.l1 x.l2 x.l3 x.l4) : BSmall x := ⟨h.s1, h.s2, h.s3, h.s4⟩
def NewBatch (w : World) (e : Ending) (w' : World) : Prop := ∃ x : BArg, e = .returned (.agg #[.slice x.A1 x.l1.length x.c1, .slice x.A2 x.l2.length x.c2, .slice x.A3 x.l3.length x.c3, .slice x.A4 x.l4.length x.c4]) ∧ BRow w' w.heap.size x ∧ BOk 12 x.l1 x.l2 x.l3 x.l4 ∧ Below w.heap.size w w'
theorem batch_c {w : World} {A : Option Addr} {c : Nat} {l : List Int} (hr : Kd.C (Kd.int .i64) w A l.length l) (hc : l.length ≤ c) : Calls Try.prog 30 #[.slice A l.length c] w (NewBatch w) := by
 obtain ⟨a, b, d, e, hB, hE⟩ := batch_loop l 12 0 [] [] [] [] rfl ⟨by simp, by simp, by simp, by simp, by simp, by simp, by simp, by simp⟩
 obtain ⟨k, hk⟩ := hE
 refine (entaillaw4_Batch.calls k A c l a b d e w hr hc (hk k (Nat.le_refl _))).mono ?_
 rintro _ w' ⟨v0, v1, v2, v3, rfl, h0, h1, h2, h3, hb⟩
 obtain ⟨A1, c1, rfl, r1⟩ := row_of (Kd.R_mono h0 (fun _ _ => trivial))
 obtain ⟨A2, c2, rfl, r2⟩ := row_of (Kd.R_mono h1 (fun _ _ => trivial))
 obtain ⟨A3, c3, rfl, r3⟩ := row_of (Kd.R_mono h2 (fun _ _ => trivial))
 obtain ⟨A4, c4, rfl, r4⟩ := row_of (Kd.R_mono h3 (fun _ _ => trivial))
 exact ⟨⟨A1, c1, a, A2, c2, b, A3, c3, d, A4, c4, e⟩, rfl, ⟨r1, r2, r3, r4⟩, hB, hb⟩
open Go.Proofs.YtpgmeaofmlipkaaH
/-- What one Write makes of the sets. -/
structure Step (m : Int) (past : List (List S41)) (now : List S41) (past' : List (List S41)) (now' : List S41) (n : Int) (x : BArg) : Prop where
 ss : SS cmpT now'
 len : now'.length ≤ now.length + x.l1.length
 plen : past'.length ≤ past.length + 1
 max : (now.length : Int) ≤ m → (now'.length : Int) ≤ m
 old : (past' ++ [now'])[past.length]? = some now
 bad : n ≠ 0 → now' = now ∧ past' = past
 good : n = 0 → now' = nextW now x
 same : now' = now → past' = past
 diff : now' ≠ now → past' = past ++ [now]
theorem step_of {m : Int} {past : List (List S41)} {now : List S41} (x : BArg) (hss : SS cmpT now) : Step m past now (pastA m past now x) (nowA m now x) (wErrA m now x) x := by
 by_cases h0 : wErrA m now x = 0
 ·have hn : nowA m now x = nextW now x := by unfold nowA; rw [if_pos h0]
  have hm : ¬ m < ((nextW now x).length : Int) := by
   intro h
   unfold wErrA at h0
   split at h0
   ·exact absurd h0 (by decide)
   ·unfold wErr at h0
    split at h0
    ·exact absurd h0 (by decide)
    ·split at h0
     ·exact absurd h0 (by decide)
     ·split at h0
      ·exact absurd h0 (by decide)
      ·exact absurd h0 (by decide)
  by_cases h1 : nextW now x = now
  ·have hp : pastA m past now x = past := by unfold pastA; rw [if_neg (fun h => h.2 h1)]
   rw [hn, hp, h0]
   exact ⟨by rw [h1]; exact hss, nextW_length now x, by omega, fun _ => by omega, by rw [h1]; simp, fun h => absurd rfl h, fun _ => rfl, fun _ => rfl, fun h => absurd h1 h⟩
  ·have hp : pastA m past now x = past ++ [now] := by unfold pastA; rw [if_pos ⟨h0, h1⟩]
   rw [hn, hp, h0]
   exact ⟨ss_norm cmpT_tot _, nextW_length now x, by simp, fun _ => by omega, by simp, fun h => absurd rfl h, fun _ => rfl, fun h => absurd h h1, fun _ => rfl⟩
 ·have hn : nowA m now x = now := by unfold nowA; rw [if_neg h0]
  have hp : pastA m past now x = past := by unfold pastA; rw [if_neg (fun h => h0 h.1)]
  rw [hn, hp]
  exact ⟨hss, by omega, by omega, fun h => h, by simp, fun _ => ⟨rfl, rfl⟩, fun h => absurd h h0, fun _ => rfl, fun h => absurd rfl h⟩
def WroteS (w : World) (B g : Nat) (q : Option Nat) (m : Int) (past : List (List S41)) (now : List S41) (x : BArg) (e : Ending) (w' : World) : Prop :=
 ∃ q' n past' now', e = .returned (.int .i64 n) ∧ St w' B g q' m past' now' ∧ Step m past now past' now' n x ∧ Kept w w' (fun k => k = g ∨ some k = q) ∧ Below B w w'
theorem write_s {w : World} {B g : Nat} {q : Option Nat} {m : Int} {past now} (h : St w B g q m past now) (x : BArg) (hr : BRd x w) (hok : BOk 12 x.l1 x.l2 x.l3 x.l4) (hn : now.length < 100000000) (hss : SS cmpT now) (hp : past.length < 1000000) :
  Calls Try.prog 29 #[.pointer (some ⟨g, 0, none⟩), .agg #[.slice x.A1 x.l1.length x.c1, .slice x.A2 x.l2.length x.c2, .slice x.A3 x.l3.length x.c3, .slice x.A4 x.l4.length x.c4]] w (WroteS w B g q m past now x) :=
 (write_c h x hr hok.len hok.small hn hss hp).mono fun e w' ⟨q', he, hst, hk, hb⟩ => ⟨q', _, _, _, he, hst, step_of x hss, hk, hb⟩
open Go.Proofs.YtpgmeaofmlipkaaH
/-- What StorWhole carries behind its second batch. -/
structure WW (W0 : World) (g : Nat) (q : Option Nat) (m : Int) (past : List (List S41)) (now : List S41) (A : Option Addr) (c : Nat) (was : List S41) (bt : Nat) (y : BArg) (W : World) : Prop where
 st : St W W0.heap.size g q m past now
 was : Row W W0.heap.size A c was
 rows : BRow W W0.heap.size y
 bx : W.heap[bt]? = some (.cells #[.slice y.A1 y.l1.length y.c1, .slice y.A2 y.l2.length y.c2, .slice y.A3 y.l3.length y.c3, .slice y.A4 y.l4.length y.c4] 54 (0, 0))
 bw : Below W0.heap.size W0 W
theorem WW.below {W0 : World} {g q m past now A c was bt y} {W W' : World} (h : WW W0 g q m past now A c was bt y W) (hb : Below W.heap.size W W') : WW W0 g q m past now A c was bt y W' :=
 ⟨h.st.below hb, h.was.below hb, h.rows.below hb, blkB h.bx hb, below_then h.bw h.bw.size hb⟩
theorem WW.write {W0 : World} {g q q' m past now past' now' A c was bt y} {W W' : World} (h : WW W0 g q m past now A c was bt y W) (hs : St W' W0.heap.size g q' m past' now') (hk : Kept W W' (fun k => k = g ∨ some k = q)) (hb : Below W0.heap.size W W') : WW W0 g q' m past' now' A c was bt y W' :=
 ⟨hs, h.was.write h.st hk, ⟨h.rows.r1.write h.st hk, h.rows.r2.write h.st hk, h.rows.r3.write h.st hk, h.rows.r4.write h.st hk⟩, blk_write h.bx (by decide) (by decide) h.st hk, h.bw.trans hb⟩
theorem WW.f0 {W0 : World} {g q m past now A c was bt y} {W : World} (h : WW W0 g q m past now A c was bt y W) : W.cell? ⟨bt, 0, none⟩ = some (.slice y.A1 y.l1.length y.c1) := (blk_cell h.bx 0).trans rfl
theorem WW.f1 {W0 : World} {g q m past now A c was bt y} {W : World} (h : WW W0 g q m past now A c was bt y W) : W.cell? ⟨bt, 1, none⟩ = some (.slice y.A2 y.l2.length y.c2) := (blk_cell h.bx 1).trans rfl
theorem WW.f2 {W0 : World} {g q m past now A c was bt y} {W : World} (h : WW W0 g q m past now A c was bt y W) : W.cell? ⟨bt, 2, none⟩ = some (.slice y.A3 y.l3.length y.c3) := (blk_cell h.bx 2).trans rfl
theorem WW.f3 {W0 : World} {g q m past now A c was bt y} {W : World} (h : WW W0 g q m past now A c was bt y W) : W.cell? ⟨bt, 3, none⟩ = some (.slice y.A4 y.l4.length y.c4) := (blk_cell h.bx 3).trans rfl
theorem wrapM (m : Nat) (h : m ≤ 31) : wrap64 ((m : Int) + 5) = (m : Int) + 5 := by unfold wrap64; omega
theorem wrapP (n : Nat) (h : n ≤ 1) : wrap64 ((n : Int) + 1) = (n : Int) + 1 := by unfold wrap64; omega
theorem succ_ne (n : Nat) : (((n : Int) + 1 : Int) == (n : Int)) = false := by rw [beq_eq_false_iff_ne]; omega
theorem clamp_m (m : Nat) (h : m ≤ 31) : clampM ((m : Int) + 5) = (m : Int) + 5 := by unfold clampM; omega
theorem and31n (most : Int) : ∃ m : Nat, Go.bits .and .i64 most 31 = (m : Int) ∧ m ≤ 31 := ⟨(most % 32).toNat, by
 rw [and31]
 have h0 : 0 ≤ most % 32 := Int.emod_nonneg _ (by decide)
 omega, by
 have h1 : most % 32 < 32 := Int.emod_lt_of_pos _ (by decide)
 omega⟩
set_option maxHeartbeats 8000000 in
set_option maxRecDepth 100000 in
theorem whole_c (A0 : Option Addr) (c0 : Nat) (l0 : List Int) (A1 : Option Addr) (c1 : Nat) (l1 : List Int) (most : Int) (w : World) (hr0 : Kd.C (Kd.int .i64) w A0 l0.length l0) (hc0 : l0.length ≤ c0) (hr1 : Kd.C (Kd.int .i64) w A1 l1.length l1) (hc1 : l1.length ≤ c1) :
  Calls Try.prog 9 #[.slice A0 l0.length c0, .slice A1 l1.length c1, .int .i64 most] w fun e w' => e = .returned (.bool true) ∧ Below w.heap.size w w' := by
 have HT0 := Lib.hid (fun W (hb : Below w.heap.size w W) => batch_c (Kd.C_below hr0 hb) hc0)
 have HT1 := Lib.hid (fun W (hb : Below w.heap.size w W) => batch_c (Kd.C_below hr1 hb) hc1)
 clear hr0 hr1 hc0 hc1
 obtain ⟨m, hm, hm2⟩ := and31n most
 go_enter Try.func9, Try.ntmps9
 go_wp2_with fail
 refine (new_any ((m : Int) + 5) _).mono ?_
 rintro e w1 ⟨g, q1, rfl, hst, hb⟩
 rw [clamp_m m hm2] at hst
 have HS := Lib.hid hst
 have HB := Lib.hid hb
 clear hst hb
 go_wp2_with fail
 refine (HT0.out _ HB.out).mono ?_
 rintro e w2 ⟨x, rfl, hrow, hok, hb⟩
 have HS2 := Lib.hid (HS.out.below hb)
 have HB2 := Lib.hid (chainB HB.out hb)
 clear HS HB hb
 go_wp2_with fail
 refine (write_s HS2.out x hrow.rd hok (by simp) (by simp [SS]) (by simp)).mono ?_
 rintro e w3 ⟨q3, n3, past1, now1, rfl, hst, hstep, hk, hb⟩
 have hl1 : now1.length ≤ 12 := by have := hstep.len; have := hok.n1; simp only [List.length_nil] at *; omega
 have hp1 : past1.length ≤ 1 := by have := hstep.plen; simp only [List.length_nil] at this; omega
 have hmx : (now1.length : Int) ≤ (m : Int) + 5 := hstep.max (by simp only [List.length_nil]; omega)
 have HSS := Lib.hid hstep.ss
 have HMX := Lib.hid hmx
 have HS3 := Lib.hid hst
 have HB3 := Lib.hid (HB2.out.trans hb)
 clear hst hb hk hstep hrow hok HS2 HB2 hmx HT0
 generalize (Value.agg #[.slice x.A1 x.l1.length x.c1, .slice x.A2 x.l2.length x.c2, .slice x.A3 x.l3.length x.c3, .slice x.A4 x.l4.length x.c4]) = vx
 go_wp2_with fail
 refine (all_c HS3.out (by omega)).mono ?_
 rintro e w4 ⟨As, cs, rfl, hrow, hb⟩
 have HS4 := Lib.hid (HS3.out.below hb)
 have HW4 := Lib.hid (hrow.lower HB3.out.size)
 have HB4 := Lib.hid (chainB HB3.out hb)
 clear hrow hb HS3 HB3
 go_wp2_with fail
 refine (rev_any HS4.out).mono ?_
 rintro e w4b ⟨rfl, rfl⟩
 go_wp2_with fail
 refine (HT1.out _ HB4.out).mono ?_
 rintro e w6 ⟨y, rfl, hrow, hok, hb⟩
 have HOK := Lib.hid hok
 have HS6 := Lib.hid (HS4.out.below hb)
 have HW6 := Lib.hid (HW4.out.below hb)
 have HR6 := Lib.hid (show BRow w6 w.heap.size y from ⟨hrow.r1.lower HB4.out.size, hrow.r2.lower HB4.out.size, hrow.r3.lower HB4.out.size, hrow.r4.lower HB4.out.size⟩)
 have HB6 := Lib.hid (chainB HB4.out hb)
 clear hrow hb hok HT1 HS4 HW4 HB4
 go_upto_region 7 with fail
 obtain ⟨W7, hW7⟩ : ∃ W7, W7 = w6.alloc (.cells #[.slice y.A1 y.l1.length y.c1, .slice y.A2 y.l2.length y.c2, .slice y.A3 y.l3.length y.c3, .slice y.A4 y.l4.length y.c4] 54) := ⟨_, rfl⟩
 rw [← hW7]
 have HW := Lib.hid (show WW w g q3 ((m : Int) + 5) past1 now1 As cs now1 w6.heap.size y W7 by
  have h1 := below_alloc (Below.refl w6.heap.size w6) (.cells #[.slice y.A1 y.l1.length y.c1, .slice y.A2 y.l2.length y.c2, .slice y.A3 y.l3.length y.c3, .slice y.A4 y.l4.length y.c4] 54)
  rw [hW7]
  exact ⟨HS6.out.below h1, HW6.out.below h1, HR6.out.below h1, heap_newS rfl, chainB HB6.out h1⟩)
 clear hW7 HS6 HW6 HR6 HB6
 generalize w6.heap.size = bt at HW ⊢
 have y0 := HW.out.f0
 have y1 := HW.out.f1
 have y2 := HW.out.f2
 have y3 := HW.out.f3
 go_wp2_with fail
 refine (write_s HW.out.st y HW.out.rows.rd HOK.out (by omega) HSS.out (by omega)).mono ?_
 rintro e w8 ⟨q8, n8, past2, now2, rfl, hst, hstep, hk, hb⟩
 have HST := Lib.hid hstep
 have hl2 : now2.length ≤ 24 := by have := hstep.len; have := HOK.out.n1; omega
 have hp2 : past2.length ≤ 2 := by have := hstep.plen; omega
 have HW8 := Lib.hid (HW.out.write hst hk hb)
 clear hst hk hb hstep HW y0 y1 y2 y3
 go_wp2_with fail
 refine (all_c HW8.out.st (by omega)).mono ?_
 rintro e w9 ⟨An, cn, rfl, hrow, hb⟩
 have HN9 := Lib.hid (hrow.lower HW8.out.bw.size)
 have HW9 := Lib.hid (HW8.out.below hb)
 clear hrow hb HW8
 go_wp2_with fail
 refine (at_c HW9.out.st past1.length _ rfl now1 HST.out.old (by omega)).mono ?_
 rintro e w10 ⟨Ao, co, rfl, hrow, hb⟩
 have HO10 := Lib.hid hrow.rd
 have HN10 := Lib.hid (HN9.out.below hb)
 have HW10 := Lib.hid (HW9.out.below hb)
 clear hrow hb HN9 HW9
 go_wp2_with fail
 refine (same_c HO10.out HW10.out.was.rd (by omega)).mono ?_
 rw [decide_eq_true rfl]
 rintro e w11 ⟨rfl, hdr⟩
 have hb := below_of_drawn hdr
 have HN := Lib.hid (HN10.out.below hb)
 have HW := Lib.hid (HW10.out.below hb)
 clear hdr hb HO10 HN10 HW10
 by_cases hn : n8 = 0
 ·subst hn
  have HGOOD := Lib.hid (HST.out.good rfl)
  have HLE := Lib.hid (HST.out.max HMX.out)
  go_wp2_with fail
  refine (same_c HN.out.rd HW.out.was.rd (by omega)).mono ?_
  rintro e w12 ⟨rfl, hdr⟩
  have hb := below_of_drawn hdr
  have HN1 := Lib.hid (HN.out.below hb)
  have HW1 := Lib.hid (HW.out.below hb)
  clear hdr hb HN HW
  by_cases hsame : now2 = now1
  ·rw [decide_eq_true hsame]
   have HP2 := Lib.hid (show (past2.length : Int) = (past1.length : Int) by rw [HST.out.same hsame])
   clear hsame
   go_wp2_with fail
   refine start_ (n := 46) (S := fun w' => WW w g q8 ((m : Int) + 5) past2 now2 As cs now1 bt y w' ∧ Row w' w.heap.size An cn now2) (ds := []) #[F,F,F,F,F,F,F,F,F,F,F,F,F,F,F,F,F,F,F,F,F,F,F,F,F,F,F,F,F,F,F,F,F,F,F,F,F,F,F,F,F,F,F,F,F,F] (by kernel_rfl) rfl rfl (⟨HW1.out.below (below_drew (Below.refl _ _)), HN1.out.below (below_drew (Below.refl _ _))⟩) (fun hHeld => ?_)
   clear HW1 HN1
   generalize w12.drew = W15 at hHeld ⊢
   refine pure_ (i := 0) (N := some 68) (v := ?_) (a' := ?_) #[T,F,F,F,F,F,F,F,F,F,F,F,F,F,F,F,F,F,F,F,F,F,F,F,F,F,F,F,F,F,F,F,F,F,F,F,F,F,F,F,F,F,F,F,F,F] rfl rfl (by kernel_rfl) (fun _ _ _ h => h) (Or.inl ⟨by rfl, ?_⟩) ?_ ?_
   rotate_left
   ·intro w'
    go_simp
    with_reducible rfl
   rotate_left
   ·simp only [Act.put, sa_, sz_, ss_, i64_w, i32_w]
    rfl
   refine pure_ (i := 1) (N := some 69) (v := ?_) (a' := ?_) #[T,T,F,F,F,F,F,F,F,F,F,F,F,F,F,F,F,F,F,F,F,F,F,F,F,F,F,F,F,F,F,F,F,F,F,F,F,F,F,F,F,F,F,F,F,F] rfl rfl (by kernel_rfl) (fun _ _ _ h => h) (Or.inl ⟨by rfl, ?_⟩) ?_ ?_
   rotate_left
   ·intro w'
    go_simp
    with_reducible rfl
   rotate_left
   ·simp only [Act.put, sa_, sz_, ss_, i64_w, i32_w]
    rfl
   refine pure_ (i := 2) (N := some 70) (v := ?_) (a' := ?_) #[T,T,T,F,F,F,F,F,F,F,F,F,F,F,F,F,F,F,F,F,F,F,F,F,F,F,F,F,F,F,F,F,F,F,F,F,F,F,F,F,F,F,F,F,F,F] rfl rfl (by kernel_rfl) (fun _ _ _ h => h) (Or.inl ⟨by rfl, ?_⟩) ?_ ?_
   rotate_left
   ·intro w'
    go_simp
    with_reducible rfl
   rotate_left
   ·simp only [Act.put, sa_, sz_, ss_, i64_w, i32_w]
    rfl
   refine pure_ (i := 5) (N := some 73) (v := ?_) (a' := ?_) #[T,T,T,F,F,T,F,F,F,F,F,F,F,F,F,F,F,F,F,F,F,F,F,F,F,F,F,F,F,F,F,F,F,F,F,F,F,F,F,F,F,F,F,F,F,F] rfl rfl (by kernel_rfl) (fun _ _ _ h => h) (Or.inl ⟨by rfl, ?_⟩) ?_ ?_
   rotate_left
   ·intro w'
    go_simp
    with_reducible rfl
   rotate_left
   ·simp only [Act.put, sa_, sz_, ss_, i64_w, i32_w]
    rfl
   refine take_ (i := 3) (N := some 71) (v := ?_) (a' := ?_) #[T,T,T,T,F,T,F,F,F,F,F,F,F,F,F,F,F,F,F,F,F,F,F,F,F,F,F,F,F,F,F,F,F,F,F,F,F,F,F,F,F,F,F,F,F,F] rfl rfl (by kernel_rfl) (fun _ _ _ h => h) (Or.inl ⟨by rfl, ?_⟩) hHeld ?_ ?_
   rotate_left
   ·rintro w' h
    have y0 := h.1.f0
    have y1 := h.1.f1
    have y2 := h.1.f2
    have y3 := h.1.f3
    go_simp
    with_reducible rfl
   rotate_left
   ·simp only [Act.put, sa_, sz_, ss_, i64_w, i32_w]
    rfl
   refine take_ (i := 6) (N := some 74) (v := ?_) (a' := ?_) #[T,T,T,T,F,T,T,F,F,F,F,F,F,F,F,F,F,F,F,F,F,F,F,F,F,F,F,F,F,F,F,F,F,F,F,F,F,F,F,F,F,F,F,F,F,F] rfl rfl (by kernel_rfl) (fun _ _ _ h => h) (Or.inl ⟨by rfl, ?_⟩) hHeld ?_ ?_
   rotate_left
   ·rintro w' h
    have y0 := h.1.f0
    have y1 := h.1.f1
    have y2 := h.1.f2
    have y3 := h.1.f3
    go_simp
    with_reducible rfl
   rotate_left
   ·simp only [Act.put, sa_, sz_, ss_, i64_w, i32_w]
    rfl
   refine one_ (i := 4) (N := some 72) #[T,T,T,T,T,T,T,F,F,F,F,F,F,F,F,F,F,F,F,F,F,F,F,F,F,F,F,F,F,F,F,F,F,F,F,F,F,F,F,F,F,F,F,F,F,F] rfl rfl (by kernel_rfl) (by decide) (fun K hK => ?_)
   go_simp
   refine (refMinus_c hHeld.1.was.rd hHeld.1.rows.r2.rd (by omega) (by have := HOK.out.n2; omega)).mono ?_
   rintro e w104 ⟨Ab, cb, rfl, hrow, hb⟩
   have RP := Lib.hid hrow.rd
   clear hrow
   refine hK.out _ _ (⟨hHeld.1.below hb, hHeld.2.below hb⟩) (fun hHeld => ?_)
   clear hK K
   try simp only [Act.put, sa_, sz_, ss_, i64_w, i32_w]
   refine one_ (i := 7) (N := some 75) #[T,T,T,T,T,T,T,T,F,F,F,F,F,F,F,F,F,F,F,F,F,F,F,F,F,F,F,F,F,F,F,F,F,F,F,F,F,F,F,F,F,F,F,F,F,F] rfl rfl (by kernel_rfl) (by decide) (fun K hK => ?_)
   go_simp
   refine (refPlus_c RP.out hHeld.1.rows.r1.rd (by have := less_length (norm cmpT now1) y.l2; have := norm_length cmpT now1; omega) (by have := HOK.out.n1; omega)).mono ?_
   rintro e w107 ⟨Ac, cc, rfl, hrow, hb⟩
   have RQ := Lib.hid (show Rd w107 Ac cc now2 by rw [HGOOD.out]; exact hrow.rd)
   rw [show norm cmpT (less (norm cmpT now1) y.l2 ++ y.l1) = now2 from HGOOD.out.symm]
   clear hrow RP
   refine hK.out _ _ (⟨hHeld.1.below hb, hHeld.2.below hb⟩) (fun hHeld => ?_)
   clear hK K
   try simp only [Act.put, sa_, sz_, ss_, i64_w, i32_w]
   refine one_ (i := 8) (N := some 76) #[T,T,T,T,T,T,T,T,T,F,F,F,F,F,F,F,F,F,F,F,F,F,F,F,F,F,F,F,F,F,F,F,F,F,F,F,F,F,F,F,F,F,F,F,F,F] rfl rfl (by kernel_rfl) (by decide) (fun K hK => ?_)
   go_simp
   refine (same_c hHeld.2.rd RQ.out (by omega)).mono ?_
   rw [decide_eq_true rfl]
   rintro e w108 ⟨rfl, hdr⟩
   have hb := below_of_drawn hdr
   clear hdr RQ
   refine hK.out _ _ (⟨hHeld.1.below hb, hHeld.2.below hb⟩) (fun hHeld => ?_)
   clear hK K
   try simp only [Act.put, sa_, sz_, ss_, i64_w, i32_w]
   refine pure_ (i := 9) (N := some 77) (v := ?_) (a' := ?_) #[T,T,T,T,T,T,T,T,T,T,F,F,F,F,F,F,F,F,F,F,F,F,F,F,F,F,F,F,F,F,F,F,F,F,F,F,F,F,F,F,F,F,F,F,F,F] rfl rfl (by kernel_rfl) (fun _ _ _ h => h) (Or.inl ⟨by rfl, ?_⟩) ?_ ?_
   rotate_left
   ·intro w'
    go_simp
    with_reducible rfl
   rotate_left
   ·simp only [Act.put, sa_, sz_, ss_, i64_w, i32_w]
    rfl
   refine pure_ (i := 10) (N := some 78) (v := ?_) (a' := ?_) #[T,T,T,T,T,T,T,T,T,T,T,F,F,F,F,F,F,F,F,F,F,F,F,F,F,F,F,F,F,F,F,F,F,F,F,F,F,F,F,F,F,F,F,F,F,F] rfl rfl (by kernel_rfl) (fun _ _ _ h => h) (Or.inl ⟨by rfl, ?_⟩) ?_ ?_
   rotate_left
   ·intro w'
    go_simp
    with_reducible rfl
   rotate_left
   ·simp only [Act.put, sa_, sz_, ss_, i64_w, i32_w]
    rfl
   refine pure_ (i := 12) (N := some 80) (v := ?_) (a' := ?_) #[T,T,T,T,T,T,T,T,T,T,T,F,T,F,F,F,F,F,F,F,F,F,F,F,F,F,F,F,F,F,F,F,F,F,F,F,F,F,F,F,F,F,F,F,F,F] rfl rfl (by kernel_rfl) (fun _ _ _ h => h) (Or.inl ⟨by rfl, ?_⟩) ?_ ?_
   rotate_left
   ·intro w'
    go_simp
    with_reducible rfl
   rotate_left
   ·simp only [Act.put, sa_, sz_, ss_, i64_w, i32_w]
    rfl
   refine pure_ (i := 14) (N := some 82) (v := ?_) (a' := ?_) #[T,T,T,T,T,T,T,T,T,T,T,F,T,F,T,F,F,F,F,F,F,F,F,F,F,F,F,F,F,F,F,F,F,F,F,F,F,F,F,F,F,F,F,F,F,F] rfl rfl (by kernel_rfl) (fun _ _ _ h => h) (Or.inl ⟨by rfl, ?_⟩) ?_ ?_
   rotate_left
   ·intro w'
    go_simp
    with_reducible rfl
   rotate_left
   ·simp only [Act.put, sa_, sz_, ss_, i64_w, i32_w]
    rfl
   refine one_ (i := 11) (N := some 79) #[T,T,T,T,T,T,T,T,T,T,T,T,T,F,T,F,F,F,F,F,F,F,F,F,F,F,F,F,F,F,F,F,F,F,F,F,F,F,F,F,F,F,F,F,F,F] rfl rfl (by kernel_rfl) (by decide) (fun K hK => ?_)
   go_simp
   refine (rev_n hHeld.1.st _ HP2.out).mono ?_
   rintro e w111 ⟨rfl, rfl⟩
   refine hK.out _ _ (hHeld) (fun hHeld => ?_)
   clear hK K
   try simp only [Act.put, sa_, sz_, ss_, i64_w, i32_w]
   refine pure_ (i := 13) (N := some 81) (v := ?_) (a' := ?_) #[T,T,T,T,T,T,T,T,T,T,T,T,T,T,T,F,F,F,F,F,F,F,F,F,F,F,F,F,F,F,F,F,F,F,F,F,F,F,F,F,F,F,F,F,F,F] rfl rfl (by kernel_rfl) (fun _ _ _ h => h) (Or.inl ⟨by rfl, ?_⟩) ?_ ?_
   rotate_left
   ·intro w'
    go_simp
    with_reducible rfl
   rotate_left
   ·simp only [Act.put, sa_, sz_, ss_, i64_w, i32_w]
    rfl
   simp only [beq_self_eq_true, decide_true]
   refine pure_ (i := 15) (N := some 83) (v := ?_) (a' := ?_) #[T,T,T,T,T,T,T,T,T,T,T,T,T,T,T,T,F,F,F,F,F,F,F,F,F,F,F,F,F,F,F,F,F,F,F,F,F,F,F,F,F,F,F,F,F,F] rfl rfl (by kernel_rfl) (fun _ _ _ h => h) (Or.inl ⟨by rfl, ?_⟩) ?_ ?_
   rotate_left
   ·intro w'
    go_simp
    with_reducible rfl
   rotate_left
   ·simp only [Act.put, sa_, sz_, ss_, i64_w, i32_w]
    rfl
   simp only [beq_self_eq_true, decide_true]
   refine pure_ (i := 16) (N := some 84) (v := ?_) (a' := ?_) #[T,T,T,T,T,T,T,T,T,T,T,T,T,T,T,T,T,F,F,F,F,F,F,F,F,F,F,F,F,F,F,F,F,F,F,F,F,F,F,F,F,F,F,F,F,F] rfl rfl (by kernel_rfl) (fun _ _ _ h => h) (Or.inl ⟨by rfl, ?_⟩) ?_ ?_
   rotate_left
   ·intro w'
    go_simp
    with_reducible rfl
   rotate_left
   ·simp only [Act.put, sa_, sz_, ss_, i64_w, i32_w]
    rfl
   refine pure_ (i := 17) (N := some 85) (v := ?_) (a' := ?_) #[T,T,T,T,T,T,T,T,T,T,T,T,T,T,T,T,T,T,F,F,F,F,F,F,F,F,F,F,F,F,F,F,F,F,F,F,F,F,F,F,F,F,F,F,F,F] rfl rfl (by kernel_rfl) (fun _ _ _ h => h) (Or.inl ⟨by rfl, ?_⟩) ?_ ?_
   rotate_left
   ·intro w'
    go_simp
    with_reducible rfl
   rotate_left
   ·simp only [Act.put, sa_, sz_, ss_, i64_w, i32_w]
    rfl
   refine pure_ (i := 18) (N := some 86) (v := ?_) (a' := ?_) #[T,T,T,T,T,T,T,T,T,T,T,T,T,T,T,T,T,T,T,F,F,F,F,F,F,F,F,F,F,F,F,F,F,F,F,F,F,F,F,F,F,F,F,F,F,F] rfl rfl (by kernel_rfl) (fun _ _ _ h => h) (Or.inl ⟨by rfl, ?_⟩) ?_ ?_
   rotate_left
   ·intro w'
    go_simp
    with_reducible rfl
   rotate_left
   ·simp only [Act.put, sa_, sz_, ss_, i64_w, i32_w]
    rfl
   refine pure_ (i := 19) (N := some 87) (v := ?_) (a' := ?_) #[T,T,T,T,T,T,T,T,T,T,T,T,T,T,T,T,T,T,T,T,F,F,F,F,F,F,F,F,F,F,F,F,F,F,F,F,F,F,F,F,F,F,F,F,F,F] rfl rfl (by kernel_rfl) (fun _ _ _ h => h) (Or.inl ⟨by rfl, ?_⟩) ?_ ?_
   rotate_left
   ·intro w'
    go_simp
    with_reducible rfl
   rotate_left
   ·simp only [Act.put, sa_, sz_, ss_, i64_w, i32_w]
    rfl
   refine pure_ (i := 20) (N := some 88) (v := undef) (a' := ?_) #[T,T,T,T,T,T,T,T,T,T,T,T,T,T,T,T,T,T,T,T,T,F,F,F,F,F,F,F,F,F,F,F,F,F,F,F,F,F,F,F,F,F,F,F,F,F] rfl rfl (by kernel_rfl) (fun _ _ _ h => h) (Or.inr ⟨by rfl, rfl⟩) ?_ ?_
   rotate_left
   ·simp only [Act.put, sa_, sz_, ss_, i64_w, i32_w]
    rfl
   refine pure_ (i := 22) (N := some 90) (v := undef) (a' := ?_) #[T,T,T,T,T,T,T,T,T,T,T,T,T,T,T,T,T,T,T,T,T,F,T,F,F,F,F,F,F,F,F,F,F,F,F,F,F,F,F,F,F,F,F,F,F,F] rfl rfl (by kernel_rfl) (fun _ _ _ h => h) (Or.inr ⟨by rfl, rfl⟩) ?_ ?_
   rotate_left
   ·simp only [Act.put, sa_, sz_, ss_, i64_w, i32_w]
    rfl
   refine pure_ (i := 23) (N := some 91) (v := undef) (a' := ?_) #[T,T,T,T,T,T,T,T,T,T,T,T,T,T,T,T,T,T,T,T,T,F,T,T,F,F,F,F,F,F,F,F,F,F,F,F,F,F,F,F,F,F,F,F,F,F] rfl rfl (by kernel_rfl) (fun _ _ _ h => h) (Or.inr ⟨by rfl, rfl⟩) ?_ ?_
   rotate_left
   ·simp only [Act.put, sa_, sz_, ss_, i64_w, i32_w]
    rfl
   refine pure_ (i := 21) (N := some 89) (v := undef) (a' := ?_) #[T,T,T,T,T,T,T,T,T,T,T,T,T,T,T,T,T,T,T,T,T,T,T,T,F,F,F,F,F,F,F,F,F,F,F,F,F,F,F,F,F,F,F,F,F,F] rfl rfl (by kernel_rfl) (fun _ _ _ h => h) (Or.inr ⟨by rfl, rfl⟩) ?_ ?_
   rotate_left
   ·simp only [Act.put, sa_, sz_, ss_, i64_w, i32_w]
    rfl
   refine pure_ (i := 24) (N := some 92) (v := undef) (a' := ?_) #[T,T,T,T,T,T,T,T,T,T,T,T,T,T,T,T,T,T,T,T,T,T,T,T,T,F,F,F,F,F,F,F,F,F,F,F,F,F,F,F,F,F,F,F,F,F] rfl rfl (by kernel_rfl) (fun _ _ _ h => h) (Or.inr ⟨by rfl, rfl⟩) ?_ ?_
   rotate_left
   ·simp only [Act.put, sa_, sz_, ss_, i64_w, i32_w]
    rfl
   refine pure_ (i := 25) (N := some 93) (v := ?_) (a' := ?_) #[T,T,T,T,T,T,T,T,T,T,T,T,T,T,T,T,T,T,T,T,T,T,T,T,T,T,F,F,F,F,F,F,F,F,F,F,F,F,F,F,F,F,F,F,F,F] rfl rfl (by kernel_rfl) (fun _ _ _ h => h) (Or.inl ⟨by rfl, ?_⟩) ?_ ?_
   rotate_left
   ·intro w'
    go_simp
    with_reducible rfl
   rotate_left
   ·simp only [Act.put, sa_, sz_, ss_, i64_w, i32_w]
    rfl
   refine pure_ (i := 26) (N := some 94) (v := ?_) (a' := ?_) #[T,T,T,T,T,T,T,T,T,T,T,T,T,T,T,T,T,T,T,T,T,T,T,T,T,T,T,F,F,F,F,F,F,F,F,F,F,F,F,F,F,F,F,F,F,F] rfl rfl (by kernel_rfl) (fun _ _ _ h => h) (Or.inl ⟨by rfl, ?_⟩) ?_ ?_
   rotate_left
   ·intro w'
    go_simp
    with_reducible rfl
   rotate_left
   ·simp only [Act.put, sa_, sz_, ss_, i64_w, i32_w]
    rfl
   refine pure_ (i := 27) (N := some 95) (v := ?_) (a' := ?_) #[T,T,T,T,T,T,T,T,T,T,T,T,T,T,T,T,T,T,T,T,T,T,T,T,T,T,T,T,F,F,F,F,F,F,F,F,F,F,F,F,F,F,F,F,F,F] rfl rfl (by kernel_rfl) (fun _ _ _ h => h) (Or.inl ⟨by rfl, ?_⟩) ?_ ?_
   rotate_left
   ·intro w'
    go_simp
    with_reducible rfl
   rotate_left
   ·simp only [Act.put, sa_, sz_, ss_, i64_w, i32_w]
    rfl
   refine pure_ (i := 28) (N := some 96) (v := ?_) (a' := ?_) #[T,T,T,T,T,T,T,T,T,T,T,T,T,T,T,T,T,T,T,T,T,T,T,T,T,T,T,T,T,F,F,F,F,F,F,F,F,F,F,F,F,F,F,F,F,F] rfl rfl (by kernel_rfl) (fun _ _ _ h => h) (Or.inl ⟨by rfl, ?_⟩) ?_ ?_
   rotate_left
   ·intro w'
    go_simp
    with_reducible rfl
   rotate_left
   ·simp only [Act.put, sa_, sz_, ss_, i64_w, i32_w]
    rfl
   refine pure_ (i := 30) (N := some 98) (v := ?_) (a' := ?_) #[T,T,T,T,T,T,T,T,T,T,T,T,T,T,T,T,T,T,T,T,T,T,T,T,T,T,T,T,T,F,T,F,F,F,F,F,F,F,F,F,F,F,F,F,F,F] rfl rfl (by kernel_rfl) (fun _ _ _ h => h) (Or.inl ⟨by rfl, ?_⟩) ?_ ?_
   rotate_left
   ·intro w'
    go_simp
    with_reducible rfl
   rotate_left
   ·simp only [Act.put, sa_, sz_, ss_, i64_w, i32_w]
    rfl
   refine pure_ (i := 31) (N := some 99) (v := ?_) (a' := ?_) #[T,T,T,T,T,T,T,T,T,T,T,T,T,T,T,T,T,T,T,T,T,T,T,T,T,T,T,T,T,F,T,T,F,F,F,F,F,F,F,F,F,F,F,F,F,F] rfl rfl (by kernel_rfl) (fun _ _ _ h => h) (Or.inl ⟨by rfl, ?_⟩) ?_ ?_
   rotate_left
   ·intro w'
    go_simp
    with_reducible rfl
   rotate_left
   ·simp only [Act.put, sa_, sz_, ss_, i64_w, i32_w]
    rfl
   refine one_ (i := 29) (N := some 97) #[T,T,T,T,T,T,T,T,T,T,T,T,T,T,T,T,T,T,T,T,T,T,T,T,T,T,T,T,T,T,T,T,F,F,F,F,F,F,F,F,F,F,F,F,F,F] rfl rfl (by kernel_rfl) (by decide) (fun K hK => ?_)
   go_simp
   refine (len_n hHeld.1.st _ rfl).mono ?_
   rintro e w129 ⟨rfl, hdr⟩
   have hb := below_of_drawn hdr
   clear hdr
   refine hK.out _ _ (⟨hHeld.1.below hb, hHeld.2.below hb⟩) (fun hHeld => ?_)
   clear hK K
   try simp only [Act.put, sa_, sz_, ss_, i64_w, i32_w]
   refine pure_ (i := 32) (N := some 100) (v := ?_) (a' := ?_) #[T,T,T,T,T,T,T,T,T,T,T,T,T,T,T,T,T,T,T,T,T,T,T,T,T,T,T,T,T,T,T,T,T,F,F,F,F,F,F,F,F,F,F,F,F,F] rfl rfl (by kernel_rfl) (fun _ _ _ h => h) (Or.inl ⟨by rfl, ?_⟩) ?_ ?_
   rotate_left
   ·intro w'
    go_simp
    with_reducible rfl
   rotate_left
   ·simp only [Act.put, sa_, sz_, ss_, i64_w, i32_w]
    rfl
   simp only [beq_self_eq_true, decide_true]
   refine pure_ (i := 33) (N := some 101) (v := ?_) (a' := ?_) #[T,T,T,T,T,T,T,T,T,T,T,T,T,T,T,T,T,T,T,T,T,T,T,T,T,T,T,T,T,T,T,T,T,T,F,F,F,F,F,F,F,F,F,F,F,F] rfl rfl (by kernel_rfl) (fun _ _ _ h => h) (Or.inl ⟨by rfl, ?_⟩) ?_ ?_
   rotate_left
   ·intro w'
    go_simp
    with_reducible rfl
   rotate_left
   ·simp only [Act.put, sa_, sz_, ss_, i64_w, i32_w]
    rfl
   refine pure_ (i := 34) (N := some 102) (v := ?_) (a' := ?_) #[T,T,T,T,T,T,T,T,T,T,T,T,T,T,T,T,T,T,T,T,T,T,T,T,T,T,T,T,T,T,T,T,T,T,T,F,F,F,F,F,F,F,F,F,F,F] rfl rfl (by kernel_rfl) (fun _ _ _ h => h) (Or.inl ⟨by rfl, ?_⟩) ?_ ?_
   rotate_left
   ·intro w'
    go_simp
    with_reducible rfl
   rotate_left
   ·simp only [Act.put, sa_, sz_, ss_, i64_w, i32_w]
    rfl
   refine pure_ (i := 35) (N := some 103) (v := ?_) (a' := ?_) #[T,T,T,T,T,T,T,T,T,T,T,T,T,T,T,T,T,T,T,T,T,T,T,T,T,T,T,T,T,T,T,T,T,T,T,T,F,F,F,F,F,F,F,F,F,F] rfl rfl (by kernel_rfl) (fun _ _ _ h => h) (Or.inl ⟨by rfl, ?_⟩) ?_ ?_
   rotate_left
   ·intro w'
    go_simp
    with_reducible rfl
   rotate_left
   ·simp only [Act.put, sa_, sz_, ss_, i64_w, i32_w]
    rfl
   refine pure_ (i := 37) (N := some 105) (v := ?_) (a' := ?_) #[T,T,T,T,T,T,T,T,T,T,T,T,T,T,T,T,T,T,T,T,T,T,T,T,T,T,T,T,T,T,T,T,T,T,T,T,F,T,F,F,F,F,F,F,F,F] rfl rfl (by kernel_rfl) (fun _ _ _ h => h) (Or.inl ⟨by rfl, ?_⟩) ?_ ?_
   rotate_left
   ·intro w'
    go_simp
    with_reducible rfl
   rotate_left
   ·simp only [Act.put, sa_, sz_, ss_, i64_w, i32_w]
    rfl
   refine pure_ (i := 38) (N := some 106) (v := ?_) (a' := ?_) #[T,T,T,T,T,T,T,T,T,T,T,T,T,T,T,T,T,T,T,T,T,T,T,T,T,T,T,T,T,T,T,T,T,T,T,T,F,T,T,F,F,F,F,F,F,F] rfl rfl (by kernel_rfl) (fun _ _ _ h => h) (Or.inl ⟨by rfl, ?_⟩) ?_ ?_
   rotate_left
   ·intro w'
    go_simp
    with_reducible rfl
   rotate_left
   ·simp only [Act.put, sa_, sz_, ss_, i64_w, i32_w]
    rfl
   refine pure_ (i := 39) (N := some 107) (v := ?_) (a' := ?_) #[T,T,T,T,T,T,T,T,T,T,T,T,T,T,T,T,T,T,T,T,T,T,T,T,T,T,T,T,T,T,T,T,T,T,T,T,F,T,T,T,F,F,F,F,F,F] rfl rfl (by kernel_rfl) (fun _ _ _ h => h) (Or.inl ⟨by rfl, ?_⟩) ?_ ?_
   rotate_left
   ·intro w'
    go_simp
    with_reducible rfl
   rotate_left
   ·simp only [Act.put, sa_, sz_, ss_, i64_w, i32_w]
    rfl
   rw [wrapM m hm2]
   refine one_ (i := 36) (N := some 104) #[T,T,T,T,T,T,T,T,T,T,T,T,T,T,T,T,T,T,T,T,T,T,T,T,T,T,T,T,T,T,T,T,T,T,T,T,T,T,T,T,F,F,F,F,F,F] rfl rfl (by kernel_rfl) (by decide) (fun K hK => ?_)
   go_simp
   refine (len_n hHeld.1.st _ rfl).mono ?_
   rintro e w136 ⟨rfl, hdr⟩
   have hb := below_of_drawn hdr
   clear hdr
   refine hK.out _ _ (⟨hHeld.1.below hb, hHeld.2.below hb⟩) (fun hHeld => ?_)
   clear hK K
   try simp only [Act.put, sa_, sz_, ss_, i64_w, i32_w]
   refine pure_ (i := 40) (N := some 108) (v := ?_) (a' := ?_) #[T,T,T,T,T,T,T,T,T,T,T,T,T,T,T,T,T,T,T,T,T,T,T,T,T,T,T,T,T,T,T,T,T,T,T,T,T,T,T,T,T,F,F,F,F,F] rfl rfl (by kernel_rfl) (fun _ _ _ h => h) (Or.inl ⟨by rfl, ?_⟩) ?_ ?_
   rotate_left
   ·intro w'
    go_simp
    with_reducible rfl
   rotate_left
   ·simp only [Act.put, sa_, sz_, ss_, i64_w, i32_w]
    rfl
   simp only [decide_eq_true HLE.out]
   refine pure_ (i := 41) (N := some 109) (v := ?_) (a' := ?_) #[T,T,T,T,T,T,T,T,T,T,T,T,T,T,T,T,T,T,T,T,T,T,T,T,T,T,T,T,T,T,T,T,T,T,T,T,T,T,T,T,T,T,F,F,F,F] rfl rfl (by kernel_rfl) (fun _ _ _ h => h) (Or.inl ⟨by rfl, ?_⟩) ?_ ?_
   rotate_left
   ·intro w'
    go_simp
    with_reducible rfl
   rotate_left
   ·simp only [Act.put, sa_, sz_, ss_, i64_w, i32_w]
    rfl
   refine pure_ (i := 42) (N := some 110) (v := ?_) (a' := ?_) #[T,T,T,T,T,T,T,T,T,T,T,T,T,T,T,T,T,T,T,T,T,T,T,T,T,T,T,T,T,T,T,T,T,T,T,T,T,T,T,T,T,T,T,F,F,F] rfl rfl (by kernel_rfl) (fun _ _ _ h => h) (Or.inl ⟨by rfl, ?_⟩) ?_ ?_
   rotate_left
   ·intro w'
    go_simp
    with_reducible rfl
   rotate_left
   ·simp only [Act.put, sa_, sz_, ss_, i64_w, i32_w]
    rfl
   refine one_ (i := 43) (N := some 111) #[T,T,T,T,T,T,T,T,T,T,T,T,T,T,T,T,T,T,T,T,T,T,T,T,T,T,T,T,T,T,T,T,T,T,T,T,T,T,T,T,T,T,T,T,F,F] rfl rfl (by kernel_rfl) (by decide) (fun K hK => ?_)
   go_simp
   refine (awake4_c _).mono ?_
   rintro e w143 ⟨rfl, hb⟩
   refine hK.out _ _ (⟨hHeld.1.below hb, hHeld.2.below hb⟩) (fun hHeld => ?_)
   clear hK K
   try simp only [Act.put, sa_, sz_, ss_, i64_w, i32_w]
   refine pure_ (i := 44) (N := some 112) (v := ?_) (a' := ?_) #[T,T,T,T,T,T,T,T,T,T,T,T,T,T,T,T,T,T,T,T,T,T,T,T,T,T,T,T,T,T,T,T,T,T,T,T,T,T,T,T,T,T,T,T,T,F] rfl rfl (by kernel_rfl) (fun _ _ _ h => h) (Or.inl ⟨by rfl, ?_⟩) ?_ ?_
   rotate_left
   ·intro w'
    go_simp
    with_reducible rfl
   rotate_left
   ·simp only [Act.put, sa_, sz_, ss_, i64_w, i32_w]
    rfl
   refine pure_ (i := 45) (N := some 6) (v := ?_) (a' := ?_) #[T,T,T,T,T,T,T,T,T,T,T,T,T,T,T,T,T,T,T,T,T,T,T,T,T,T,T,T,T,T,T,T,T,T,T,T,T,T,T,T,T,T,T,T,T,T] rfl rfl (by kernel_rfl) (fun _ _ _ h => h) (Or.inl ⟨by rfl, ?_⟩) ?_ ?_
   rotate_left
   ·intro w'
    go_simp
    with_reducible rfl
   rotate_left
   ·simp only [Act.put, sa_, sz_, ss_, i64_w, i32_w]
    rfl
   have hbw := Lib.hid hHeld.1.bw
   clear hHeld
   refine done_ (by kernel_rfl) ?_
   go_wp2_with fail
   go_ret
   exact ⟨rfl, hbw.out⟩
  ·rw [decide_eq_false hsame]
   have HP2 := Lib.hid (show (past2.length : Int) = (past1.length : Int) + 1 by rw [HST.out.diff hsame]; simp)
   clear hsame
   go_wp2_with fail
   refine start_ (n := 46) (S := fun w' => WW w g q8 ((m : Int) + 5) past2 now2 As cs now1 bt y w' ∧ Row w' w.heap.size An cn now2) (ds := []) #[F,F,F,F,F,F,F,F,F,F,F,F,F,F,F,F,F,F,F,F,F,F,F,F,F,F,F,F,F,F,F,F,F,F,F,F,F,F,F,F,F,F,F,F,F,F] (by kernel_rfl) rfl rfl (⟨HW1.out.below (below_drew (Below.refl _ _)), HN1.out.below (below_drew (Below.refl _ _))⟩) (fun hHeld => ?_)
   clear HW1 HN1
   generalize w12.drew = W15 at hHeld ⊢
   refine pure_ (i := 0) (N := some 68) (v := ?_) (a' := ?_) #[T,F,F,F,F,F,F,F,F,F,F,F,F,F,F,F,F,F,F,F,F,F,F,F,F,F,F,F,F,F,F,F,F,F,F,F,F,F,F,F,F,F,F,F,F,F] rfl rfl (by kernel_rfl) (fun _ _ _ h => h) (Or.inl ⟨by rfl, ?_⟩) ?_ ?_
   rotate_left
   ·intro w'
    go_simp
    with_reducible rfl
   rotate_left
   ·simp only [Act.put, sa_, sz_, ss_, i64_w, i32_w]
    rfl
   refine pure_ (i := 1) (N := some 69) (v := ?_) (a' := ?_) #[T,T,F,F,F,F,F,F,F,F,F,F,F,F,F,F,F,F,F,F,F,F,F,F,F,F,F,F,F,F,F,F,F,F,F,F,F,F,F,F,F,F,F,F,F,F] rfl rfl (by kernel_rfl) (fun _ _ _ h => h) (Or.inl ⟨by rfl, ?_⟩) ?_ ?_
   rotate_left
   ·intro w'
    go_simp
    with_reducible rfl
   rotate_left
   ·simp only [Act.put, sa_, sz_, ss_, i64_w, i32_w]
    rfl
   refine pure_ (i := 2) (N := some 70) (v := ?_) (a' := ?_) #[T,T,T,F,F,F,F,F,F,F,F,F,F,F,F,F,F,F,F,F,F,F,F,F,F,F,F,F,F,F,F,F,F,F,F,F,F,F,F,F,F,F,F,F,F,F] rfl rfl (by kernel_rfl) (fun _ _ _ h => h) (Or.inl ⟨by rfl, ?_⟩) ?_ ?_
   rotate_left
   ·intro w'
    go_simp
    with_reducible rfl
   rotate_left
   ·simp only [Act.put, sa_, sz_, ss_, i64_w, i32_w]
    rfl
   refine pure_ (i := 5) (N := some 73) (v := ?_) (a' := ?_) #[T,T,T,F,F,T,F,F,F,F,F,F,F,F,F,F,F,F,F,F,F,F,F,F,F,F,F,F,F,F,F,F,F,F,F,F,F,F,F,F,F,F,F,F,F,F] rfl rfl (by kernel_rfl) (fun _ _ _ h => h) (Or.inl ⟨by rfl, ?_⟩) ?_ ?_
   rotate_left
   ·intro w'
    go_simp
    with_reducible rfl
   rotate_left
   ·simp only [Act.put, sa_, sz_, ss_, i64_w, i32_w]
    rfl
   refine take_ (i := 3) (N := some 71) (v := ?_) (a' := ?_) #[T,T,T,T,F,T,F,F,F,F,F,F,F,F,F,F,F,F,F,F,F,F,F,F,F,F,F,F,F,F,F,F,F,F,F,F,F,F,F,F,F,F,F,F,F,F] rfl rfl (by kernel_rfl) (fun _ _ _ h => h) (Or.inl ⟨by rfl, ?_⟩) hHeld ?_ ?_
   rotate_left
   ·rintro w' h
    have y0 := h.1.f0
    have y1 := h.1.f1
    have y2 := h.1.f2
    have y3 := h.1.f3
    go_simp
    with_reducible rfl
   rotate_left
   ·simp only [Act.put, sa_, sz_, ss_, i64_w, i32_w]
    rfl
   refine take_ (i := 6) (N := some 74) (v := ?_) (a' := ?_) #[T,T,T,T,F,T,T,F,F,F,F,F,F,F,F,F,F,F,F,F,F,F,F,F,F,F,F,F,F,F,F,F,F,F,F,F,F,F,F,F,F,F,F,F,F,F] rfl rfl (by kernel_rfl) (fun _ _ _ h => h) (Or.inl ⟨by rfl, ?_⟩) hHeld ?_ ?_
   rotate_left
   ·rintro w' h
    have y0 := h.1.f0
    have y1 := h.1.f1
    have y2 := h.1.f2
    have y3 := h.1.f3
    go_simp
    with_reducible rfl
   rotate_left
   ·simp only [Act.put, sa_, sz_, ss_, i64_w, i32_w]
    rfl
   refine one_ (i := 4) (N := some 72) #[T,T,T,T,T,T,T,F,F,F,F,F,F,F,F,F,F,F,F,F,F,F,F,F,F,F,F,F,F,F,F,F,F,F,F,F,F,F,F,F,F,F,F,F,F,F] rfl rfl (by kernel_rfl) (by decide) (fun K hK => ?_)
   go_simp
   refine (refMinus_c hHeld.1.was.rd hHeld.1.rows.r2.rd (by omega) (by have := HOK.out.n2; omega)).mono ?_
   rintro e w104 ⟨Ab, cb, rfl, hrow, hb⟩
   have RP := Lib.hid hrow.rd
   clear hrow
   refine hK.out _ _ (⟨hHeld.1.below hb, hHeld.2.below hb⟩) (fun hHeld => ?_)
   clear hK K
   try simp only [Act.put, sa_, sz_, ss_, i64_w, i32_w]
   refine one_ (i := 7) (N := some 75) #[T,T,T,T,T,T,T,T,F,F,F,F,F,F,F,F,F,F,F,F,F,F,F,F,F,F,F,F,F,F,F,F,F,F,F,F,F,F,F,F,F,F,F,F,F,F] rfl rfl (by kernel_rfl) (by decide) (fun K hK => ?_)
   go_simp
   refine (refPlus_c RP.out hHeld.1.rows.r1.rd (by have := less_length (norm cmpT now1) y.l2; have := norm_length cmpT now1; omega) (by have := HOK.out.n1; omega)).mono ?_
   rintro e w107 ⟨Ac, cc, rfl, hrow, hb⟩
   have RQ := Lib.hid (show Rd w107 Ac cc now2 by rw [HGOOD.out]; exact hrow.rd)
   rw [show norm cmpT (less (norm cmpT now1) y.l2 ++ y.l1) = now2 from HGOOD.out.symm]
   clear hrow RP
   refine hK.out _ _ (⟨hHeld.1.below hb, hHeld.2.below hb⟩) (fun hHeld => ?_)
   clear hK K
   try simp only [Act.put, sa_, sz_, ss_, i64_w, i32_w]
   refine one_ (i := 8) (N := some 76) #[T,T,T,T,T,T,T,T,T,F,F,F,F,F,F,F,F,F,F,F,F,F,F,F,F,F,F,F,F,F,F,F,F,F,F,F,F,F,F,F,F,F,F,F,F,F] rfl rfl (by kernel_rfl) (by decide) (fun K hK => ?_)
   go_simp
   refine (same_c hHeld.2.rd RQ.out (by omega)).mono ?_
   rw [decide_eq_true rfl]
   rintro e w108 ⟨rfl, hdr⟩
   have hb := below_of_drawn hdr
   clear hdr RQ
   refine hK.out _ _ (⟨hHeld.1.below hb, hHeld.2.below hb⟩) (fun hHeld => ?_)
   clear hK K
   try simp only [Act.put, sa_, sz_, ss_, i64_w, i32_w]
   refine pure_ (i := 9) (N := some 77) (v := ?_) (a' := ?_) #[T,T,T,T,T,T,T,T,T,T,F,F,F,F,F,F,F,F,F,F,F,F,F,F,F,F,F,F,F,F,F,F,F,F,F,F,F,F,F,F,F,F,F,F,F,F] rfl rfl (by kernel_rfl) (fun _ _ _ h => h) (Or.inl ⟨by rfl, ?_⟩) ?_ ?_
   rotate_left
   ·intro w'
    go_simp
    with_reducible rfl
   rotate_left
   ·simp only [Act.put, sa_, sz_, ss_, i64_w, i32_w]
    rfl
   refine pure_ (i := 10) (N := some 78) (v := ?_) (a' := ?_) #[T,T,T,T,T,T,T,T,T,T,T,F,F,F,F,F,F,F,F,F,F,F,F,F,F,F,F,F,F,F,F,F,F,F,F,F,F,F,F,F,F,F,F,F,F,F] rfl rfl (by kernel_rfl) (fun _ _ _ h => h) (Or.inl ⟨by rfl, ?_⟩) ?_ ?_
   rotate_left
   ·intro w'
    go_simp
    with_reducible rfl
   rotate_left
   ·simp only [Act.put, sa_, sz_, ss_, i64_w, i32_w]
    rfl
   refine pure_ (i := 12) (N := some 80) (v := ?_) (a' := ?_) #[T,T,T,T,T,T,T,T,T,T,T,F,T,F,F,F,F,F,F,F,F,F,F,F,F,F,F,F,F,F,F,F,F,F,F,F,F,F,F,F,F,F,F,F,F,F] rfl rfl (by kernel_rfl) (fun _ _ _ h => h) (Or.inl ⟨by rfl, ?_⟩) ?_ ?_
   rotate_left
   ·intro w'
    go_simp
    with_reducible rfl
   rotate_left
   ·simp only [Act.put, sa_, sz_, ss_, i64_w, i32_w]
    rfl
   refine pure_ (i := 14) (N := some 82) (v := ?_) (a' := ?_) #[T,T,T,T,T,T,T,T,T,T,T,F,T,F,T,F,F,F,F,F,F,F,F,F,F,F,F,F,F,F,F,F,F,F,F,F,F,F,F,F,F,F,F,F,F,F] rfl rfl (by kernel_rfl) (fun _ _ _ h => h) (Or.inl ⟨by rfl, ?_⟩) ?_ ?_
   rotate_left
   ·intro w'
    go_simp
    with_reducible rfl
   rotate_left
   ·simp only [Act.put, sa_, sz_, ss_, i64_w, i32_w]
    rfl
   refine one_ (i := 11) (N := some 79) #[T,T,T,T,T,T,T,T,T,T,T,T,T,F,T,F,F,F,F,F,F,F,F,F,F,F,F,F,F,F,F,F,F,F,F,F,F,F,F,F,F,F,F,F,F,F] rfl rfl (by kernel_rfl) (by decide) (fun K hK => ?_)
   go_simp
   refine (rev_n hHeld.1.st _ HP2.out).mono ?_
   rintro e w111 ⟨rfl, rfl⟩
   refine hK.out _ _ (hHeld) (fun hHeld => ?_)
   clear hK K
   try simp only [Act.put, sa_, sz_, ss_, i64_w, i32_w]
   refine pure_ (i := 13) (N := some 81) (v := ?_) (a' := ?_) #[T,T,T,T,T,T,T,T,T,T,T,T,T,T,T,F,F,F,F,F,F,F,F,F,F,F,F,F,F,F,F,F,F,F,F,F,F,F,F,F,F,F,F,F,F,F] rfl rfl (by kernel_rfl) (fun _ _ _ h => h) (Or.inl ⟨by rfl, ?_⟩) ?_ ?_
   rotate_left
   ·intro w'
    go_simp
    with_reducible rfl
   rotate_left
   ·simp only [Act.put, sa_, sz_, ss_, i64_w, i32_w]
    rfl
   rw [succ_ne]
   refine pure_ (i := 15) (N := some 83) (v := ?_) (a' := ?_) #[T,T,T,T,T,T,T,T,T,T,T,T,T,T,T,T,F,F,F,F,F,F,F,F,F,F,F,F,F,F,F,F,F,F,F,F,F,F,F,F,F,F,F,F,F,F] rfl rfl (by kernel_rfl) (fun _ _ _ h => h) (Or.inl ⟨by rfl, ?_⟩) ?_ ?_
   rotate_left
   ·intro w'
    go_simp
    with_reducible rfl
   rotate_left
   ·simp only [Act.put, sa_, sz_, ss_, i64_w, i32_w]
    rfl
   simp only [beq_self_eq_true, decide_true]
   refine pure_ (i := 16) (N := some 84) (v := ?_) (a' := ?_) #[T,T,T,T,T,T,T,T,T,T,T,T,T,T,T,T,T,F,F,F,F,F,F,F,F,F,F,F,F,F,F,F,F,F,F,F,F,F,F,F,F,F,F,F,F,F] rfl rfl (by kernel_rfl) (fun _ _ _ h => h) (Or.inl ⟨by rfl, ?_⟩) ?_ ?_
   rotate_left
   ·intro w'
    go_simp
    with_reducible rfl
   rotate_left
   ·simp only [Act.put, sa_, sz_, ss_, i64_w, i32_w]
    rfl
   refine pure_ (i := 17) (N := some 85) (v := ?_) (a' := ?_) #[T,T,T,T,T,T,T,T,T,T,T,T,T,T,T,T,T,T,F,F,F,F,F,F,F,F,F,F,F,F,F,F,F,F,F,F,F,F,F,F,F,F,F,F,F,F] rfl rfl (by kernel_rfl) (fun _ _ _ h => h) (Or.inl ⟨by rfl, ?_⟩) ?_ ?_
   rotate_left
   ·intro w'
    go_simp
    with_reducible rfl
   rotate_left
   ·simp only [Act.put, sa_, sz_, ss_, i64_w, i32_w]
    rfl
   refine pure_ (i := 18) (N := some 86) (v := ?_) (a' := ?_) #[T,T,T,T,T,T,T,T,T,T,T,T,T,T,T,T,T,T,T,F,F,F,F,F,F,F,F,F,F,F,F,F,F,F,F,F,F,F,F,F,F,F,F,F,F,F] rfl rfl (by kernel_rfl) (fun _ _ _ h => h) (Or.inl ⟨by rfl, ?_⟩) ?_ ?_
   rotate_left
   ·intro w'
    go_simp
    with_reducible rfl
   rotate_left
   ·simp only [Act.put, sa_, sz_, ss_, i64_w, i32_w]
    rfl
   refine pure_ (i := 19) (N := some 87) (v := ?_) (a' := ?_) #[T,T,T,T,T,T,T,T,T,T,T,T,T,T,T,T,T,T,T,T,F,F,F,F,F,F,F,F,F,F,F,F,F,F,F,F,F,F,F,F,F,F,F,F,F,F] rfl rfl (by kernel_rfl) (fun _ _ _ h => h) (Or.inl ⟨by rfl, ?_⟩) ?_ ?_
   rotate_left
   ·intro w'
    go_simp
    with_reducible rfl
   rotate_left
   ·simp only [Act.put, sa_, sz_, ss_, i64_w, i32_w]
    rfl
   refine pure_ (i := 20) (N := some 88) (v := ?_) (a' := ?_) #[T,T,T,T,T,T,T,T,T,T,T,T,T,T,T,T,T,T,T,T,T,F,F,F,F,F,F,F,F,F,F,F,F,F,F,F,F,F,F,F,F,F,F,F,F,F] rfl rfl (by kernel_rfl) (fun _ _ _ h => h) (Or.inl ⟨by rfl, ?_⟩) ?_ ?_
   rotate_left
   ·intro w'
    go_simp
    with_reducible rfl
   rotate_left
   ·simp only [Act.put, sa_, sz_, ss_, i64_w, i32_w]
    rfl
   refine pure_ (i := 22) (N := some 90) (v := ?_) (a' := ?_) #[T,T,T,T,T,T,T,T,T,T,T,T,T,T,T,T,T,T,T,T,T,F,T,F,F,F,F,F,F,F,F,F,F,F,F,F,F,F,F,F,F,F,F,F,F,F] rfl rfl (by kernel_rfl) (fun _ _ _ h => h) (Or.inl ⟨by rfl, ?_⟩) ?_ ?_
   rotate_left
   ·intro w'
    go_simp
    with_reducible rfl
   rotate_left
   ·simp only [Act.put, sa_, sz_, ss_, i64_w, i32_w]
    rfl
   refine pure_ (i := 23) (N := some 91) (v := ?_) (a' := ?_) #[T,T,T,T,T,T,T,T,T,T,T,T,T,T,T,T,T,T,T,T,T,F,T,T,F,F,F,F,F,F,F,F,F,F,F,F,F,F,F,F,F,F,F,F,F,F] rfl rfl (by kernel_rfl) (fun _ _ _ h => h) (Or.inl ⟨by rfl, ?_⟩) ?_ ?_
   rotate_left
   ·intro w'
    go_simp
    with_reducible rfl
   rotate_left
   ·simp only [Act.put, sa_, sz_, ss_, i64_w, i32_w]
    rfl
   rw [wrapP past1.length hp1]
   refine one_ (i := 21) (N := some 89) #[T,T,T,T,T,T,T,T,T,T,T,T,T,T,T,T,T,T,T,T,T,T,T,T,F,F,F,F,F,F,F,F,F,F,F,F,F,F,F,F,F,F,F,F,F,F] rfl rfl (by kernel_rfl) (by decide) (fun K hK => ?_)
   go_simp
   refine (rev_n hHeld.1.st _ HP2.out).mono ?_
   rintro e w121 ⟨rfl, rfl⟩
   refine hK.out _ _ (hHeld) (fun hHeld => ?_)
   clear hK K
   try simp only [Act.put, sa_, sz_, ss_, i64_w, i32_w]
   refine pure_ (i := 24) (N := some 92) (v := ?_) (a' := ?_) #[T,T,T,T,T,T,T,T,T,T,T,T,T,T,T,T,T,T,T,T,T,T,T,T,T,F,F,F,F,F,F,F,F,F,F,F,F,F,F,F,F,F,F,F,F,F] rfl rfl (by kernel_rfl) (fun _ _ _ h => h) (Or.inl ⟨by rfl, ?_⟩) ?_ ?_
   rotate_left
   ·intro w'
    go_simp
    with_reducible rfl
   rotate_left
   ·simp only [Act.put, sa_, sz_, ss_, i64_w, i32_w]
    rfl
   simp only [beq_self_eq_true, decide_true]
   refine pure_ (i := 25) (N := some 93) (v := ?_) (a' := ?_) #[T,T,T,T,T,T,T,T,T,T,T,T,T,T,T,T,T,T,T,T,T,T,T,T,T,T,F,F,F,F,F,F,F,F,F,F,F,F,F,F,F,F,F,F,F,F] rfl rfl (by kernel_rfl) (fun _ _ _ h => h) (Or.inl ⟨by rfl, ?_⟩) ?_ ?_
   rotate_left
   ·intro w'
    go_simp
    with_reducible rfl
   rotate_left
   ·simp only [Act.put, sa_, sz_, ss_, i64_w, i32_w]
    rfl
   refine pure_ (i := 26) (N := some 94) (v := ?_) (a' := ?_) #[T,T,T,T,T,T,T,T,T,T,T,T,T,T,T,T,T,T,T,T,T,T,T,T,T,T,T,F,F,F,F,F,F,F,F,F,F,F,F,F,F,F,F,F,F,F] rfl rfl (by kernel_rfl) (fun _ _ _ h => h) (Or.inl ⟨by rfl, ?_⟩) ?_ ?_
   rotate_left
   ·intro w'
    go_simp
    with_reducible rfl
   rotate_left
   ·simp only [Act.put, sa_, sz_, ss_, i64_w, i32_w]
    rfl
   refine pure_ (i := 27) (N := some 95) (v := ?_) (a' := ?_) #[T,T,T,T,T,T,T,T,T,T,T,T,T,T,T,T,T,T,T,T,T,T,T,T,T,T,T,T,F,F,F,F,F,F,F,F,F,F,F,F,F,F,F,F,F,F] rfl rfl (by kernel_rfl) (fun _ _ _ h => h) (Or.inl ⟨by rfl, ?_⟩) ?_ ?_
   rotate_left
   ·intro w'
    go_simp
    with_reducible rfl
   rotate_left
   ·simp only [Act.put, sa_, sz_, ss_, i64_w, i32_w]
    rfl
   refine pure_ (i := 28) (N := some 96) (v := ?_) (a' := ?_) #[T,T,T,T,T,T,T,T,T,T,T,T,T,T,T,T,T,T,T,T,T,T,T,T,T,T,T,T,T,F,F,F,F,F,F,F,F,F,F,F,F,F,F,F,F,F] rfl rfl (by kernel_rfl) (fun _ _ _ h => h) (Or.inl ⟨by rfl, ?_⟩) ?_ ?_
   rotate_left
   ·intro w'
    go_simp
    with_reducible rfl
   rotate_left
   ·simp only [Act.put, sa_, sz_, ss_, i64_w, i32_w]
    rfl
   refine pure_ (i := 30) (N := some 98) (v := ?_) (a' := ?_) #[T,T,T,T,T,T,T,T,T,T,T,T,T,T,T,T,T,T,T,T,T,T,T,T,T,T,T,T,T,F,T,F,F,F,F,F,F,F,F,F,F,F,F,F,F,F] rfl rfl (by kernel_rfl) (fun _ _ _ h => h) (Or.inl ⟨by rfl, ?_⟩) ?_ ?_
   rotate_left
   ·intro w'
    go_simp
    with_reducible rfl
   rotate_left
   ·simp only [Act.put, sa_, sz_, ss_, i64_w, i32_w]
    rfl
   refine pure_ (i := 31) (N := some 99) (v := ?_) (a' := ?_) #[T,T,T,T,T,T,T,T,T,T,T,T,T,T,T,T,T,T,T,T,T,T,T,T,T,T,T,T,T,F,T,T,F,F,F,F,F,F,F,F,F,F,F,F,F,F] rfl rfl (by kernel_rfl) (fun _ _ _ h => h) (Or.inl ⟨by rfl, ?_⟩) ?_ ?_
   rotate_left
   ·intro w'
    go_simp
    with_reducible rfl
   rotate_left
   ·simp only [Act.put, sa_, sz_, ss_, i64_w, i32_w]
    rfl
   refine one_ (i := 29) (N := some 97) #[T,T,T,T,T,T,T,T,T,T,T,T,T,T,T,T,T,T,T,T,T,T,T,T,T,T,T,T,T,T,T,T,F,F,F,F,F,F,F,F,F,F,F,F,F,F] rfl rfl (by kernel_rfl) (by decide) (fun K hK => ?_)
   go_simp
   refine (len_n hHeld.1.st _ rfl).mono ?_
   rintro e w129 ⟨rfl, hdr⟩
   have hb := below_of_drawn hdr
   clear hdr
   refine hK.out _ _ (⟨hHeld.1.below hb, hHeld.2.below hb⟩) (fun hHeld => ?_)
   clear hK K
   try simp only [Act.put, sa_, sz_, ss_, i64_w, i32_w]
   refine pure_ (i := 32) (N := some 100) (v := ?_) (a' := ?_) #[T,T,T,T,T,T,T,T,T,T,T,T,T,T,T,T,T,T,T,T,T,T,T,T,T,T,T,T,T,T,T,T,T,F,F,F,F,F,F,F,F,F,F,F,F,F] rfl rfl (by kernel_rfl) (fun _ _ _ h => h) (Or.inl ⟨by rfl, ?_⟩) ?_ ?_
   rotate_left
   ·intro w'
    go_simp
    with_reducible rfl
   rotate_left
   ·simp only [Act.put, sa_, sz_, ss_, i64_w, i32_w]
    rfl
   simp only [beq_self_eq_true, decide_true]
   refine pure_ (i := 33) (N := some 101) (v := ?_) (a' := ?_) #[T,T,T,T,T,T,T,T,T,T,T,T,T,T,T,T,T,T,T,T,T,T,T,T,T,T,T,T,T,T,T,T,T,T,F,F,F,F,F,F,F,F,F,F,F,F] rfl rfl (by kernel_rfl) (fun _ _ _ h => h) (Or.inl ⟨by rfl, ?_⟩) ?_ ?_
   rotate_left
   ·intro w'
    go_simp
    with_reducible rfl
   rotate_left
   ·simp only [Act.put, sa_, sz_, ss_, i64_w, i32_w]
    rfl
   refine pure_ (i := 34) (N := some 102) (v := ?_) (a' := ?_) #[T,T,T,T,T,T,T,T,T,T,T,T,T,T,T,T,T,T,T,T,T,T,T,T,T,T,T,T,T,T,T,T,T,T,T,F,F,F,F,F,F,F,F,F,F,F] rfl rfl (by kernel_rfl) (fun _ _ _ h => h) (Or.inl ⟨by rfl, ?_⟩) ?_ ?_
   rotate_left
   ·intro w'
    go_simp
    with_reducible rfl
   rotate_left
   ·simp only [Act.put, sa_, sz_, ss_, i64_w, i32_w]
    rfl
   refine pure_ (i := 35) (N := some 103) (v := ?_) (a' := ?_) #[T,T,T,T,T,T,T,T,T,T,T,T,T,T,T,T,T,T,T,T,T,T,T,T,T,T,T,T,T,T,T,T,T,T,T,T,F,F,F,F,F,F,F,F,F,F] rfl rfl (by kernel_rfl) (fun _ _ _ h => h) (Or.inl ⟨by rfl, ?_⟩) ?_ ?_
   rotate_left
   ·intro w'
    go_simp
    with_reducible rfl
   rotate_left
   ·simp only [Act.put, sa_, sz_, ss_, i64_w, i32_w]
    rfl
   refine pure_ (i := 37) (N := some 105) (v := ?_) (a' := ?_) #[T,T,T,T,T,T,T,T,T,T,T,T,T,T,T,T,T,T,T,T,T,T,T,T,T,T,T,T,T,T,T,T,T,T,T,T,F,T,F,F,F,F,F,F,F,F] rfl rfl (by kernel_rfl) (fun _ _ _ h => h) (Or.inl ⟨by rfl, ?_⟩) ?_ ?_
   rotate_left
   ·intro w'
    go_simp
    with_reducible rfl
   rotate_left
   ·simp only [Act.put, sa_, sz_, ss_, i64_w, i32_w]
    rfl
   refine pure_ (i := 38) (N := some 106) (v := ?_) (a' := ?_) #[T,T,T,T,T,T,T,T,T,T,T,T,T,T,T,T,T,T,T,T,T,T,T,T,T,T,T,T,T,T,T,T,T,T,T,T,F,T,T,F,F,F,F,F,F,F] rfl rfl (by kernel_rfl) (fun _ _ _ h => h) (Or.inl ⟨by rfl, ?_⟩) ?_ ?_
   rotate_left
   ·intro w'
    go_simp
    with_reducible rfl
   rotate_left
   ·simp only [Act.put, sa_, sz_, ss_, i64_w, i32_w]
    rfl
   refine pure_ (i := 39) (N := some 107) (v := ?_) (a' := ?_) #[T,T,T,T,T,T,T,T,T,T,T,T,T,T,T,T,T,T,T,T,T,T,T,T,T,T,T,T,T,T,T,T,T,T,T,T,F,T,T,T,F,F,F,F,F,F] rfl rfl (by kernel_rfl) (fun _ _ _ h => h) (Or.inl ⟨by rfl, ?_⟩) ?_ ?_
   rotate_left
   ·intro w'
    go_simp
    with_reducible rfl
   rotate_left
   ·simp only [Act.put, sa_, sz_, ss_, i64_w, i32_w]
    rfl
   rw [wrapM m hm2]
   refine one_ (i := 36) (N := some 104) #[T,T,T,T,T,T,T,T,T,T,T,T,T,T,T,T,T,T,T,T,T,T,T,T,T,T,T,T,T,T,T,T,T,T,T,T,T,T,T,T,F,F,F,F,F,F] rfl rfl (by kernel_rfl) (by decide) (fun K hK => ?_)
   go_simp
   refine (len_n hHeld.1.st _ rfl).mono ?_
   rintro e w136 ⟨rfl, hdr⟩
   have hb := below_of_drawn hdr
   clear hdr
   refine hK.out _ _ (⟨hHeld.1.below hb, hHeld.2.below hb⟩) (fun hHeld => ?_)
   clear hK K
   try simp only [Act.put, sa_, sz_, ss_, i64_w, i32_w]
   refine pure_ (i := 40) (N := some 108) (v := ?_) (a' := ?_) #[T,T,T,T,T,T,T,T,T,T,T,T,T,T,T,T,T,T,T,T,T,T,T,T,T,T,T,T,T,T,T,T,T,T,T,T,T,T,T,T,T,F,F,F,F,F] rfl rfl (by kernel_rfl) (fun _ _ _ h => h) (Or.inl ⟨by rfl, ?_⟩) ?_ ?_
   rotate_left
   ·intro w'
    go_simp
    with_reducible rfl
   rotate_left
   ·simp only [Act.put, sa_, sz_, ss_, i64_w, i32_w]
    rfl
   simp only [decide_eq_true HLE.out]
   refine pure_ (i := 41) (N := some 109) (v := ?_) (a' := ?_) #[T,T,T,T,T,T,T,T,T,T,T,T,T,T,T,T,T,T,T,T,T,T,T,T,T,T,T,T,T,T,T,T,T,T,T,T,T,T,T,T,T,T,F,F,F,F] rfl rfl (by kernel_rfl) (fun _ _ _ h => h) (Or.inl ⟨by rfl, ?_⟩) ?_ ?_
   rotate_left
   ·intro w'
    go_simp
    with_reducible rfl
   rotate_left
   ·simp only [Act.put, sa_, sz_, ss_, i64_w, i32_w]
    rfl
   refine pure_ (i := 42) (N := some 110) (v := ?_) (a' := ?_) #[T,T,T,T,T,T,T,T,T,T,T,T,T,T,T,T,T,T,T,T,T,T,T,T,T,T,T,T,T,T,T,T,T,T,T,T,T,T,T,T,T,T,T,F,F,F] rfl rfl (by kernel_rfl) (fun _ _ _ h => h) (Or.inl ⟨by rfl, ?_⟩) ?_ ?_
   rotate_left
   ·intro w'
    go_simp
    with_reducible rfl
   rotate_left
   ·simp only [Act.put, sa_, sz_, ss_, i64_w, i32_w]
    rfl
   refine one_ (i := 43) (N := some 111) #[T,T,T,T,T,T,T,T,T,T,T,T,T,T,T,T,T,T,T,T,T,T,T,T,T,T,T,T,T,T,T,T,T,T,T,T,T,T,T,T,T,T,T,T,F,F] rfl rfl (by kernel_rfl) (by decide) (fun K hK => ?_)
   go_simp
   refine (awake4_c _).mono ?_
   rintro e w143 ⟨rfl, hb⟩
   refine hK.out _ _ (⟨hHeld.1.below hb, hHeld.2.below hb⟩) (fun hHeld => ?_)
   clear hK K
   try simp only [Act.put, sa_, sz_, ss_, i64_w, i32_w]
   refine pure_ (i := 44) (N := some 112) (v := ?_) (a' := ?_) #[T,T,T,T,T,T,T,T,T,T,T,T,T,T,T,T,T,T,T,T,T,T,T,T,T,T,T,T,T,T,T,T,T,T,T,T,T,T,T,T,T,T,T,T,T,F] rfl rfl (by kernel_rfl) (fun _ _ _ h => h) (Or.inl ⟨by rfl, ?_⟩) ?_ ?_
   rotate_left
   ·intro w'
    go_simp
    with_reducible rfl
   rotate_left
   ·simp only [Act.put, sa_, sz_, ss_, i64_w, i32_w]
    rfl
   refine pure_ (i := 45) (N := some 6) (v := ?_) (a' := ?_) #[T,T,T,T,T,T,T,T,T,T,T,T,T,T,T,T,T,T,T,T,T,T,T,T,T,T,T,T,T,T,T,T,T,T,T,T,T,T,T,T,T,T,T,T,T,T] rfl rfl (by kernel_rfl) (fun _ _ _ h => h) (Or.inl ⟨by rfl, ?_⟩) ?_ ?_
   rotate_left
   ·intro w'
    go_simp
    with_reducible rfl
   rotate_left
   ·simp only [Act.put, sa_, sz_, ss_, i64_w, i32_w]
    rfl
   have hbw := Lib.hid hHeld.1.bw
   clear hHeld
   refine done_ (by kernel_rfl) ?_
   go_wp2_with fail
   go_ret
   exact ⟨rfl, hbw.out⟩
 ·have hbad := HST.out.bad hn
  have HBAD := Lib.hid hbad
  clear hbad
  go_wp2_with fail
  refine (same_c HN.out.rd HW.out.was.rd (by omega)).mono ?_
  rw [decide_eq_true HBAD.out.1]
  rintro e w12 ⟨rfl, hdr⟩
  have HW1 := Lib.hid (HW.out.below (below_of_drawn hdr))
  clear hdr HN HW
  go_wp2_with fail
  refine (rev_n HW1.out.st _ (by rw [HBAD.out.2])).mono ?_
  rintro e w13 ⟨rfl, rfl⟩
  go_wp2_with fail
  refine (awake4_c _).mono ?_
  rintro e w14 ⟨rfl, hb⟩
  have hbw := Lib.hid (chainB HW1.out.bw hb)
  clear hb HW1
  go_wp2_with fail
  go_ret
  exact ⟨rfl, hbw.out⟩

end Go.Proofs.Ytpgmeaofmlipkaa.PT
