/- Walks and contracts over the store of tuples (Past). No condition beyond those that each contract names. -/
import Derived.Test.YtpgmeaofmlipkaaSAwake2
import Derived.Test.YtpgmeaofmlipkaaPTx1030
import Derived.Test.YtpgmeaofmlipkaaPTx1020
import Derived.Lib.Hide
import Derived.Laws.EntriesVeiled
import Derived.Shelf.SlicesQ.IndexFunc
namespace Go.Proofs.Ytpgmeaofmlipkaa.PT
open Go.RowKit Go.Proofs.YtpgmeaofmlipkaaW.PrintWords Go.Proofs.YtpgmeaofmlipkaaW.PrintLast Go.Proofs.YtpgmeaofmlipkaaW.PrintMore
attribute [local go_sem] max2_int min2_int max_two min_two max_three min_three max_four min_four
set_option linter.unusedVariables false
set_option linter.unusedSimpArgs false
open Go.Proofs.YtpgmeaofmlipkaaH
theorem and15 (x : Int) : Go.bits .and .i64 x 15 = x % 16 := and_mask 4 (by decide) x
theorem nm_size (n : Int) (s : ByteArray) (h : entaillaw1_Nm.f n = some s) : s.size < 100 := by
 unfold entaillaw1_Nm.f at h
 simp only [and7, Option.bind_some] at h
 rw [if_pos (by omega), if_pos (by simp only [List.length_cons, List.length_nil]; omega)] at h
 injection h with h
 subst h
 have h0 : n % 8 = 0 ∨ n % 8 = 1 ∨ n % 8 = 2 ∨ n % 8 = 3 ∨ n % 8 = 4 ∨ n % 8 = 5 ∨ n % 8 = 6 ∨ n % 8 = 7 := by omega
 rcases h0 with h | h | h | h | h | h | h | h <;> rw [h] <;> decide
theorem tm_small (n : Int) : Small (tm n) := by
 have h := tm_eq n
 obtain ⟨s1, h1⟩ := nm_some (n / 2)
 obtain ⟨s2, h2⟩ := nm_some (n / 8192)
 have k1 := nm_size _ _ h1
 have k2 := nm_size _ _ h2
 unfold entaillaw2_Tame.f at h
 simp only [and1, and3, and255, Option.bind_some, h1, h2, List.length_cons, List.length_nil] at h
 have t0 : 0 ≤ Int.tmod (n / 32 % 256) 3 ∧ Int.tmod (n / 32 % 256) 3 < 3 := by
  rw [Int.tmod_eq_emod_of_nonneg (by omega)]; omega
 rw [if_pos (by omega), if_pos (by omega), if_pos (by omega), if_pos (by omega), if_pos t0.1, if_pos (by have := t0.2; omega)] at h
 have hh : s1 = (tm n).f0.f1 ∧ s2 = (tm n).f2.f1 := by
  by_cases hz : n / 65536 % 4 = 0
  ·rw [if_pos hz, if_pos (by omega), if_pos (by omega)] at h
   simp only [Option.some.injEq, Prod.mk.injEq] at h
   exact ⟨h.2.1, h.2.2.2.2.1⟩
  ·rw [if_neg hz] at h
   simp only [Option.some.injEq, Prod.mk.injEq] at h
   exact ⟨h.2.1, h.2.2.2.2.1⟩
 refine ⟨?_, ?_⟩
 ·rw [← hh.1]; omega
 ·rw [← hh.2]; omega
/-- What a batch's four rows are known to be. -/
structure BOk (n : Nat) (a b c d : List S41) : Prop where
 n1 : a.length ≤ n
 n2 : b.length ≤ n
 n3 : c.length ≤ n
 n4 : d.length ≤ n
 s1 : ∀ t ∈ a, Small t
 s2 : ∀ t ∈ b, Small t
 s3 : ∀ t ∈ c, Small t
 s4 : ∀ t ∈ d, Small t
theorem sm_app {a : List S41} (h : ∀ t ∈ a, Small t) {x : S41} (hx : Small x) : ∀ t ∈ a ++ [x], Small t := by
 intro t ht
 rcases List.mem_append.1 ht with h1 | h1
 ·exact h t h1
 ·rw [List.mem_singleton.1 h1]; exact hx
theorem BOk.a1 {n : Nat} {a b c d : List S41} (h : BOk n a b c d) {x : S41} (hx : Small x) : BOk (n + 1) (a ++ [x]) b c d :=
 ⟨by have := h.n1; simp; omega, by have := h.n2; omega, by have := h.n3; omega, by have := h.n4; omega, sm_app h.s1 hx, h.s2, h.s3, h.s4⟩
theorem BOk.a2 {n : Nat} {a b c d : List S41} (h : BOk n a b c d) {x : S41} (hx : Small x) : BOk (n + 1) a (b ++ [x]) c d :=
 ⟨by have := h.n1; omega, by have := h.n2; simp; omega, by have := h.n3; omega, by have := h.n4; omega, h.s1, sm_app h.s2 hx, h.s3, h.s4⟩
theorem BOk.a3 {n : Nat} {a b c d : List S41} (h : BOk n a b c d) {x : S41} (hx : Small x) : BOk (n + 1) a b (c ++ [x]) d :=
 ⟨by have := h.n1; omega, by have := h.n2; omega, by have := h.n3; simp; omega, by have := h.n4; omega, h.s1, h.s2, sm_app h.s3 hx, h.s4⟩
theorem BOk.a4 {n : Nat} {a b c d : List S41} (h : BOk n a b c d) {x : S41} (hx : Small x) : BOk (n + 1) a b c (d ++ [x]) :=
 ⟨by have := h.n1; omega, by have := h.n2; omega, by have := h.n3; omega, by have := h.n4; simp; omega, h.s1, h.s2, h.s3, sm_app h.s4 hx⟩
theorem BOk.mono {n m : Nat} {a b c d : List S41} (h : BOk n a b c d) (hm : n ≤ m) : BOk m a b c d :=
 ⟨by have := h.n1; omega, by have := h.n2; omega, by have := h.n3; omega, by have := h.n4; omega, h.s1, h.s2, h.s3, h.s4⟩
def xT : S41 := ⟨⟨⟨#[]⟩, ⟨#[]⟩⟩, ⟨#[120]⟩, ⟨⟨#[]⟩, ⟨#[]⟩, ⟨#[]⟩⟩⟩
theorem xT_small : Small xT := by unfold Small; decide
theorem j1_step (l : List Int) (i : Nat) (hi : i < l.length) (a b c d : List S41) (k : Nat) : entaillaw4_Batch.j1 (k + 1) l (i : Int) true a b c d = entaillaw4_Batch.j2 k l i (l[i] % 16) (decide (l[i] % 16 ≤ 8)) a b c d (tm (l[i] / 16)).f0.f0 (tm (l[i] / 16)).f0.f1 (tm (l[i] / 16)).f1 (tm (l[i] / 16)).f2.f0 (tm (l[i] / 16)).f2.f1 (tm (l[i] / 16)).f2.f2 := by
 have hx : 0 ≤ l[i] % 16 ∧ l[i] % 16 < 16 := by omega
 simp only [entaillaw4_Batch.j1, and15, rd_at l i hi, tm_eq, Option.bind_some]
 rw [if_pos trivial, if_pos (by omega), if_pos (by omega)]
 generalize tm (l[i] / 16) = t
 generalize l[i] % 16 = x at hx ⊢
 have h0 : x = 0 ∨ x = 1 ∨ x = 2 ∨ x = 3 ∨ x = 4 ∨ x = 5 ∨ x = 6 ∨ x = 7 ∨ x = 8 ∨ x = 9 ∨ x = 10 ∨ x = 11 ∨ x = 12 ∨ x = 13 ∨ x = 14 ∨ x = 15 := by omega
 rcases h0 with rfl | rfl | rfl | rfl | rfl | rfl | rfl | rfl | rfl | rfl | rfl | rfl | rfl | rfl | rfl | rfl <;> rfl
theorem batch_loop (l : List Int) : ∀ (n i : Nat) (a b c d : List S41), i + n = 12 → BOk i a b c d → ∃ a' b' c' d', BOk 12 a' b' c' d' ∧ Ev (fun k => entaillaw4_Batch.l0 k l (i : Int) a b c d) (a', b', c', d') := by
 intro n
 induction n with
 | zero =>
  intro i a b c d hi h
  refine ⟨a, b, c, d, h.mono (by omega), Ev.step (f := fun k => entaillaw4_Batch.j1 k l (i : Int) false a b c d) (fun k => ?_) (Ev.step (f := fun _ => some (a, b, c, d)) (fun k => ?_) (Ev.now _))⟩
  ·simp only [entaillaw4_Batch.l0]
   have : decide ((i : Int) < 12) = false := by rw [decide_eq_false_iff_not]; omega
   rw [this, ite_self]
  ·simp [entaillaw4_Batch.j1]
 | succ n ih =>
  intro i a b c d hi h
  by_cases hl : i < l.length
  ·have hw := wrap_succ i (by omega)
   have m1 := h.n1
   have m2 := h.n2
   have m3 := h.n3
   have m4 := h.n4
   have hs := tm_small (l[i] / 16)
   have go : ∃ a' b' c' d', BOk 12 a' b' c' d' ∧ Ev (fun k => entaillaw4_Batch.j2 k l i (l[i] % 16) (decide (l[i] % 16 ≤ 8)) a b c d (tm (l[i] / 16)).f0.f0 (tm (l[i] / 16)).f0.f1 (tm (l[i] / 16)).f1 (tm (l[i] / 16)).f2.f0 (tm (l[i] / 16)).f2.f1 (tm (l[i] / 16)).f2.f2) (a', b', c', d') := by
    have hx : 0 ≤ l[i] % 16 ∧ l[i] % 16 < 16 := by omega
    generalize tm (l[i] / 16) = t at hs ⊢
    generalize l[i] % 16 = x at hx ⊢
    by_cases h8 : x ≤ 8
    ·obtain ⟨a', b', c', d', hB, hE⟩ := ih (i + 1) (a ++ [t]) b c d (by omega) (h.a1 hs)
     refine ⟨a', b', c', d', hB, Ev.step (fun k => ?_) hE⟩
     rw [decide_eq_true h8]
     simp only [entaillaw4_Batch.j2, hw]
     rw [if_pos trivial, if_pos (by omega)]
    ·have s2 : ∀ k, entaillaw4_Batch.j2 (k + 1) l i x (decide (x ≤ 8)) a b c d t.f0.f0 t.f0.f1 t.f1 t.f2.f0 t.f2.f1 t.f2.f2 = entaillaw4_Batch.j3 k l i x (decide (x ≤ 12)) a b c d t.f0.f0 t.f0.f1 t.f1 t.f2.f0 t.f2.f1 t.f2.f2 := by
      intro k
      have h0 : x = 9 ∨ x = 10 ∨ x = 11 ∨ x = 12 ∨ x = 13 ∨ x = 14 ∨ x = 15 := by omega
      rcases h0 with rfl | rfl | rfl | rfl | rfl | rfl | rfl <;> rfl
     by_cases h12 : x ≤ 12
     ·obtain ⟨a', b', c', d', hB, hE⟩ := ih (i + 1) a (b ++ [t]) c d (by omega) (h.a2 hs)
      refine ⟨a', b', c', d', hB, Ev.step s2 (Ev.step (fun k => ?_) hE)⟩
      rw [decide_eq_true h12]
      simp only [entaillaw4_Batch.j3, hw]
      rw [if_pos trivial, if_pos (by omega)]
     ·by_cases h13 : x = 13
      ·obtain ⟨a', b', c', d', hB, hE⟩ := ih (i + 1) a b (c ++ [t]) d (by omega) (h.a3 hs)
       refine ⟨a', b', c', d', hB, Ev.step s2 (Ev.step (fun k => ?_) hE)⟩
       rw [decide_eq_false h12]
       simp only [entaillaw4_Batch.j3, hw]
       rw [if_neg (by decide), if_pos h13, if_pos (by omega)]
      ·by_cases h14 : x = 14
       ·obtain ⟨a', b', c', d', hB, hE⟩ := ih (i + 1) a b c (d ++ [t]) (by omega) (h.a4 hs)
        refine ⟨a', b', c', d', hB, Ev.step s2 (Ev.step (fun k => ?_) hE)⟩
        rw [decide_eq_false h12]
        simp only [entaillaw4_Batch.j3, hw]
        rw [if_neg (by decide), if_neg h13, if_pos h14, if_pos (by omega)]
       ·obtain ⟨a', b', c', d', hB, hE⟩ := ih (i + 1) (a ++ [xT]) b c d (by omega) (h.a1 xT_small)
        refine ⟨a', b', c', d', hB, Ev.step s2 (Ev.step (fun k => ?_) hE)⟩
        rw [decide_eq_false h12]
        simp only [entaillaw4_Batch.j3, hw]
        rw [if_neg (by decide), if_neg h13, if_neg h14, if_pos (by omega)]
        rfl
   obtain ⟨a', b', c', d', hB, hE⟩ := go
   refine ⟨a', b', c', d', hB, Ev.step (f := fun k => entaillaw4_Batch.j1 k l (i : Int) true a b c d) (fun k => ?_) (Ev.step (fun k => j1_step l i hl a b c d k) hE)⟩
   simp only [entaillaw4_Batch.l0]
   rw [if_pos (by omega), decide_eq_true (by omega)]
  ·refine ⟨a, b, c, d, h.mono (by omega), Ev.step (f := fun k => entaillaw4_Batch.j1 k l (i : Int) false a b c d) (fun k => ?_) (Ev.step (f := fun _ => some (a, b, c, d)) (fun k => ?_) (Ev.now _))⟩
   ·simp only [entaillaw4_Batch.l0]
    rw [if_neg (by omega)]
   ·simp [entaillaw4_Batch.j1]
/-- A batch's rows, made since. -/
structure BRow (w : World) (B : Nat) (x : BArg) : Prop where
 r1 : Row w B x.A1 x.c1 x.l1
 r2 : Row w B x.A2 x.c2 x.l2
 r3 : Row w B x.A3 x.c3 x.l3
 r4 : Row w B x.A4 x.c4 x.l4
theorem BRow.rd {w : World} {B : Nat} {x : BArg} (h : BRow w B x) : BRd x w := ⟨h.r1.rd, h.r2.rd, h.r3.rd, h.r4.rd⟩
theorem BRow.below {w w1 : World} {B : Nat} {x : BArg} (h : BRow w B x) (hb : Below w.heap.size w w1) : BRow w1 B x := ⟨h.r1.below hb, h.r2.below hb, h.r3.below hb, h.r4.below hb⟩
theorem BOk.len {x : BArg} (h : BOk 12 x.l1 x.l2 x.l3 x.l4) : BLen x := ⟨by have := h.n1; omega, by have := h.n2; omega, by have := h.n3; omega, by have := h.n4; omega⟩
theorem BOk.small {n : Nat} {x : BArg} (h : BOk n x.l1 x.l2 x.l3 x.l4) : BSmall x := ⟨h.s1, h.s2, h.s3, h.s4⟩
def NewBatch (w : World) (e : Ending) (w' : World) : Prop := ∃ x : BArg, e = .returned (.agg #[.slice x.A1 x.l1.length x.c1, .slice x.A2 x.l2.length x.c2, .slice x.A3 x.l3.length x.c3, .slice x.A4 x.l4.length x.c4]) ∧ BRow w' w.heap.size x ∧ BOk 12 x.l1 x.l2 x.l3 x.l4 ∧ Below w.heap.size w w'
theorem batch_c {w : World} {A : Option Addr} {c : Nat} {l : List Int} (hr : Kd.C (Kd.int .i64) w A l.length l) (hc : l.length ≤ c) : Calls Try.prog 30 #[.slice A l.length c] w (NewBatch w) := by
 obtain ⟨a, b, d, e, hB, hE⟩ := batch_loop l 12 0 [] [] [] [] rfl ⟨by simp, by simp, by simp, by simp, by simp, by simp, by simp, by simp⟩
 obtain ⟨k, hk⟩ := hE
 refine (entaillaw4_Batch.calls k A c l a b d e w hr hc (hk k (Nat.le_refl _))).mono ?_
 rintro _ w' ⟨v0, v1, v2, v3, rfl, h0, h1, h2, h3, hb⟩
 obtain ⟨A1, c1, rfl, r1⟩ := row_of (Kd.R_mono h0 (fun _ _ => trivial))
 obtain ⟨A2, c2, rfl, r2⟩ := row_of (Kd.R_mono h1 (fun _ _ => trivial))
 obtain ⟨A3, c3, rfl, r3⟩ := row_of (Kd.R_mono h2 (fun _ _ => trivial))
 obtain ⟨A4, c4, rfl, r4⟩ := row_of (Kd.R_mono h3 (fun _ _ => trivial))
 exact ⟨⟨A1, c1, a, A2, c2, b, A3, c3, d, A4, c4, e⟩, rfl, ⟨r1, r2, r3, r4⟩, hB, hb⟩
open Go.Proofs.YtpgmeaofmlipkaaH
/-- What one Write makes of the sets. -/
structure Step (m : Int) (past : List (List S41)) (now : List S41) (past' : List (List S41)) (now' : List S41) (n : Int) (x : BArg) : Prop where
 ss : SS cmpT now'
 len : now'.length ≤ now.length + x.l1.length
 plen : past'.length ≤ past.length + 1
 max : (now.length : Int) ≤ m → (now'.length : Int) ≤ m
 old : (past' ++ [now'])[past.length]? = some now
 bad : n ≠ 0 → now' = now ∧ past' = past
 good : n = 0 → now' = nextW now x
 same : now' = now → past' = past
 diff : now' ≠ now → past' = past ++ [now]
theorem step_of {m : Int} {past : List (List S41)} {now : List S41} (x : BArg) (hss : SS cmpT now) : Step m past now (pastA m past now x) (nowA m now x) (wErrA m now x) x := by
 by_cases h0 : wErrA m now x = 0
 ·have hn : nowA m now x = nextW now x := by unfold nowA; rw [if_pos h0]
  have hm : ¬ m < ((nextW now x).length : Int) := by
   intro h
   unfold wErrA at h0
   split at h0
   ·exact absurd h0 (by decide)
   ·unfold wErr at h0
    split at h0
    ·exact absurd h0 (by decide)
    ·split at h0
     ·exact absurd h0 (by decide)
     ·split at h0
      ·exact absurd h0 (by decide)
      ·exact absurd h0 (by decide)
  by_cases h1 : nextW now x = now
  ·have hp : pastA m past now x = past := by unfold pastA; rw [if_neg (fun h => h.2 h1)]
   rw [hn, hp, h0]
   exact ⟨by rw [h1]; exact hss, nextW_length now x, by omega, fun _ => by omega, by rw [h1]; simp, fun h => absurd rfl h, fun _ => rfl, fun _ => rfl, fun h => absurd h1 h⟩
  ·have hp : pastA m past now x = past ++ [now] := by unfold pastA; rw [if_pos ⟨h0, h1⟩]
   rw [hn, hp, h0]
   exact ⟨ss_norm cmpT_tot _, nextW_length now x, by simp, fun _ => by omega, by simp, fun h => absurd rfl h, fun _ => rfl, fun h => absurd h h1, fun _ => rfl⟩
 ·have hn : nowA m now x = now := by unfold nowA; rw [if_neg h0]
  have hp : pastA m past now x = past := by unfold pastA; rw [if_neg (fun h => h0 h.1)]
  rw [hn, hp]
  exact ⟨hss, by omega, by omega, fun h => h, by simp, fun _ => ⟨rfl, rfl⟩, fun h => absurd h h0, fun _ => rfl, fun h => absurd rfl h⟩
def WroteS (w : World) (B g : Nat) (q : Option Nat) (m : Int) (past : List (List S41)) (now : List S41) (x : BArg) (e : Ending) (w' : World) : Prop :=
 ∃ q' n past' now', e = .returned (.int .i64 n) ∧ St w' B g q' m past' now' ∧ Step m past now past' now' n x ∧ Kept w w' (fun k => k = g ∨ some k = q) ∧ Below B w w'
theorem write_s {w : World} {B g : Nat} {q : Option Nat} {m : Int} {past now} (h : St w B g q m past now) (x : BArg) (hr : BRd x w) (hok : BOk 12 x.l1 x.l2 x.l3 x.l4) (hn : now.length < 100000000) (hss : SS cmpT now) (hp : past.length < 1000000) :
  Calls Try.prog 29 #[.pointer (some ⟨g, 0, none⟩), .agg #[.slice x.A1 x.l1.length x.c1, .slice x.A2 x.l2.length x.c2, .slice x.A3 x.l3.length x.c3, .slice x.A4 x.l4.length x.c4]] w (WroteS w B g q m past now x) :=
 (write_c h x hr hok.len hok.small hn hss hp).mono fun e w' ⟨q', he, hst, hk, hb⟩ => ⟨q', _, _, _, he, hst, step_of x hss, hk, hb⟩
open Go.Proofs.YtpgmeaofmlipkaaH
theorem refIs_ev (l : List S41) (hl : l.length ≤ 281474976710656) : Ev (fun k => entailref1_Is.f k l) (rises cmpT l) := by
 unfold entailref1_Is.f
 have key : ∀ (d i : Nat), 1 ≤ i → l.length - i = d → Ev (fun k => entailref1_Is.l0 k l (i : Int)) (rises cmpT (l.drop (i - 1))) := by
  intro d
  induction d with
  | zero =>
   intro i hi hd
   refine Ev.step (f := fun _ => some true) (fun k => ?_) ?_
   ·simp only [entailref1_Is.l0]
    rw [if_neg (by omega)]
   ·have : rises cmpT (l.drop (i - 1)) = true := by
     have hlen : (l.drop (i - 1)).length ≤ 1 := by simp; omega
     match l.drop (i - 1), hlen with
     | [], _ => rfl
     | [_], _ => rfl
     | _ :: _ :: _, h => simp at h
    rw [this]; exact Ev.now _
  | succ d ih =>
   intro i hi hd
   have hlt : i < l.length := by omega
   have hw : wrap64 ((i : Int) - 1) = ((i - 1 : Nat) : Int) := by unfold wrap64; omega
   have hd1 : l.drop (i - 1) = l[i - 1] :: l.drop i := by
    have := List.drop_eq_getElem_cons (show i - 1 < l.length by omega)
    rwa [show i - 1 + 1 = i by omega] at this
   have hd2 : l.drop i = l[i] :: l.drop (i + 1) := List.drop_eq_getElem_cons hlt
   have hr : rises cmpT (l.drop (i - 1)) = (decide (cmpT l[i - 1] l[i] < 0) && rises cmpT (l.drop i)) := by
    rw [hd1, hd2]; rfl
   by_cases hc : cmpT l[i - 1] l[i] < 0
   ·refine Ev.step (f := fun k => entailref1_Is.l0 k l ((i + 1 : Nat) : Int)) (fun k => ?_) ?_
    ·simp only [entailref1_Is.l0]
     rw [if_pos (by omega), hw, if_pos (by omega), if_pos (by omega), if_pos (by omega), rd_tup l (i - 1) (by omega), rd_tup l i hlt, refLess_tup]
     simp only [Option.bind_some]
     rw [if_pos (decide_eq_true hc), wrap_succ i (by omega)]
    ·rw [hr, decide_eq_true hc, Bool.true_and]
     exact ih (i + 1) (by omega) (by omega)
   ·refine Ev.step (f := fun _ => some false) (fun k => ?_) ?_
    ·simp only [entailref1_Is.l0]
     rw [if_pos (by omega), hw, if_pos (by omega), if_pos (by omega), if_pos (by omega), rd_tup l (i - 1) (by omega), rd_tup l i hlt, refLess_tup]
     simp only [Option.bind_some]
     rw [if_neg (by simp [hc])]
    ·rw [hr, decide_eq_false hc, Bool.false_and]
     exact Ev.now _
 exact key (l.length - 1) 1 (by omega) rfl
theorem refIs_c {w : World} {A c l} (h : Rd w A c l) (hl : l.length < 1000000000) : Calls Try.prog 20 #[.slice A l.length c] w fun e w' => e = .returned (.bool (rises cmpT l)) ∧ Below w.heap.size w w' := by
 obtain ⟨k, hk⟩ := refIs_ev l (by omega)
 exact entailref1_Is.calls k A c l _ w h.C h.le (hk k (Nat.le_refl _))
open Go.Proofs.YtpgmeaofmlipkaaH
/-- What one Write does, and where the store's own row lies behind it. -/
def WroteQ (w : World) (B g : Nat) (q : Option Nat) (m : Int) (past : List (List S41)) (now : List S41) (x : BArg) (e : Ending) (w' : World) : Prop :=
 ∃ q' n past' now', e = .returned (.int .i64 n) ∧ St w' B g q' m past' now' ∧ Step m past now past' now' n x ∧ Kept w w' (fun k => k = g ∨ some k = q) ∧ Below B w w' ∧ (q' = q ∨ ∃ k, q' = some k ∧ w.heap.size ≤ k)
theorem write_q {w : World} {B g : Nat} {q : Option Nat} {m : Int} {past now} (h : St w B g q m past now) (x : BArg) (hr : BRd x w) (hok : BOk 12 x.l1 x.l2 x.l3 x.l4) (hn : now.length < 100000000) (hss : SS cmpT now) (hp : past.length < 1000000) :
  Calls Try.prog 29 #[.pointer (some ⟨g, 0, none⟩), .agg #[.slice x.A1 x.l1.length x.c1, .slice x.A2 x.l2.length x.c2, .slice x.A3 x.l3.length x.c3, .slice x.A4 x.l4.length x.c4]] w (WroteQ w B g q m past now x) := by
 have S := step_of (m := m) (past := past) x hss
 by_cases hw : wrongB x = true
 ·have h1 : wErrA m now x = 2 := by unfold wErrA; rw [if_pos hw]
  have h2 : nowA m now x = now := by unfold nowA; rw [h1, if_neg (by decide)]
  have h3 : pastA m past now x = past := by unfold pastA; rw [h1, if_neg (by simp)]
  rw [h1, h2, h3] at S
  refine (write_wrong h x hr hok.len hok.small (by unfold Wrong; unfold wrongB at hw; simpa [Bool.or_eq_true] using hw)).mono fun e w' ⟨he, hb⟩ => ?_
  exact ⟨q, 2, past, now, he, h.below hb, S, Kept.of_below hb _, hb.mono (by have := h.base; have := h.lt; omega), Or.inl rfl⟩
 ·have h1 : wErrA m now x = wErr m now x := by unfold wErrA; rw [if_neg hw]
  refine (write_main h x hr hok.len hok.small (by unfold NotWrong; unfold wrongB at hw; simpa [Bool.or_eq_true] using hw) hn hss hp).mono fun e w' ⟨q', past', now', he, hst, hk, hb, hq, hc⟩ => ?_
  have e1 : pastA m past now x = past' ∧ nowA m now x = now' := by
   unfold pastA nowA
   rw [h1]
   by_cases h0 : wErr m now x = 0
   ·by_cases h4 : nextW now x = now
    ·rw [if_neg (fun h => h.2 h4)] at hc
     rw [if_neg (fun h => h.2 h4), if_pos h0, h4]
     exact ⟨hc.1.symm, hc.2.symm⟩
    ·rw [if_pos ⟨h0, h4⟩] at hc
     rw [if_pos ⟨h0, h4⟩, if_pos h0]
     exact ⟨hc.1.symm, hc.2.symm⟩
   ·rw [if_neg (fun h => h0 h.1)] at hc
    rw [if_neg (fun h => h0 h.1), if_neg h0]
    exact ⟨hc.1.symm, hc.2.symm⟩
  rw [e1.1, e1.2, h1] at S
  exact ⟨q', wErr m now x, past', now', he, hst, S, hk, hb, hq⟩
/-- A row of rows of tuples, apart from the store at g whose own row lies at q. -/
def PR (W : World) (B g : Nat) (q : Option Nat) (v : Value) (pl : List (List S41)) : Prop := Kd.R (Kd.slice 41 k41) 23 W B (fun k => k ≠ g ∧ some k ≠ q) v pl
theorem PR.below {W W' : World} {B g : Nat} {q : Option Nat} {v pl} (h : PR W B g q v pl) (hb : Below W.heap.size W W') : PR W' B g q v pl := Kd.R_below h hb
theorem PR.nil (W : World) (B g : Nat) (q : Option Nat) : PR W B g q (.slice none 0 0) [] := Kd.R_nil _ _ _ _ _
theorem PR.write {W W' : World} {B g : Nat} {q q' : Option Nat} {v pl} (h : PR W B g q v pl) (hk : Kept W W' (fun k => k = g ∨ some k = q)) (hq : q' = q ∨ ∃ k, q' = some k ∧ W.heap.size ≤ k) : PR W' B g q' v pl :=
 Kd.R_mono (Kd.R_step (Kd.R_bound h) (fun k hk2 hlt => hk.2 k hlt (by rintro (he | he); exact hk2.1.1 he; exact hk2.1.2 he))) (fun k hk2 => ⟨hk2.1.1, by
  rcases hq with rfl | ⟨j, rfl, hj⟩
  ·exact hk2.1.2
  ·intro he
   injection he with he
   have := hk2.2.2.1
   omega⟩)
theorem PR.slice {W : World} {B g : Nat} {q : Option Nat} {v pl} (h : PR W B g q v pl) : ∃ A c, v = .slice A pl.length c := Kd.R_slice h
/-- An element of it. -/
theorem PR.at {W : World} {B g : Nat} {q : Option Nat} {A : Option Addr} {n c : Nat} {pl : List (List S41)} (h : PR W B g q (.slice A n c) pl) (k : Nat) (hk : k < pl.length) : n = pl.length ∧ ∃ ad, A = some ad ∧ ∃ A2 c2, W.cell? (ad.add k) = some (.slice A2 (pl[k]).length c2) ∧ Rd W A2 c2 pl[k] := by
 obtain ⟨h0, h1, h2⟩ := Kd.R_reads' h
 obtain ⟨ad, cs, rfl, hlen, hK, hcell⟩ := Kd.C_get h2 ([] : List S41) (k : Int) (by omega) (by omega)
 obtain ⟨A2, c2, rfl, hl2, hC2⟩ := hK
 have e : pl.getD (k : Int).toNat [] = pl[k] := by simp [List.getD_eq_getElem?_getD, hk]
 rw [e] at hl2 hC2 hcell
 have hcz := hcell 0 _ rfl
 exact ⟨h0, ad, rfl, A2, c2, by simpa [Kd.slice] using hcz, hl2, hC2⟩
/-- A row of one's own that one may write into: what it holds is not told. -/
def OwnB (W : World) (B : Nat) (A : Option Addr) (n : Nat) : Prop := n = 0 ∨ ∃ b, A = some ⟨b, 0, none⟩ ∧ B ≤ b ∧ ∃ cur, W.heap[b]? = some (.cells cur 41 (0, 0)) ∧ n * 6 ≤ cur.size
theorem Row.ownB {W : World} {B A c l} (h : Row W B A c l) : OwnB W B A l.length := by
 obtain ⟨inner, ho⟩ := Kd.R_own h.out
 rcases ho.2 with ⟨hv, _⟩ | ⟨g', cap', cur, hv, hb, hh, hnc, hcm, hcs, _⟩
 ·left
  injection hv
 ·right
  injection hv with ha _ hc
  refine ⟨g', ha, hb, cur, hh, ?_⟩
  have : l.length * 6 ≤ cap' * 6 := Nat.mul_le_mul_right _ hnc
  have h6 : (k41).sz = 6 := rfl
  rw [h6] at hcs
  omega
theorem OwnB.below {W W' : World} {B A n} (h : OwnB W B A n) (hb : Below W.heap.size W W') : OwnB W' B A n := by
 rcases h with h | ⟨b, h1, h2, cur, h3, h4⟩
 ·exact Or.inl h
 ·exact Or.inr ⟨b, h1, h2, cur, blkB h3 hb, h4⟩
theorem setsFar {g : Nat} : ∀ (vs : List Value) (o : Nat) {w : World} (k : Nat), k ≠ g → (w.setCells g o vs).heap[k]? = w.heap[k]?
 | [], _, _, _, _ => rfl
 | v :: r, o, w, k, hk => by
  rw [World.setCells, setsFar r (o + 1) k hk]
  exact Below.heap_setCell w ⟨g, o, none⟩ v k hk
theorem setsSame (g : Nat) : ∀ (vs : List Value) (o : Nat) (w : World), (w.setCells g o vs).os = w.os ∧ (w.setCells g o vs).tape = w.tape ∧ (w.setCells g o vs).output = w.output ∧ (w.setCells g o vs).heap.size = w.heap.size
 | [], _, _ => ⟨rfl, rfl, rfl, rfl⟩
 | v :: r, o, w => by
  obtain ⟨h1, h2, h3, h4⟩ := setsSame g r (o + 1) (w.setCell ⟨g, o, none⟩ v)
  rw [World.setCells]
  exact ⟨h1, h2, h3, by rw [h4]; simp [World.setCell]⟩
theorem setsRow {g : Nat} {e : TypeId} : ∀ (vs : List Value) (o : Nat) (w : World) (cur : Array Value), w.heap[g]? = some (.cells cur e (0, 0)) →
  ∃ cur', (w.setCells g o vs).heap[g]? = some (.cells cur' e (0, 0)) ∧ cur'.size = cur.size
 | [], o, w, cur, h => ⟨cur, h, rfl⟩
 | v :: r, o, w, cur, h => by
  obtain ⟨cur', h3, h4⟩ := setsRow r (o + 1) (w.setCell ⟨g, o, none⟩ v) _ (blk_set h o v)
  exact ⟨cur', h3, by rw [h4]; simp⟩
/-- A store of a tuple into such a row. -/
theorem own_any {ops : Array Oper} {rest : List Oper} {o : Oper} {a : Act} {Q : Exit → Act → World → Prop} {W0 W : World} {base b n i o' : Nat} (hN : o.dst = none) (hgd : o.guard = none) (p x : Operand) (ho : o.op = .store 41 p x) (u : Value) (seg : List Value)
  (haddr : a.eval p = .pointer (some ⟨b, o', none⟩)) (hoff : o' = i * 6) (hx : a.eval x = u) (hu : u.cells.toList = seg) (hlen : seg.length = 6) (h1 : ∀ q ∈ seg, q.oneCell' = true)
  (HO : OwnB W base (some ⟨b, 0, none⟩) n) (hi : i < n) (HB : Below base W0 W)
  (h : ∀ w1, OwnB w1 base (some ⟨b, 0, none⟩) n → Below base W0 w1 → wpList Try.prog ops Q rest a w1) : wpList Try.prog ops Q (o :: rest) a W := by
 subst hoff
 rcases HO with h0 | ⟨b', hA, hb, cur, hh, hs⟩
 ·omega
 injection hA with hA
 injection hA with hA
 subst hA
 obtain ⟨cur', h3, h4⟩ := setsRow seg (i * 6) W cur hh
 obtain ⟨s1, s2, s3, s4⟩ := setsSame b seg (i * 6) W
 have hB : Below base W0 (W.setCells b (i * 6) seg) := HB.trans ⟨s1, s2, s3, by rw [s4]; exact Nat.le_refl _, fun k hk => setsFar seg _ k (by omega)⟩
 have hst := run_storeCells_cells (P := Try.prog) b (i * 6) seg 0 W (fun j hj => by rw [cell_of_row W b _ cur 41 (0, 0) hh]; simp; omega) (fun j _ => blk_frozen hh _) h1
 simp only [Nat.add_zero] at hst
 obtain ⟨inf, hinf, _, hsz, _⟩ := info_parts info41
 have hc : u.cells.size = inf.size := by rw [hsz, ← Array.length_toList, hu, hlen]
 have hrun : (Instr.storeAt 41 (.pointer (some ⟨b, i * 6, none⟩)) u).run Try.prog W = .ok () (W.setCells b (i * 6) seg) := by
  simp [Instr.storeAt, Instr.sureAddr, storeVar, sizeOf, typeInfo, hinf, hc, hu, hst]
 refine wpList_plain hgd fun K hK => ?_
 unfold Oper.wp execOp
 simp only [ho, haddr, hx, Sem.run_bind, Sem.run_pure, Result.andThen_ok, hrun]
 show K (a.put o.dst undef) _
 rw [hN]
 exact hK _ _ (h _ (Or.inr ⟨b, rfl, hb, cur', h3, by omega⟩) hB)
theorem pr_apart {w : World} {B g : Nat} {q : Option Nat} {v : Value} {l : List (List S41)} {A c n} (hv : PR w B g q v l) (s : ∃ m past now, St w B g q m past now) (hn : Row w B A c n) : (Kd.slice 41 k41).M w B (fun k => (k ≠ g ∧ some k ≠ q) ∧ some k ≠ v.ownBlock) n [.slice A n.length c] := by
 obtain ⟨inner, ho⟩ := Kd.R_own hv
 obtain ⟨m, past, now, hs⟩ := s
 obtain ⟨u, hq, hg, hB, hR⟩ := hs.out
 obtain ⟨inner2, ho2⟩ := Kd.R_own hR
 refine ⟨_, rfl, Kd.R_mono (Kd.R_bound hn.out) (fun k hk => ?_)⟩
 obtain ⟨_, _, _, t, ht, cells, hc⟩ := hk
 refine ⟨⟨?_, ?_⟩, ?_⟩
 ·rintro rfl
  rw [hg] at hc
  injection hc with hc
  injection hc with _ hc
  rw [← hc] at ht
  exact absurd ht (by decide)
 ·intro he
  obtain ⟨cells', hc'⟩ := own_typed ho2 k (by rw [hq, he])
  rw [hc] at hc'
  injection hc' with hc'
  injection hc' with _ hc'
  rw [hc'] at ht
  exact absurd ht (by decide)
 ·intro he
  obtain ⟨cells', hc'⟩ := own_typed ho k he.symm
  rw [hc] at hc'
  injection hc' with hc'
  injection hc' with _ hc'
  rw [hc'] at ht
  exact absurd ht (by decide)
theorem St.fresh {w : World} {B g : Nat} {q : Option Nat} {m : Int} {past now} (h : St w B g q m past now) (k : Nat) (hk : w.heap.size ≤ k) : k ≠ g ∧ some k ≠ q := by
 obtain ⟨u, hq, hg, hB, hR⟩ := h.out
 obtain ⟨inner, ho⟩ := Kd.R_own hR
 refine ⟨by have := h.lt; omega, fun he => ?_⟩
 have := own_lt ho k (by rw [hq, he])
 omega
theorem R_split {W : World} {B : Nat} {v0 : Value} {l : List (List S41)} (h : Kd.R (Kd.slice 41 k41) 23 W B (fun _ => True) v0 l) {v : Value} (ht : ∀ k, v.ownBlock = some k → ∃ cells, W.heap[k]? = some (.cells cells 23 (0, 0))) (hne : ∀ k, v0.ownBlock = some k → some k ≠ v.ownBlock) : Kd.R (Kd.slice 41 k41) 23 W B (fun k => some k ≠ v.ownBlock) v0 l :=
 ⟨hne, h.2.imp_ (fun _ _ hp => by
  obtain ⟨u, rfl, hr⟩ := hp
  exact ⟨u, rfl, Kd.R_mono (Kd.R_bound hr) (fun k hk => ⟨fun he => by
   obtain ⟨_, _, _, t, ht2, cells, hc⟩ := hk
   obtain ⟨cells', hc'⟩ := ht k he.symm
   rw [hc] at hc'
   injection hc' with hc'
   injection hc' with _ hc'
   rw [hc'] at ht2
   exact absurd ht2 (by decide), hk.1.2⟩)⟩)⟩
theorem St.grown {W w1 : World} {B g : Nat} {q : Option Nat} {m : Int} {past now} (h : St W B g q m past now) {v : Value} {pl} (hv : PR W B g q v pl) (hgr : W.grownBy w1 v.ownBlock) : St w1 B g q m past now := by
 obtain ⟨u, hq, hg, hB, hR⟩ := h.out
 obtain ⟨inner, ho⟩ := Kd.R_own hv
 have hS := R_split hR (v := v) (fun k hk => own_typed ho k hk) (fun k hk he => (hv.1 k he.symm).2 (by rw [← hk, hq]))
 refine ⟨u, hq, blk_grown hg hgr (fun he => (hv.1 g he.symm).1 rfl), hB, Kd.R_mono (Kd.R_step hS (fun k hk hlt => hgr.block k hlt (fun he => hk (by first | exact he | exact he.symm)))) (fun _ _ => trivial)⟩
open Go.Proofs.YtpgmeaofmlipkaaH
theorem gate_st {ops : Array Oper} {rest : List Oper} {o : Oper} {a : Act} {Q : Exit → Act → World → Prop} {W : World} (op : Op) (_ho : o.op = op) (h : wpList Try.prog ops Q (o :: rest) a W) : wpList Try.prog ops Q (o :: rest) a W := h
def lenV : Value → Nat
 | .slice _ n _ => n
 | _ => 0
/-- What StorPast carries from round to round. -/
structure PI (W0 : World) (g : Nat) (W : World) (v : Value) (j : Nat) (q : Option Nat) (past : List (List S41)) (now : List S41) (pl : List (List S41)) : Prop where
 st : St W W0.heap.size g q 1000 past now
 ss : SS cmpT now
 nl : now.length ≤ 12 * j
 pn : past.length ≤ j
 pr : PR W W0.heap.size g q v pl
 dif : pl = past ∨ pl = past ++ [now]
 lens : ∀ l ∈ past, l.length ≤ 12 * j
 bw : Below W0.heap.size W0 W
 j15 : j ≤ 15
theorem PI.below {W0 : World} {g W v j q past now pl} {W' : World} (h : PI W0 g W v j q past now pl) (hb : Below W.heap.size W W') : PI W0 g W' v j q past now pl :=
 ⟨h.st.below hb, h.ss, h.nl, h.pn, h.pr.below hb, h.dif, h.lens, below_then h.bw h.bw.size hb, h.j15⟩
/-- A script's rows of numbers. -/
def IRows (w : World) (A0 : Option Addr) (n : Nat) : Prop := ∀ i, i < n → ∃ ad, A0 = some ad ∧ ∃ A c, ∃ li : List Int, w.cell? (ad.add i) = some (.slice A li.length c) ∧ li.length ≤ c ∧ Kd.C (Kd.int .i64) w A li.length li
theorem IRows.below {w W : World} {A0 n} (h : IRows w A0 n) (hb : Below w.heap.size w W) : IRows W A0 n := fun i hi => by
 obtain ⟨ad, hA, A, c, li, h1, h2, h3⟩ := h i hi
 exact ⟨ad, hA, A, c, li, pw_cell_below hb h1, h2, Kd.C_below h3 hb⟩
theorem PI.next {W0 : World} {g W v j q past now q' n past' now' x} {W' : World} (h : PI W0 g W v j q past now (past ++ [now])) (hs : St W' W0.heap.size g q' 1000 past' now') (hS : Step 1000 past now past' now' n x) (hx : x.l1.length ≤ 12) (hk : Kept W W' (fun k => k = g ∨ some k = q)) (hb : Below W0.heap.size W W') (hq : q' = q ∨ ∃ k, q' = some k ∧ W.heap.size ≤ k) (hj : j < 15) : PI W0 g W' v (j + 1) q' past' now' (past ++ [now]) := by
 refine ⟨hs, hS.ss, by have := hS.len; have := h.nl; omega, by have := hS.plen; have := h.pn; omega, h.pr.write hk hq, ?_, ?_, h.bw.trans hb, by omega⟩
 ·by_cases he : now' = now
  ·right; rw [he, hS.same he]
  ·left; rw [hS.diff he]
 ·intro l hl
  by_cases he : now' = now
  ·rw [hS.same he] at hl; have := h.lens l hl; omega
  ·rw [hS.diff he] at hl
   rcases List.mem_append.1 hl with h1 | h1
   ·have := h.lens l h1; omega
   ·rw [List.mem_singleton.1 h1]; have := h.nl; omega
/-- What was read stays what At answers. -/
theorem PI.hist {W0 : World} {g W v j q past now pl} (h : PI W0 g W v j q past now pl) (k : Nat) (hk : k < pl.length) : (past ++ [now])[k]? = some pl[k] ∧ (pl[k]).length ≤ 12 * j := by
 rcases h.dif with h1 | h1
 ·subst h1
  exact ⟨by rw [List.getElem?_append_left hk, List.getElem?_eq_getElem hk], h.lens _ (List.getElem_mem hk)⟩
 ·subst h1
  refine ⟨List.getElem?_eq_getElem hk, ?_⟩
  have hm := List.getElem_mem hk
  rcases List.mem_append.1 hm with h2 | h2
  ·exact h.lens _ h2
  ·rw [List.mem_singleton.1 h2]; exact h.nl
theorem PI.plen {W0 : World} {g W v j q past now pl} (h : PI W0 g W v j q past now pl) : pl.length ≤ 16 := by
 have h1 := h.pn
 have h2 := h.j15
 rcases h.dif with h3 | h3 <;> rw [h3] <;> simp <;> omega
/-- One more in the row of rows. -/
theorem PI.app {W0 : World} {g W v j q past now} (h : PI W0 g W v j q past now past) {v1 : Value} {w1 : World} (hR : PR w1 W0.heap.size g q v1 (past ++ [now])) (hS : St w1 W0.heap.size g q 1000 past now) (hb : Below W0.heap.size W0 w1) : PI W0 g w1 v1 j q past now (past ++ [now]) :=
 ⟨hS, h.ss, h.nl, h.pn, hR, Or.inr rfl, h.lens, hb, h.j15⟩
theorem clamp1000 : clampM 1000 = 1000 := by decide
set_option maxHeartbeats 8000000 in
set_option maxRecDepth 100000 in
theorem past_c (A0 : Option Addr) (n c0 : Nat) (w : World) (hr0 : IRows w A0 n) :
  Calls Try.prog 7 #[.slice A0 n c0] w fun e w' => e = .returned (.bool true) ∧ Below w.heap.size w w' := by
 have HR := Lib.hid hr0
 clear hr0
 go_enter Try.func7, Try.ntmps7
 go_wp2_with fail
 refine (new_any 1000 _).mono ?_
 rintro e w1 ⟨g, q1, rfl, hst, hb⟩
 rw [clamp1000] at hst
 have HP1 := Lib.hid (show PI w g w1 (.slice none 0 0) 0 q1 [] [] [] from ⟨hst, by simp [SS], by simp, by simp, PR.nil _ _ _ _, Or.inl rfl, by simp, hb, by omega⟩)
 clear hst hb
 go_wp2_with fail
 go_loopw [4, 5] (fun v i wr => ∃ (j : Nat) (q : Option Nat) (past : List (List S41)) (now : List S41) (pl : List (List S41)), i = .int .i64 j ∧ j ≤ n ∧ PI w g wr v j q past now pl) (fun _ i _ => n - (intOf i).toNat)
 case atStart => exact ⟨0, q1, [], [], [], rfl, by omega, HP1.out⟩
 case round =>
  obtain ⟨j, q, past, now, pl, rfl, hj, hP⟩ := hrel
  have HP := Lib.hid hP
  have hj15 := hP.j15
  clear hP HP1
  by_cases hgo : j < n ∧ j < 15
  ·obtain ⟨hjn, hjl⟩ := hgo
   have hj1 : (j : Int) < (n : Int) := by omega
   have hj2 : (j : Int) < 15 := by omega
   have hj0 : (0 : Int) ≤ (j : Int) := by omega
   go_wp2_with fail
   go_loopw [4] (fun v wr => ∃ (pl : List (List S41)), PI w g wr v j q past now pl) (fun v _ => past.length + 1 - lenV v)
   case atStart => exact ⟨pl, HP.out⟩
   case round =>
    obtain ⟨pl2, hP2⟩ := hrel
    obtain ⟨Ap, cp, hv⟩ := hP2.pr.slice
    subst hv
    have HQ := Lib.hid hP2
    have hpl := hP2.plen
    have hpn := hP2.pn
    have hnl := hP2.nl
    clear hP2 HP
    by_cases hdone : pl2 = past
    ·subst hdone
     go_wp2_with fail
     refine (rev_any HQ.out.st).mono ?_
     rintro e w2 ⟨rfl, rfl⟩
     go_wp2_with fail
     refine (all_c HQ.out.st (by omega)).mono ?_
     rintro e w3 ⟨An, cn, rfl, hrow, hb⟩
     have HQ3 := Lib.hid (HQ.out.below hb)
     have HAP := Lib.hid (pr_apart HQ3.out.pr ⟨_, _, _, HQ3.out.st⟩ (hrow.lower HQ.out.bw.size))
     clear hrow hb HQ
     have HF := Lib.hid HQ3.out.st.fresh
     go_wp2_with (at_builtin; refine Kd.R_append (Kd.slice 41 k41) (w0 := w) w.heap.size rfl (.tmp 30) (.tmp 33) 48 23 (.slice none 0 0) 24 rfl Try.underlying48 info23 rfl (by decide) (by decide) (.slice Ap pl2.length cp) pl2 now [.slice An now.length cn] (fun k => k ≠ g ∧ some k ≠ q) (fun k => (k ≠ g ∧ some k ≠ q) ∧ some k ≠ (Value.slice Ap pl2.length cp).ownBlock) rfl rfl ?ap1 ?ap2 ?ap3 HQ3.out.pr HQ3.out.bw HQ3.out.bw.size ?ap5 ?_)
     case ap1 => exact HAP.out
     case ap2 => exact fun k hk => hk
     case ap3 => exact HF.out
     case ap5 => omega
     intro v1 w4 hR1 hB1 hgr _
     have HN := Lib.hid (show PI w g w4 v1 j q pl2 now (pl2 ++ [now]) from HQ3.out.app hR1 (HQ3.out.st.grown HQ3.out.pr hgr) hB1)
     have hL : (pl2 ++ [now]).length = pl2.length + 1 := by simp
     obtain ⟨A4, c4, hv4⟩ := PR.slice hR1
     rw [hL] at hv4
     clear hR1 hB1 hgr HQ3 HAP HF hL
     subst hv4
     go_wp2_with fail
     go_roundw
     case rel => exact ⟨pl2 ++ [now], HN.out⟩
     case measure => simp [lenV]
    ·have he : pl2 = past ++ [now] := by
      rcases HQ.out.dif with h | h
      ·exact absurd h hdone
      ·exact h
     subst he
     clear hdone
     go_wp2_with fail
     refine (rev_any HQ.out.st).mono ?_
     rintro e w2 ⟨rfl, rfl⟩
     have hlen : (past ++ [now]).length = past.length + 1 := by simp
     have HLEN := Lib.hid hlen
     rw [hlen]
     clear hlen
     obtain ⟨ad, hA, Ai, ci, li, hc, hcl, hC⟩ := HR.out.below HQ.out.bw j hjn
     subst hA
     have HC := Lib.hid hC
     clear hC
     go_wp2_with fail
     refine (batch_c HC.out hcl).mono ?_
     rintro e w3 ⟨x, rfl, hrow, hok, hb⟩
     have HOK := Lib.hid hok
     have HQ3 := Lib.hid (HQ.out.below hb)
     have HXR := Lib.hid hrow.rd
     clear hrow hb HQ HC hok hc
     go_wp2_with fail
     refine (write_q HQ3.out.st x HXR.out HOK.out (by omega) HQ3.out.ss (by omega)).mono ?_
     rintro e w4 ⟨q4, n4, past4, now4, rfl, hst, hS, hk, hb, hq⟩
     have HQ4 := Lib.hid (HQ3.out.next hst hS HOK.out.n1 hk hb hq hjl)
     have hpl4 := HQ4.out.plen
     have hnl4 := HQ4.out.nl
     clear hst hS hk hb hq HQ3 HXR HOK
     generalize past ++ [now] = pl at HQ4 HLEN hpl4
     rw [← HLEN.out]
     go_wp2_with fail
     refine (all_c HQ4.out.st (by omega)).mono ?_
     rintro e w5 ⟨An, cn, rfl, hrow, hb⟩
     have HO5 := Lib.hid hrow.ownB
     have HB5 := Lib.hid hb
     clear hrow hb
     have hnb : now4.length ≤ 200 := by omega
     clear hnl4
     generalize now4.length = nn at HO5 hnb ⊢
     go_wp2_with fail
     go_loopw [46] (fun k wq => ∃ (m : Nat), k = .int .i64 m ∧ m ≤ nn ∧ OwnB wq w4.heap.size An nn ∧ Below w4.heap.size w4 wq) (fun k _ => nn - (intOf k).toNat)
     case atStart => exact ⟨0, rfl, by omega, HO5.out, HB5.out⟩
     case round =>
      obtain ⟨m, rfl, hm, hO, hB⟩ := hrel
      have HO := Lib.hid hO
      have HB := Lib.hid hB
      clear hO hB HO5 HB5
      by_cases hmn : m < nn
      ·have hm1 : (m : Int) < (nn : Int) := by omega
       have hm0 : (0 : Int) ≤ (m : Int) := by omega
       obtain ⟨b, hAb⟩ : ∃ b, An = some ⟨b, 0, none⟩ := by
        rcases HO.out with h | ⟨b, h, _⟩
        ·omega
        ·exact ⟨b, h⟩
       subst hAb
       go_wp2_with fail
       refine (tame_c (m : Int) _).mono ?_
       rintro e w6 ⟨rfl, hb⟩
       have HO6 := Lib.hid (HO.out.below hb)
       have HB6 := Lib.hid (below_then HB.out HB.out.size hb)
       clear hb HO HB
       go_wp2_with ((with_reducible refine gate_st (.store 41 (.tmp 53) (.tmp 52)) rfl ?_); refine own_any (W0 := w4) (base := w4.heap.size) (n := nn) (b := b) (i := m) (o' := m * 6) rfl rfl (.tmp 53) (.tmp 52) rfl (.agg #[.string (tm m).f0.f0, .string (tm m).f0.f1, .string (tm m).f1, .string (tm m).f2.f0, .string (tm m).f2.f1, .string (tm m).f2.f2]) [.string (tm m).f0.f0, .string (tm m).f0.f1, .string (tm m).f1, .string (tm m).f2.f0, .string (tm m).f2.f1, .string (tm m).f2.f2] ?st1 rfl rfl rfl rfl ?st3 HO6.out hmn HB6.out ?_)
       case st1 => first | rfl | (simp [Act.eval, Addr.add]; done) | (trace_state; exact sorry)
       case st3 => simp [Value.oneCell']
       intro w7 hO7 hB7
       have HO7 := Lib.hid hO7
       have HB7 := Lib.hid hB7
       clear hO7 hB7 HO6 HB6
       go_wp2_with fail
       go_roundw
       case rel => exact ⟨m + 1, by go_num, by omega, HO7.out, HB7.out⟩
       case measure => simp [intOf]; omega
      ·obtain rfl : m = nn := by omega
       have HQ5 := Lib.hid (HQ4.out.below HB.out)
       clear HO HB HQ4 hm hmn
       go_wp2_with fail
       go_loopw [8] (fun k wk => ∃ (m : Nat), k = .int .i64 m ∧ m ≤ pl.length ∧ Below wr.heap.size wr wk) (fun k _ => pl.length - (intOf k).toNat)
       case atStart => exact ⟨0, rfl, by omega, Below.refl _ _⟩
       case round =>
        obtain ⟨m4, rfl, hm4, hB⟩ := hrel
        have HQ6 := Lib.hid (HQ5.out.below hB)
        have HBk := Lib.hid hB
        clear hB
        by_cases hmn : m4 < pl.length
        ·have hm1 : (m4 : Int) < (pl.length : Int) := by omega
         have hm0 : (0 : Int) ≤ (m4 : Int) := by omega
         obtain ⟨hh, hl⟩ := HQ6.out.hist m4 hmn
         obtain ⟨hlen, ad7, hA7, A8, c8, hc8, hr8⟩ := HQ6.out.pr.at m4 hmn
         generalize pl[m4] = l7 at hh hl hc8 hr8
         subst hA7
         have HH := Lib.hid hh
         have HC8 := Lib.hid hc8
         have HR8 := Lib.hid hr8
         clear hh hc8 hr8 hlen
         go_wp2_with fail
         refine (at_c HQ6.out.st m4 _ rfl l7 HH.out (by omega)).mono ?_
         rintro e w7 ⟨A7, c7, rfl, hrow, hb⟩
         have HO7 := Lib.hid hrow.ownB
         have HR7 := Lib.hid hrow.rd
         have HB7 := Lib.hid hb
         have hc8 := pw_cell_below hb HC8.out
         have HR9 := Lib.hid (HR8.out.below hb)
         clear hrow hb HC8 HR8 HH
         go_wp2_with fail
         refine (same_c HR7.out HR9.out (by omega)).mono ?_
         rw [decide_eq_true rfl]
         rintro e w8 ⟨rfl, hdr⟩
         have hb := below_of_drawn hdr
         have HO8 := Lib.hid (HO7.out.below hb)
         have HB8 := Lib.hid (chainB HB7.out hb)
         clear hdr hb HO7 HR7 HR9 HB7 hc8
         have hlb : l7.length ≤ 200 := by omega
         clear hl
         generalize l7.length = n7 at HO8 hlb ⊢
         go_wp2_with fail
         go_loopw [80] (fun k wz => ∃ (z : Nat), k = .int .i64 z ∧ z ≤ n7 ∧ OwnB wz wr.heap.size A7 n7 ∧ Below wr.heap.size wr wz) (fun k _ => n7 - (intOf k).toNat)
         case atStart => exact ⟨0, rfl, by omega, HO8.out, HB8.out⟩
         case round =>
          obtain ⟨z, rfl, hz, hO, hB⟩ := hrel
          have HO := Lib.hid hO
          have HB := Lib.hid hB
          clear hO hB HO8 HB8
          by_cases hzn : z < n7
          ·have hz1 : (z : Int) < (n7 : Int) := by omega
           have hz0 : (0 : Int) ≤ (z : Int) := by omega
           obtain ⟨b, hAb⟩ : ∃ b, A7 = some ⟨b, 0, none⟩ := by
            rcases HO.out with h | ⟨b, h, _⟩
            ·omega
            ·exact ⟨b, h⟩
           subst hAb
           go_wp2_with ((with_reducible refine gate_st (.store 41 (.tmp 86) (.tmp 85)) rfl ?_); refine own_any (W0 := _) (base := _) (n := n7) (b := b) (i := z) (o' := z * 6) rfl rfl (.tmp 86) (.tmp 85) rfl (.agg #[.string ⟨#[]⟩, .string ⟨#[]⟩, .string ⟨#[]⟩, .string ⟨#[]⟩, .string ⟨#[]⟩, .string ⟨#[]⟩]) [.string ⟨#[]⟩, .string ⟨#[]⟩, .string ⟨#[]⟩, .string ⟨#[]⟩, .string ⟨#[]⟩, .string ⟨#[]⟩] ?st1 rfl rfl rfl rfl ?st3 HO.out hzn HB.out ?_)
           case st1 => first | rfl | (simp [Act.eval, Addr.add]; done) | (trace_state; exact sorry)
           case st3 => simp [Value.oneCell']
           intro w9 hO9 hB9
           have HO9 := Lib.hid hO9
           have HB9 := Lib.hid hB9
           clear hO9 hB9 HO HB
           go_wp2_with fail
           go_roundw
           case rel => exact ⟨z + 1, by go_num, by omega, HO9.out, HB9.out⟩
           case measure => simp [intOf]; omega
          ·obtain rfl : z = n7 := by omega
           have HBn := Lib.hid (below_then HBk.out HBk.out.size HB.out)
           clear HO HB HBk
           go_wp2_with fail
           go_roundw
           case rel => exact ⟨m4 + 1, by go_num, by omega, HBn.out⟩
           case measure => simp [intOf]; omega
        ·obtain rfl : m4 = pl.length := by omega
         clear HBk HQ5
         go_wp2_with fail
         go_roundw
         case rel => exact ⟨j + 1, q4, past4, now4, pl, by go_num, by omega, HQ6.out⟩
         case measure => simp [intOf]; omega
  ·have hex : (j < n → False) ∨ (j < n ∧ ¬ j < 15) := by
    by_cases h : j < n
    ·exact Or.inr ⟨h, fun h2 => hgo ⟨h, h2⟩⟩
    ·exact Or.inl h
   have HNL := Lib.hid (show now.length < 1000000000 by have := HP.out.nl; omega)
   have HRI := Lib.hid ((rises_ss cmpT_tot now).2 HP.out.ss)
   clear hgo
   rcases hex with hx | ⟨hx1, hx2⟩
   ·have hx1 : ¬ ((j : Int) < (n : Int)) := by
     have hx9 : ¬ j < n := hx
     omega
    clear hx
    go_wp2_with fail
    refine (all_c HP.out.st HNL.out).mono ?_
    rintro e w2 ⟨An, cn, rfl, hrow, hb⟩
    have HN2 := Lib.hid hrow.rd
    have HB2 := Lib.hid (chainB HP.out.bw hb)
    clear hrow hb HP
    go_wp2_with fail
    refine (refIs_c HN2.out HNL.out).mono ?_
    rw [HRI.out]
    rintro e w3 ⟨rfl, hb⟩
    have HB3 := Lib.hid (chainB HB2.out hb)
    clear hb HB2 HN2
    go_wp2_with fail
    refine (awake4_c _).mono ?_
    rintro e w4 ⟨rfl, hb⟩
    have HB4 := Lib.hid (chainB HB3.out hb)
    clear hb HB3
    go_wp2_with fail
    go_ret
    exact ⟨rfl, HB4.out⟩
   ·have hx3 : (j : Int) < (n : Int) := by omega
    have hx4 : ¬ ((j : Int) < 15) := by omega
    clear hx1 hx2
    go_wp2_with fail
    refine (all_c HP.out.st HNL.out).mono ?_
    rintro e w2 ⟨An, cn, rfl, hrow, hb⟩
    have HN2 := Lib.hid hrow.rd
    have HB2 := Lib.hid (chainB HP.out.bw hb)
    clear hrow hb HP
    go_wp2_with fail
    refine (refIs_c HN2.out HNL.out).mono ?_
    rw [HRI.out]
    rintro e w3 ⟨rfl, hb⟩
    have HB3 := Lib.hid (chainB HB2.out hb)
    clear hb HB2 HN2
    go_wp2_with fail
    refine (awake4_c _).mono ?_
    rintro e w4 ⟨rfl, hb⟩
    have HB4 := Lib.hid (chainB HB3.out hb)
    clear hb HB3
    go_wp2_with fail
    go_ret
    exact ⟨rfl, HB4.out⟩
end Go.Proofs.Ytpgmeaofmlipkaa.PT
