-- Written by a program of this session (wip/tools/pp.py over the kit's printer). Lean checks it.
import Derived.Test.YtpgmeaofmlipkaaPTx0
import Derived.Test.YtpgmeaofmlipkaaPTx1025
namespace Go.Proofs.Ytpgmeaofmlipkaa.PT
open Go.RowKit Go.Proofs.YtpgmeaofmlipkaaW.PrintWords Go.Proofs.YtpgmeaofmlipkaaW.PrintLast Go.Proofs.YtpgmeaofmlipkaaW.PrintMore
attribute [local go_sem] max2_int min2_int max_two min_two max_three min_three max_four min_four   -- for this text's walks alone
set_option linter.unusedVariables false
set_option linter.unusedSimpArgs false

/-! ### entaillaw4_Batch: function 30 -/
mutual
def entaillaw4_Batch.l0 : Nat → List Int → Int → List (S41) → List (S41) → List (S41) → List (S41) → Option ((List (S41)) × (List (S41)) × (List (S41)) × (List (S41)))
 | 0, _, _, _, _, _, _ => none
 | k + 1, x0, x4, x613000, x613001, x613002, x613003 => if x4 < (x0.length : Int) then (entaillaw4_Batch.j1 k x0 x4 (decide (x4 < 12)) x613000 x613001 x613002 x613003) else (entaillaw4_Batch.j1 k x0 x4 false x613000 x613001 x613002 x613003)
def entaillaw4_Batch.j1 : Nat → List Int → Int → Bool → List (S41) → List (S41) → List (S41) → List (S41) → Option ((List (S41)) × (List (S41)) × (List (S41)) × (List (S41)))
 | 0, _, _, _, _, _, _, _ => none
 | k + 1, x0, x4, x14, x613000, x613001, x613002, x613003 => if x14 = true then (if 0 ≤ x4 then (if x4 < (x0.length : Int) then ((entaillaw2_Tame.f ((rd x0 x4) / 16)).bind fun bt614 => (if (Go.bits .and .i64 (rd x0 x4) 15) = 0 then (entaillaw4_Batch.j2 k x0 x4 (Go.bits .and .i64 (rd x0 x4) 15) ((Go.bits .and .i64 (rd x0 x4) 15) == 0) x613000 x613001 x613002 x613003 bt614.1 bt614.2.1 bt614.2.2.1 bt614.2.2.2.1 bt614.2.2.2.2.1 bt614.2.2.2.2.2) else (if (Go.bits .and .i64 (rd x0 x4) 15) = 1 then (entaillaw4_Batch.j2 k x0 x4 (Go.bits .and .i64 (rd x0 x4) 15) ((Go.bits .and .i64 (rd x0 x4) 15) == 1) x613000 x613001 x613002 x613003 bt614.1 bt614.2.1 bt614.2.2.1 bt614.2.2.2.1 bt614.2.2.2.2.1 bt614.2.2.2.2.2) else (if (Go.bits .and .i64 (rd x0 x4) 15) = 2 then (entaillaw4_Batch.j2 k x0 x4 (Go.bits .and .i64 (rd x0 x4) 15) ((Go.bits .and .i64 (rd x0 x4) 15) == 2) x613000 x613001 x613002 x613003 bt614.1 bt614.2.1 bt614.2.2.1 bt614.2.2.2.1 bt614.2.2.2.2.1 bt614.2.2.2.2.2) else (if (Go.bits .and .i64 (rd x0 x4) 15) = 3 then (entaillaw4_Batch.j2 k x0 x4 (Go.bits .and .i64 (rd x0 x4) 15) ((Go.bits .and .i64 (rd x0 x4) 15) == 3) x613000 x613001 x613002 x613003 bt614.1 bt614.2.1 bt614.2.2.1 bt614.2.2.2.1 bt614.2.2.2.2.1 bt614.2.2.2.2.2) else (if (Go.bits .and .i64 (rd x0 x4) 15) = 4 then (entaillaw4_Batch.j2 k x0 x4 (Go.bits .and .i64 (rd x0 x4) 15) ((Go.bits .and .i64 (rd x0 x4) 15) == 4) x613000 x613001 x613002 x613003 bt614.1 bt614.2.1 bt614.2.2.1 bt614.2.2.2.1 bt614.2.2.2.2.1 bt614.2.2.2.2.2) else (if (Go.bits .and .i64 (rd x0 x4) 15) = 5 then (entaillaw4_Batch.j2 k x0 x4 (Go.bits .and .i64 (rd x0 x4) 15) ((Go.bits .and .i64 (rd x0 x4) 15) == 5) x613000 x613001 x613002 x613003 bt614.1 bt614.2.1 bt614.2.2.1 bt614.2.2.2.1 bt614.2.2.2.2.1 bt614.2.2.2.2.2) else (if (Go.bits .and .i64 (rd x0 x4) 15) = 6 then (entaillaw4_Batch.j2 k x0 x4 (Go.bits .and .i64 (rd x0 x4) 15) ((Go.bits .and .i64 (rd x0 x4) 15) == 6) x613000 x613001 x613002 x613003 bt614.1 bt614.2.1 bt614.2.2.1 bt614.2.2.2.1 bt614.2.2.2.2.1 bt614.2.2.2.2.2) else (if (Go.bits .and .i64 (rd x0 x4) 15) = 7 then (entaillaw4_Batch.j2 k x0 x4 (Go.bits .and .i64 (rd x0 x4) 15) ((Go.bits .and .i64 (rd x0 x4) 15) == 7) x613000 x613001 x613002 x613003 bt614.1 bt614.2.1 bt614.2.2.1 bt614.2.2.2.1 bt614.2.2.2.2.1 bt614.2.2.2.2.2) else (entaillaw4_Batch.j2 k x0 x4 (Go.bits .and .i64 (rd x0 x4) 15) ((Go.bits .and .i64 (rd x0 x4) 15) == 8) x613000 x613001 x613002 x613003 bt614.1 bt614.2.1 bt614.2.2.1 bt614.2.2.2.1 bt614.2.2.2.2.1 bt614.2.2.2.2.2)))))))))) else (none)) else (none)) else (some (x613000, x613001, x613002, x613003))
def entaillaw4_Batch.j2 : Nat → List Int → Int → Int → Bool → List (S41) → List (S41) → List (S41) → List (S41) → ByteArray → ByteArray → ByteArray → ByteArray → ByteArray → ByteArray → Option ((List (S41)) × (List (S41)) × (List (S41)) × (List (S41)))
 | 0, _, _, _, _, _, _, _, _, _, _, _, _, _, _ => none
 | k + 1, x0, x4, x27, x34, x613000, x613001, x613002, x613003, x621000, x621001, x621002, x621003, x621004, x621005 => if x34 = true then (if x613000.length < 1466015503701 then (entaillaw4_Batch.l0 k x0 (wrap64 (x4 + 1)) (x613000 ++ [(⟨(⟨x621000, x621001⟩ : S37), x621002, (⟨x621003, x621004, x621005⟩ : S39)⟩ : S41)]) x613001 x613002 x613003) else (none)) else (if x27 = 9 then (entaillaw4_Batch.j3 k x0 x4 x27 (x27 == 9) x613000 x613001 x613002 x613003 x621000 x621001 x621002 x621003 x621004 x621005) else (if x27 = 10 then (entaillaw4_Batch.j3 k x0 x4 x27 (x27 == 10) x613000 x613001 x613002 x613003 x621000 x621001 x621002 x621003 x621004 x621005) else (if x27 = 11 then (entaillaw4_Batch.j3 k x0 x4 x27 (x27 == 11) x613000 x613001 x613002 x613003 x621000 x621001 x621002 x621003 x621004 x621005) else (entaillaw4_Batch.j3 k x0 x4 x27 (x27 == 12) x613000 x613001 x613002 x613003 x621000 x621001 x621002 x621003 x621004 x621005))))
def entaillaw4_Batch.j3 : Nat → List Int → Int → Int → Bool → List (S41) → List (S41) → List (S41) → List (S41) → ByteArray → ByteArray → ByteArray → ByteArray → ByteArray → ByteArray → Option ((List (S41)) × (List (S41)) × (List (S41)) × (List (S41)))
 | 0, _, _, _, _, _, _, _, _, _, _, _, _, _, _ => none
 | k + 1, x0, x4, x27, x50, x613000, x613001, x613002, x613003, x621000, x621001, x621002, x621003, x621004, x621005 => if x50 = true then (if x613001.length < 1466015503701 then (entaillaw4_Batch.l0 k x0 (wrap64 (x4 + 1)) x613000 (x613001 ++ [(⟨(⟨x621000, x621001⟩ : S37), x621002, (⟨x621003, x621004, x621005⟩ : S39)⟩ : S41)]) x613002 x613003) else (none)) else (if x27 = 13 then (if x613002.length < 1466015503701 then (entaillaw4_Batch.l0 k x0 (wrap64 (x4 + 1)) x613000 x613001 (x613002 ++ [(⟨(⟨x621000, x621001⟩ : S37), x621002, (⟨x621003, x621004, x621005⟩ : S39)⟩ : S41)]) x613003) else (none)) else (if x27 = 14 then (if x613003.length < 1466015503701 then (entaillaw4_Batch.l0 k x0 (wrap64 (x4 + 1)) x613000 x613001 x613002 (x613003 ++ [(⟨(⟨x621000, x621001⟩ : S37), x621002, (⟨x621003, x621004, x621005⟩ : S39)⟩ : S41)])) else (none)) else (if x613000.length < 1466015503701 then (entaillaw4_Batch.l0 k x0 (wrap64 (x4 + 1)) (x613000 ++ [(⟨(⟨(⟨#[]⟩ : ByteArray), (⟨#[]⟩ : ByteArray)⟩ : S37), (⟨#[120]⟩ : ByteArray), (⟨(⟨#[]⟩ : ByteArray), (⟨#[]⟩ : ByteArray), (⟨#[]⟩ : ByteArray)⟩ : S39)⟩ : S41)]) x613001 x613002 x613003) else (none))))
end
def entaillaw4_Batch.f (k : Nat) (l0 : List Int) : Option ((List (S41)) × (List (S41)) × (List (S41)) × (List (S41))) := entaillaw4_Batch.l0 k l0 0 ([] : List (S41)) ([] : List (S41)) ([] : List (S41)) ([] : List (S41))
theorem entaillaw4_Batch.mono_l : ∀ k, (∀ y0 y1 y2 y3 y4 y5, LeO (entaillaw4_Batch.l0 k y0 y1 y2 y3 y4 y5) (entaillaw4_Batch.l0 (k + 1) y0 y1 y2 y3 y4 y5)) ∧ (∀ y0 y1 y2 y3 y4 y5 y6, LeO (entaillaw4_Batch.j1 k y0 y1 y2 y3 y4 y5 y6) (entaillaw4_Batch.j1 (k + 1) y0 y1 y2 y3 y4 y5 y6)) ∧ (∀ y0 y1 y2 y3 y4 y5 y6 y7 y8 y9 y10 y11 y12 y13, LeO (entaillaw4_Batch.j2 k y0 y1 y2 y3 y4 y5 y6 y7 y8 y9 y10 y11 y12 y13) (entaillaw4_Batch.j2 (k + 1) y0 y1 y2 y3 y4 y5 y6 y7 y8 y9 y10 y11 y12 y13)) ∧ (∀ y0 y1 y2 y3 y4 y5 y6 y7 y8 y9 y10 y11 y12 y13, LeO (entaillaw4_Batch.j3 k y0 y1 y2 y3 y4 y5 y6 y7 y8 y9 y10 y11 y12 y13) (entaillaw4_Batch.j3 (k + 1) y0 y1 y2 y3 y4 y5 y6 y7 y8 y9 y10 y11 y12 y13))
 | 0 => ⟨fun _ _ _ _ _ _ r h => by simp [entaillaw4_Batch.l0] at h, fun _ _ _ _ _ _ _ r h => by simp [entaillaw4_Batch.j1] at h, fun _ _ _ _ _ _ _ _ _ _ _ _ _ _ r h => by simp [entaillaw4_Batch.j2] at h, fun _ _ _ _ _ _ _ _ _ _ _ _ _ _ r h => by simp [entaillaw4_Batch.j3] at h⟩
 | k + 1 => by
  obtain ⟨ih0, ih1, ih2, ih3⟩ := entaillaw4_Batch.mono_l k
  refine ⟨?_, ?_, ?_, ?_⟩
  ·intro y0 y1 y2 y3 y4 y5
   unfold entaillaw4_Batch.l0
   repeat' first
   | (with_reducible exact ih0 _ _ _ _ _ _)
   | (with_reducible exact ih1 _ _ _ _ _ _ _)
   | (with_reducible exact ih2 _ _ _ _ _ _ _ _ _ _ _ _ _ _)
   | (with_reducible exact ih3 _ _ _ _ _ _ _ _ _ _ _ _ _ _)
   | (with_reducible exact LeO.refl _)
   | (with_reducible exact LeO.none _)
   | (with_reducible refine LeO.ite ?_ ?_)
   | (with_reducible refine LeO.bind ?_ (fun _ => ?_))
   | exact ih0 _ _ _ _ _ _
   | exact ih1 _ _ _ _ _ _ _
   | exact ih2 _ _ _ _ _ _ _ _ _ _ _ _ _ _
   | exact ih3 _ _ _ _ _ _ _ _ _ _ _ _ _ _
   | exact LeO.none _
   | refine LeO.ite ?_ ?_
   | refine LeO.bind ?_ (fun _ => ?_)
  ·intro y0 y1 y2 y3 y4 y5 y6
   unfold entaillaw4_Batch.j1
   repeat' first
   | (with_reducible exact ih0 _ _ _ _ _ _)
   | (with_reducible exact ih1 _ _ _ _ _ _ _)
   | (with_reducible exact ih2 _ _ _ _ _ _ _ _ _ _ _ _ _ _)
   | (with_reducible exact ih3 _ _ _ _ _ _ _ _ _ _ _ _ _ _)
   | (with_reducible exact LeO.refl _)
   | (with_reducible exact LeO.none _)
   | (with_reducible refine LeO.ite ?_ ?_)
   | (with_reducible refine LeO.bind ?_ (fun _ => ?_))
   | exact ih0 _ _ _ _ _ _
   | exact ih1 _ _ _ _ _ _ _
   | exact ih2 _ _ _ _ _ _ _ _ _ _ _ _ _ _
   | exact ih3 _ _ _ _ _ _ _ _ _ _ _ _ _ _
   | exact LeO.none _
   | refine LeO.ite ?_ ?_
   | refine LeO.bind ?_ (fun _ => ?_)
  ·intro y0 y1 y2 y3 y4 y5 y6 y7 y8 y9 y10 y11 y12 y13
   unfold entaillaw4_Batch.j2
   repeat' first
   | (with_reducible exact ih0 _ _ _ _ _ _)
   | (with_reducible exact ih1 _ _ _ _ _ _ _)
   | (with_reducible exact ih2 _ _ _ _ _ _ _ _ _ _ _ _ _ _)
   | (with_reducible exact ih3 _ _ _ _ _ _ _ _ _ _ _ _ _ _)
   | (with_reducible exact LeO.refl _)
   | (with_reducible exact LeO.none _)
   | (with_reducible refine LeO.ite ?_ ?_)
   | (with_reducible refine LeO.bind ?_ (fun _ => ?_))
   | exact ih0 _ _ _ _ _ _
   | exact ih1 _ _ _ _ _ _ _
   | exact ih2 _ _ _ _ _ _ _ _ _ _ _ _ _ _
   | exact ih3 _ _ _ _ _ _ _ _ _ _ _ _ _ _
   | exact LeO.none _
   | refine LeO.ite ?_ ?_
   | refine LeO.bind ?_ (fun _ => ?_)
  ·intro y0 y1 y2 y3 y4 y5 y6 y7 y8 y9 y10 y11 y12 y13
   unfold entaillaw4_Batch.j3
   repeat' first
   | (with_reducible exact ih0 _ _ _ _ _ _)
   | (with_reducible exact ih1 _ _ _ _ _ _ _)
   | (with_reducible exact ih2 _ _ _ _ _ _ _ _ _ _ _ _ _ _)
   | (with_reducible exact ih3 _ _ _ _ _ _ _ _ _ _ _ _ _ _)
   | (with_reducible exact LeO.refl _)
   | (with_reducible exact LeO.none _)
   | (with_reducible refine LeO.ite ?_ ?_)
   | (with_reducible refine LeO.bind ?_ (fun _ => ?_))
   | exact ih0 _ _ _ _ _ _
   | exact ih1 _ _ _ _ _ _ _
   | exact ih2 _ _ _ _ _ _ _ _ _ _ _ _ _ _
   | exact ih3 _ _ _ _ _ _ _ _ _ _ _ _ _ _
   | exact LeO.none _
   | refine LeO.ite ?_ ?_
   | refine LeO.bind ?_ (fun _ => ?_)
theorem entaillaw4_Batch.mono : ∀ a0 k, LeO (entaillaw4_Batch.f k a0) (entaillaw4_Batch.f (k + 1) a0) := by
 intro a0 k
 obtain ⟨ih0, ih1, ih2, ih3⟩ := entaillaw4_Batch.mono_l k
 unfold entaillaw4_Batch.f
 repeat' first
   | (with_reducible exact ih0 _ _ _ _ _ _)
   | (with_reducible exact ih1 _ _ _ _ _ _ _)
   | (with_reducible exact ih2 _ _ _ _ _ _ _ _ _ _ _ _ _ _)
   | (with_reducible exact ih3 _ _ _ _ _ _ _ _ _ _ _ _ _ _)
   | (with_reducible exact LeO.refl _)
   | (with_reducible exact LeO.none _)
   | (with_reducible refine LeO.ite ?_ ?_)
   | (with_reducible refine LeO.bind ?_ (fun _ => ?_))
   | exact ih0 _ _ _ _ _ _
   | exact ih1 _ _ _ _ _ _ _
   | exact ih2 _ _ _ _ _ _ _ _ _ _ _ _ _ _
   | exact ih3 _ _ _ _ _ _ _ _ _ _ _ _ _ _
   | exact LeO.none _
   | refine LeO.ite ?_ ?_
   | refine LeO.bind ?_ (fun _ => ?_)
theorem far6R {α : Type} {d : Kd α} {e : TypeId} {w : World} {B : Nat} {ok ok' : Nat → Prop} {v : Value} {xs : List α} (h : Kd.R d e w B ok v xs) {g : Nat} (hne : ∀ k, ok k → k ≠ g) (hm : ∀ k, ok k → ok' k) (a0 a1 a2 a3 a4 a5 : Value) : Kd.R d e ((((((w.setCell ⟨g, 0, none⟩ a0).setCell ⟨g, 1, none⟩ a1).setCell ⟨g, 2, none⟩ a2).setCell ⟨g, 3, none⟩ a3).setCell ⟨g, 4, none⟩ a4).setCell ⟨g, 5, none⟩ a5) B ok' v xs :=
  Kd.R_mono (Kd.R_far (Kd.R_far (Kd.R_far (Kd.R_far (Kd.R_far (Kd.R_far h hne _) hne _) hne _) hne _) hne _) hne _) hm
theorem far6B {w : World} {b g : Nat} {t : TypeId} {cs : Array Value} (h : w.heap[b]? = some (.cells cs t (0, 0))) (hp : b ≠ g) (a0 a1 a2 a3 a4 a5 : Value) : ((((((w.setCell ⟨g, 0, none⟩ a0).setCell ⟨g, 1, none⟩ a1).setCell ⟨g, 2, none⟩ a2).setCell ⟨g, 3, none⟩ a3).setCell ⟨g, 4, none⟩ a4).setCell ⟨g, 5, none⟩ a5).heap[b]? = some (.cells cs t (0, 0)) :=
  blk_far (blk_far (blk_far (blk_far (blk_far (blk_far h hp _) hp _) hp _) hp _) hp _) hp _
theorem put6B {w : World} {g : Nat} {t : TypeId} {b0 b1 b2 b3 b4 b5 : Value} (h : w.heap[g]? = some (.cells #[b0, b1, b2, b3, b4, b5] t (0, 0))) (a0 a1 a2 a3 a4 a5 : Value) : ((((((w.setCell ⟨g, 0, none⟩ a0).setCell ⟨g, 1, none⟩ a1).setCell ⟨g, 2, none⟩ a2).setCell ⟨g, 3, none⟩ a3).setCell ⟨g, 4, none⟩ a4).setCell ⟨g, 5, none⟩ a5).heap[g]? = some (.cells #[a0, a1, a2, a3, a4, a5] t (0, 0)) :=
  blk_put (blk_put (blk_put (blk_put (blk_put (blk_put h 0 a0 rfl) 1 a1 rfl) 2 a2 rfl) 3 a3 rfl) 4 a4 rfl) 5 a5 rfl
set_option maxHeartbeats 8000000 in
set_option maxRecDepth 100000 in
theorem entaillaw4_Batch.calls (k : Nat) (A0 : Option Addr) (c0 : Nat) (l0 : List Int) (r1 : List (S41)) (r2 : List (S41)) (r3 : List (S41)) (r4 : List (S41)) (w : World) (hr0 : Kd.C (Kd.int .i64) w A0 l0.length l0) (hc0 : l0.length ≤ c0) (h : entaillaw4_Batch.f k l0 = some (r1, r2, r3, r4)) :
  Calls Try.prog 30 #[.slice A0 l0.length c0] w fun e w' => ∃ v0_ v1_ v2_ v3_ : Value, e = .returned (.agg #[v0_, v1_, v2_, v3_]) ∧ Kd.R k41 41 w' w.heap.size (fun k_ => some k_ ≠ (v1_ : Value).ownBlock ∧ some k_ ≠ (v2_ : Value).ownBlock ∧ some k_ ≠ (v3_ : Value).ownBlock) v0_ r1 ∧ Kd.R k41 41 w' w.heap.size (fun k_ => some k_ ≠ (v0_ : Value).ownBlock ∧ some k_ ≠ (v2_ : Value).ownBlock ∧ some k_ ≠ (v3_ : Value).ownBlock) v1_ r2 ∧ Kd.R k41 41 w' w.heap.size (fun k_ => some k_ ≠ (v0_ : Value).ownBlock ∧ some k_ ≠ (v1_ : Value).ownBlock ∧ some k_ ≠ (v3_ : Value).ownBlock) v2_ r3 ∧ Kd.R k41 41 w' w.heap.size (fun k_ => some k_ ≠ (v0_ : Value).ownBlock ∧ some k_ ≠ (v1_ : Value).ownBlock ∧ some k_ ≠ (v2_ : Value).ownBlock) v3_ r4 ∧ Below w.heap.size w w' := by
 have hu54 := Try.underlying54
 have hu41 := Try.underlying41
 have HR0 := Aside0.mk hr0
 have HC0 := Aside0.mk hc0
 clear hr0 hc0
 have HB := Aside0.mk (Below.refl w.heap.size w)
 have H : (entaillaw4_Batch.l0 k l0 0 ([] : List (S41)) ([] : List (S41)) ([] : List (S41)) ([] : List (S41))) = some (r1, r2, r3, r4) := h
 clear h
 have H' := Aside0.mk H
 clear H
 go_enter Try.func30, Try.ntmps30
 go_wp2_with (first | ((with_reducible refine gate_dst (N := 2) rfl ?_); refine box_event ?hg (N := 2) ?hd (cs := #[.slice none 0 0, .slice none 0 0, .slice none 0 0, .slice none 0 0]) (t := 54) ?hr ?_; (case hd => rfl); (case hg => rfl); (case hr => first | (go_simp; done) | (go_simp; rfl)); intro gb611 hg w2 hbox hb; have n0_ := Aside0.mk (below_step (by repeat (first | (with_reducible first | exact HB.out | apply below_alloc | apply pw_below_drewN | apply below_drew1) | exact HB.out)) hb); have n1_ := Aside0.mk (hbox); have n2_ := Aside0.mk ((by rw [hg]; exact (below_size (by repeat (first | (with_reducible first | exact HB.out | apply below_alloc | apply pw_below_drewN | apply below_drew1) | exact HB.out))) : w.heap.size ≤ gb611)); have n3_ := Aside0.mk ((by rw [hg]; exact (below_size (by repeat (first | (with_reducible first | exact HB.out | apply below_alloc | apply pw_below_drewN | apply below_drew1) | exact HB.out))) : w.heap.size ≤ gb611)); clear HB; have HB := n0_; have BK611 := n1_; have GW611 := n2_; have GE611 := n3_; clear n0_ n1_ n2_ n3_; clear hb hbox hg) | ((with_reducible refine gate_dst (N := 3) rfl ?_); refine box_event ?hg (N := 3) ?hd (cs := #[.slice none 0 0, .slice none 0 0, .slice none 0 0, .slice none 0 0]) (t := 54) ?hr ?_; (case hd => rfl); (case hg => rfl); (case hr => first | (go_simp; done) | (go_simp; rfl)); intro gb612 hg w3 hbox hb; have n0_ := Aside0.mk (blk_below (g := gb611) (o := .cells #[.slice none 0 0, .slice none 0 0, .slice none 0 0, .slice none 0 0] 54 (0, 0)) (by (with_reducible repeat (first | refine blk_drewN ?_ _ | refine blk_drew ?_ | refine blk_alloc ?_ _)); exact BK611.out) hb); have n1_ := Aside0.mk (below_step (by repeat (first | (with_reducible first | exact HB.out | apply below_alloc | apply pw_below_drewN | apply below_drew1 | refine below_set ?_ GE611.out) | exact HB.out)) hb); have n2_ := Aside0.mk (hbox); have n3_ := Aside0.mk ((by rw [hg]; exact (below_size (by repeat (first | (with_reducible first | exact HB.out | apply below_alloc | apply pw_below_drewN | apply below_drew1 | refine below_set ?_ GE611.out) | exact HB.out))) : w.heap.size ≤ gb612)); have n4_ := Aside0.mk ((by rw [hg]; exact (below_size (by repeat (first | (with_reducible first | exact HB.out | apply below_alloc | apply pw_below_drewN | apply below_drew1 | refine below_set ?_ GE611.out) | exact HB.out))) : w.heap.size ≤ gb612)); have n5_ := Aside0.mk ((by rw [hg]; exact Nat.ne_of_lt (blk_lt (g := gb611) (o := .cells #[.slice none 0 0, .slice none 0 0, .slice none 0 0, .slice none 0 0] 54 (0, 0)) (by (with_reducible repeat (first | refine blk_drewN ?_ _ | refine blk_drew ?_ | refine blk_alloc ?_ _)); exact BK611.out)) : gb611 ≠ gb612)); have n6_ := Aside0.mk ((by rw [hg]; exact Nat.ne_of_gt (blk_lt (g := gb611) (o := .cells #[.slice none 0 0, .slice none 0 0, .slice none 0 0, .slice none 0 0] 54 (0, 0)) (by (with_reducible repeat (first | refine blk_drewN ?_ _ | refine blk_drew ?_ | refine blk_alloc ?_ _)); exact BK611.out)) : gb612 ≠ gb611)); clear BK611; clear HB; have BK611 := n0_; have HB := n1_; have BK612 := n2_; have GW612 := n3_; have GE612 := n4_; have NB611_612 := n5_; have NB612_611 := n6_; clear n0_ n1_ n2_ n3_ n4_ n5_ n6_; clear hb hbox hg; have hnb4 := NB612_611.out; have hnc4 := NB611_612.out; have hcz5_0 : w3.cell? ⟨gb612, 0, none⟩ = some (.slice none 0 0) := (blk_cell BK612.out 0).trans rfl; have hcz5_1 : w3.cell? ⟨gb612, 1, none⟩ = some (.slice none 0 0) := (blk_cell BK612.out 1).trans rfl; have hcz5_2 : w3.cell? ⟨gb612, 2, none⟩ = some (.slice none 0 0) := (blk_cell BK612.out 2).trans rfl; have hcz5_3 : w3.cell? ⟨gb612, 3, none⟩ = some (.slice none 0 0) := (blk_cell BK612.out 3).trans rfl; have hfz5_0 := blk_frozen BK612.out 0; have hfz5_1 := blk_frozen BK612.out 1; have hfz5_2 := blk_frozen BK612.out 2; have hfz5_3 := blk_frozen BK612.out 3))
 go_loopg [4] k (fun kq v4 w' => ∃ (x4_1 : Int) (x613000_1 : List (S41)) (x613001_1 : List (S41)) (x613002_1 : List (S41)) (x613003_1 : List (S41)) (u613000 : Value) (u613001 : Value) (u613002 : Value) (u613003 : Value), v4 = .int .i64 x4_1 ∧ Aside0 (entaillaw4_Batch.l0 kq l0 x4_1 x613000_1 x613001_1 x613002_1 x613003_1 = some (r1, r2, r3, r4)) ∧ Aside0 (kq ≤ k) ∧ Aside0 (Kd.R k41 41 w' w.heap.size (fun k_ => some k_ ≠ (u613001 : Value).ownBlock ∧ some k_ ≠ (u613002 : Value).ownBlock ∧ some k_ ≠ (u613003 : Value).ownBlock) u613000 x613000_1) ∧ Aside0 (Kd.R k41 41 w' w.heap.size (fun k_ => some k_ ≠ (u613000 : Value).ownBlock ∧ some k_ ≠ (u613002 : Value).ownBlock ∧ some k_ ≠ (u613003 : Value).ownBlock) u613001 x613001_1) ∧ Aside0 (Kd.R k41 41 w' w.heap.size (fun k_ => some k_ ≠ (u613000 : Value).ownBlock ∧ some k_ ≠ (u613001 : Value).ownBlock ∧ some k_ ≠ (u613003 : Value).ownBlock) u613002 x613002_1) ∧ Aside0 (Kd.R k41 41 w' w.heap.size (fun k_ => some k_ ≠ (u613000 : Value).ownBlock ∧ some k_ ≠ (u613001 : Value).ownBlock ∧ some k_ ≠ (u613002 : Value).ownBlock) u613003 x613003_1) ∧ Aside0 (w'.heap[gb611]? = some (.cells #[(.slice none 0 0), (.slice none 0 0), (.slice none 0 0), (.slice none 0 0)] 54 (0, 0))) ∧ Aside0 (w'.heap[gb612]? = some (.cells #[u613000, u613001, u613002, u613003] 54 (0, 0))) ∧ Aside0 (Below w.heap.size w w'))
 case atStart => exact ⟨(0), (([] : List (S41))), (([] : List (S41))), (([] : List (S41))), (([] : List (S41))), (.slice none 0 0), (.slice none 0 0), (.slice none 0 0), (.slice none 0 0), (by first | rfl | (simp; done) | (simp [*]; done)), H', ⟨Nat.le_refl _⟩, ⟨by first | exact Kd.R_nil _ _ _ _ _ | exact Kd.N_nil _ _ _ _ _ | exact Kd.V_nil _ _ _ _ _ | exact Kd.Q_nil _ _ _ _ _ | exact Kd.S_nil _ _ _ _ _⟩, ⟨by first | exact Kd.R_nil _ _ _ _ _ | exact Kd.N_nil _ _ _ _ _ | exact Kd.V_nil _ _ _ _ _ | exact Kd.Q_nil _ _ _ _ _ | exact Kd.S_nil _ _ _ _ _⟩, ⟨by first | exact Kd.R_nil _ _ _ _ _ | exact Kd.N_nil _ _ _ _ _ | exact Kd.V_nil _ _ _ _ _ | exact Kd.Q_nil _ _ _ _ _ | exact Kd.S_nil _ _ _ _ _⟩, ⟨by first | exact Kd.R_nil _ _ _ _ _ | exact Kd.N_nil _ _ _ _ _ | exact Kd.V_nil _ _ _ _ _ | exact Kd.Q_nil _ _ _ _ _ | exact Kd.S_nil _ _ _ _ _⟩, ⟨by (with_reducible repeat (first | refine blk_drewN ?_ _ | refine blk_drew ?_ | refine blk_alloc ?_ _)); refine blk_far ?_ NB611_612.out _; (with_reducible repeat (first | refine blk_drewN ?_ _ | refine blk_drew ?_ | refine blk_alloc ?_ _)); refine blk_far ?_ NB611_612.out _; (with_reducible repeat (first | refine blk_drewN ?_ _ | refine blk_drew ?_ | refine blk_alloc ?_ _)); refine blk_far ?_ NB611_612.out _; (with_reducible repeat (first | refine blk_drewN ?_ _ | refine blk_drew ?_ | refine blk_alloc ?_ _)); refine blk_far ?_ NB611_612.out _; (with_reducible repeat (first | refine blk_drewN ?_ _ | refine blk_drew ?_ | refine blk_alloc ?_ _)); exact BK611.out⟩, ⟨by (with_reducible repeat (first | refine blk_drewN ?_ _ | refine blk_drew ?_ | refine blk_alloc ?_ _)); refine blk_put (cs := #[.slice none 0 0, .slice none 0 0, .slice none 0 0, .slice none 0 0]) ?_ 3 _ rfl; (with_reducible repeat (first | refine blk_drewN ?_ _ | refine blk_drew ?_ | refine blk_alloc ?_ _)); refine blk_put (cs := #[.slice none 0 0, .slice none 0 0, .slice none 0 0, .slice none 0 0]) ?_ 2 _ rfl; (with_reducible repeat (first | refine blk_drewN ?_ _ | refine blk_drew ?_ | refine blk_alloc ?_ _)); refine blk_put (cs := #[.slice none 0 0, .slice none 0 0, .slice none 0 0, .slice none 0 0]) ?_ 1 _ rfl; (with_reducible repeat (first | refine blk_drewN ?_ _ | refine blk_drew ?_ | refine blk_alloc ?_ _)); refine blk_put (cs := #[.slice none 0 0, .slice none 0 0, .slice none 0 0, .slice none 0 0]) ?_ 0 _ rfl; (with_reducible repeat (first | refine blk_drewN ?_ _ | refine blk_drew ?_ | refine blk_alloc ?_ _)); exact BK612.out⟩, ⟨by repeat (first | (with_reducible first | exact HB.out | apply below_alloc | apply pw_below_drewN | apply below_drew1 | refine below_set ?_ GE611.out | refine below_set ?_ GE612.out) | exact HB.out)⟩⟩
 case round =>
  clear H'
  try clear p2
  try clear c3
  try clear c4
  try clear hcz5_0
  try clear hcz5_1
  try clear hcz5_2
  try clear hcz5_3
  try clear hfz5_0
  try clear hfz5_1
  try clear hfz5_2
  try clear hfz5_3
  obtain ⟨x4_1, x613000_1, x613001_1, x613002_1, x613003_1, u613000, u613001, u613002, u613003, rfl, HA, HK1, HO_613000, HO_613001, HO_613002, HO_613003, BK611, BK612, HB⟩ := hrel
  cases gk with
  | zero => exact absurd HA.out (by simp [entaillaw4_Batch.l0])
  | succ k1 =>
   have H := HA.out
   clear HA
   simp only [entaillaw4_Batch.l0] at H
   have HC6 := Aside0.mk H
   clear H
   go_upto_region 3 with (fail)
   go_cut [14] (fun v14 wc => ∃ (kq : Nat) (x14_5 : Bool), v14 = .bool x14_5 ∧ Aside0 (entaillaw4_Batch.j1 kq l0 x4_1 x14_5 x613000_1 x613001_1 x613002_1 x613003_1 = some (r1, r2, r3, r4)) ∧ Aside0 (kq ≤ k1) ∧ Aside0 (Kd.R k41 41 wc w.heap.size (fun k_ => some k_ ≠ (u613001 : Value).ownBlock ∧ some k_ ≠ (u613002 : Value).ownBlock ∧ some k_ ≠ (u613003 : Value).ownBlock) u613000 x613000_1) ∧ Aside0 (Kd.R k41 41 wc w.heap.size (fun k_ => some k_ ≠ (u613000 : Value).ownBlock ∧ some k_ ≠ (u613002 : Value).ownBlock ∧ some k_ ≠ (u613003 : Value).ownBlock) u613001 x613001_1) ∧ Aside0 (Kd.R k41 41 wc w.heap.size (fun k_ => some k_ ≠ (u613000 : Value).ownBlock ∧ some k_ ≠ (u613001 : Value).ownBlock ∧ some k_ ≠ (u613003 : Value).ownBlock) u613002 x613002_1) ∧ Aside0 (Kd.R k41 41 wc w.heap.size (fun k_ => some k_ ≠ (u613000 : Value).ownBlock ∧ some k_ ≠ (u613001 : Value).ownBlock ∧ some k_ ≠ (u613002 : Value).ownBlock) u613003 x613003_1) ∧ Aside0 (wc.heap[gb611]? = some (.cells #[(.slice none 0 0), (.slice none 0 0), (.slice none 0 0), (.slice none 0 0)] 54 (0, 0))) ∧ Aside0 (wc.heap[gb612]? = some (.cells #[u613000, u613001, u613002, u613003] 54 (0, 0))) ∧ Aside0 (Below w.heap.size w wc))
   case first =>
    have H := HC6.out
    clear HC6
    by_cases c7 : x4_1 < (l0.length : Int)
    ·rw [if_pos c7] at H
     have c7b0 : decide (x4_1 < (l0.length : Int)) = true := decide_eq_true c7
     clear c7
     (first | rw [c7b0] | (simp only [i64_w, i32_w]; rw [c7b0]) | skip)
     have H' := Aside0.mk H
     clear H
     go_wp2
     go_meet
     case rel => exact ⟨_, (decide (x4_1 < 12)), (by first | rfl | (simp; done) | (simp [*]; done)), H', ⟨by have := HK1.out; first | omega | exact Nat.le_refl _⟩, ⟨by (with_reducible repeat (first | apply Kd.R_alloc | apply Kd.R_drewN | apply Kd.R_drew)); exact HO_613000.out⟩, ⟨by (with_reducible repeat (first | apply Kd.R_alloc | apply Kd.R_drewN | apply Kd.R_drew)); exact HO_613001.out⟩, ⟨by (with_reducible repeat (first | apply Kd.R_alloc | apply Kd.R_drewN | apply Kd.R_drew)); exact HO_613002.out⟩, ⟨by (with_reducible repeat (first | apply Kd.R_alloc | apply Kd.R_drewN | apply Kd.R_drew)); exact HO_613003.out⟩, ⟨by (with_reducible repeat (first | refine blk_drewN ?_ _ | refine blk_drew ?_ | refine blk_alloc ?_ _)); exact BK611.out⟩, ⟨by (with_reducible repeat (first | refine blk_drewN ?_ _ | refine blk_drew ?_ | refine blk_alloc ?_ _)); exact BK612.out⟩, ⟨by repeat (first | (with_reducible first | exact HB.out | apply below_alloc | apply pw_below_drewN | apply below_drew1 | refine below_set ?_ GE611.out | refine below_set ?_ GE612.out) | exact HB.out)⟩⟩
    ·rw [if_neg c7] at H
     have c7b0 : decide (x4_1 < (l0.length : Int)) = false := decide_eq_false c7
     clear c7
     (first | rw [c7b0] | (simp only [i64_w, i32_w]; rw [c7b0]) | skip)
     have H' := Aside0.mk H
     clear H
     go_wp2
     go_meet
     case rel => exact ⟨_, (false), (by first | rfl | (simp; done) | (simp [*]; done)), H', ⟨by have := HK1.out; first | omega | exact Nat.le_refl _⟩, ⟨by (with_reducible repeat (first | apply Kd.R_alloc | apply Kd.R_drewN | apply Kd.R_drew)); exact HO_613000.out⟩, ⟨by (with_reducible repeat (first | apply Kd.R_alloc | apply Kd.R_drewN | apply Kd.R_drew)); exact HO_613001.out⟩, ⟨by (with_reducible repeat (first | apply Kd.R_alloc | apply Kd.R_drewN | apply Kd.R_drew)); exact HO_613002.out⟩, ⟨by (with_reducible repeat (first | apply Kd.R_alloc | apply Kd.R_drewN | apply Kd.R_drew)); exact HO_613003.out⟩, ⟨by (with_reducible repeat (first | refine blk_drewN ?_ _ | refine blk_drew ?_ | refine blk_alloc ?_ _)); exact BK611.out⟩, ⟨by (with_reducible repeat (first | refine blk_drewN ?_ _ | refine blk_drew ?_ | refine blk_alloc ?_ _)); exact BK612.out⟩, ⟨by repeat (first | (with_reducible first | exact HB.out | apply below_alloc | apply pw_below_drewN | apply below_drew1 | refine below_set ?_ GE611.out | refine below_set ?_ GE612.out) | exact HB.out)⟩⟩
   case rest =>
    clear HC6
    try clear p2
    try clear c3
    try clear c4
    try clear c7
    try clear c7b0
    try clear hcz5_0
    try clear hcz5_1
    try clear hcz5_2
    try clear hcz5_3
    try clear hfz5_0
    try clear hfz5_1
    try clear hfz5_2
    try clear hfz5_3
    try clear p2
    obtain ⟨kq, x14_5, rfl, HA, HJ5, HO_613000, HO_613001, HO_613002, HO_613003, BK611, BK612, HB⟩ := hcut
    cases kq with
    | zero => exact absurd HA.out (by simp [entaillaw4_Batch.j1])
    | succ kj5 =>
     have H := HA.out
     clear HA
     simp only [entaillaw4_Batch.j1] at H
     by_cases c8 : x14_5 = true
     ·subst c8
      have H1 : (if 0 ≤ x4_1 then (if x4_1 < (l0.length : Int) then ((entaillaw2_Tame.f ((rd l0 x4_1) / 16)).bind fun bt614 => (if (Go.bits .and .i64 (rd l0 x4_1) 15) = 0 then (entaillaw4_Batch.j2 kj5 l0 x4_1 (Go.bits .and .i64 (rd l0 x4_1) 15) ((Go.bits .and .i64 (rd l0 x4_1) 15) == 0) x613000_1 x613001_1 x613002_1 x613003_1 bt614.1 bt614.2.1 bt614.2.2.1 bt614.2.2.2.1 bt614.2.2.2.2.1 bt614.2.2.2.2.2) else (if (Go.bits .and .i64 (rd l0 x4_1) 15) = 1 then (entaillaw4_Batch.j2 kj5 l0 x4_1 (Go.bits .and .i64 (rd l0 x4_1) 15) ((Go.bits .and .i64 (rd l0 x4_1) 15) == 1) x613000_1 x613001_1 x613002_1 x613003_1 bt614.1 bt614.2.1 bt614.2.2.1 bt614.2.2.2.1 bt614.2.2.2.2.1 bt614.2.2.2.2.2) else (if (Go.bits .and .i64 (rd l0 x4_1) 15) = 2 then (entaillaw4_Batch.j2 kj5 l0 x4_1 (Go.bits .and .i64 (rd l0 x4_1) 15) ((Go.bits .and .i64 (rd l0 x4_1) 15) == 2) x613000_1 x613001_1 x613002_1 x613003_1 bt614.1 bt614.2.1 bt614.2.2.1 bt614.2.2.2.1 bt614.2.2.2.2.1 bt614.2.2.2.2.2) else (if (Go.bits .and .i64 (rd l0 x4_1) 15) = 3 then (entaillaw4_Batch.j2 kj5 l0 x4_1 (Go.bits .and .i64 (rd l0 x4_1) 15) ((Go.bits .and .i64 (rd l0 x4_1) 15) == 3) x613000_1 x613001_1 x613002_1 x613003_1 bt614.1 bt614.2.1 bt614.2.2.1 bt614.2.2.2.1 bt614.2.2.2.2.1 bt614.2.2.2.2.2) else (if (Go.bits .and .i64 (rd l0 x4_1) 15) = 4 then (entaillaw4_Batch.j2 kj5 l0 x4_1 (Go.bits .and .i64 (rd l0 x4_1) 15) ((Go.bits .and .i64 (rd l0 x4_1) 15) == 4) x613000_1 x613001_1 x613002_1 x613003_1 bt614.1 bt614.2.1 bt614.2.2.1 bt614.2.2.2.1 bt614.2.2.2.2.1 bt614.2.2.2.2.2) else (if (Go.bits .and .i64 (rd l0 x4_1) 15) = 5 then (entaillaw4_Batch.j2 kj5 l0 x4_1 (Go.bits .and .i64 (rd l0 x4_1) 15) ((Go.bits .and .i64 (rd l0 x4_1) 15) == 5) x613000_1 x613001_1 x613002_1 x613003_1 bt614.1 bt614.2.1 bt614.2.2.1 bt614.2.2.2.1 bt614.2.2.2.2.1 bt614.2.2.2.2.2) else (if (Go.bits .and .i64 (rd l0 x4_1) 15) = 6 then (entaillaw4_Batch.j2 kj5 l0 x4_1 (Go.bits .and .i64 (rd l0 x4_1) 15) ((Go.bits .and .i64 (rd l0 x4_1) 15) == 6) x613000_1 x613001_1 x613002_1 x613003_1 bt614.1 bt614.2.1 bt614.2.2.1 bt614.2.2.2.1 bt614.2.2.2.2.1 bt614.2.2.2.2.2) else (if (Go.bits .and .i64 (rd l0 x4_1) 15) = 7 then (entaillaw4_Batch.j2 kj5 l0 x4_1 (Go.bits .and .i64 (rd l0 x4_1) 15) ((Go.bits .and .i64 (rd l0 x4_1) 15) == 7) x613000_1 x613001_1 x613002_1 x613003_1 bt614.1 bt614.2.1 bt614.2.2.1 bt614.2.2.2.1 bt614.2.2.2.2.1 bt614.2.2.2.2.2) else (entaillaw4_Batch.j2 kj5 l0 x4_1 (Go.bits .and .i64 (rd l0 x4_1) 15) ((Go.bits .and .i64 (rd l0 x4_1) 15) == 8) x613000_1 x613001_1 x613002_1 x613003_1 bt614.1 bt614.2.1 bt614.2.2.1 bt614.2.2.2.1 bt614.2.2.2.2.1 bt614.2.2.2.2.2)))))))))) else (none)) else (none)) = some (r1, r2, r3, r4) := by rw [if_pos rfl] at H; exact H
      clear H
      have H := H1
      clear H1
      by_cases c9 : 0 ≤ x4_1
      ·rw [if_pos c9] at H
       have c9b0 : decide (0 ≤ x4_1) = true := decide_eq_true c9
       clear c9
       by_cases c10 : x4_1 < (l0.length : Int)
       ·rw [if_pos c10] at H
        have c10b0 : decide (x4_1 < (l0.length : Int)) = true := decide_eq_true c10
        clear c10
        replace H := Option.bind_eq_some_iff.mp H
        obtain ⟨⟨t614, t615, t616, t617, t618, t619⟩, A110, H⟩ := H
        replace H : (if (Go.bits .and .i64 (rd l0 x4_1) 15) = 0 then (entaillaw4_Batch.j2 kj5 l0 x4_1 (Go.bits .and .i64 (rd l0 x4_1) 15) ((Go.bits .and .i64 (rd l0 x4_1) 15) == 0) x613000_1 x613001_1 x613002_1 x613003_1 t614 t615 t616 t617 t618 t619) else (if (Go.bits .and .i64 (rd l0 x4_1) 15) = 1 then (entaillaw4_Batch.j2 kj5 l0 x4_1 (Go.bits .and .i64 (rd l0 x4_1) 15) ((Go.bits .and .i64 (rd l0 x4_1) 15) == 1) x613000_1 x613001_1 x613002_1 x613003_1 t614 t615 t616 t617 t618 t619) else (if (Go.bits .and .i64 (rd l0 x4_1) 15) = 2 then (entaillaw4_Batch.j2 kj5 l0 x4_1 (Go.bits .and .i64 (rd l0 x4_1) 15) ((Go.bits .and .i64 (rd l0 x4_1) 15) == 2) x613000_1 x613001_1 x613002_1 x613003_1 t614 t615 t616 t617 t618 t619) else (if (Go.bits .and .i64 (rd l0 x4_1) 15) = 3 then (entaillaw4_Batch.j2 kj5 l0 x4_1 (Go.bits .and .i64 (rd l0 x4_1) 15) ((Go.bits .and .i64 (rd l0 x4_1) 15) == 3) x613000_1 x613001_1 x613002_1 x613003_1 t614 t615 t616 t617 t618 t619) else (if (Go.bits .and .i64 (rd l0 x4_1) 15) = 4 then (entaillaw4_Batch.j2 kj5 l0 x4_1 (Go.bits .and .i64 (rd l0 x4_1) 15) ((Go.bits .and .i64 (rd l0 x4_1) 15) == 4) x613000_1 x613001_1 x613002_1 x613003_1 t614 t615 t616 t617 t618 t619) else (if (Go.bits .and .i64 (rd l0 x4_1) 15) = 5 then (entaillaw4_Batch.j2 kj5 l0 x4_1 (Go.bits .and .i64 (rd l0 x4_1) 15) ((Go.bits .and .i64 (rd l0 x4_1) 15) == 5) x613000_1 x613001_1 x613002_1 x613003_1 t614 t615 t616 t617 t618 t619) else (if (Go.bits .and .i64 (rd l0 x4_1) 15) = 6 then (entaillaw4_Batch.j2 kj5 l0 x4_1 (Go.bits .and .i64 (rd l0 x4_1) 15) ((Go.bits .and .i64 (rd l0 x4_1) 15) == 6) x613000_1 x613001_1 x613002_1 x613003_1 t614 t615 t616 t617 t618 t619) else (if (Go.bits .and .i64 (rd l0 x4_1) 15) = 7 then (entaillaw4_Batch.j2 kj5 l0 x4_1 (Go.bits .and .i64 (rd l0 x4_1) 15) ((Go.bits .and .i64 (rd l0 x4_1) 15) == 7) x613000_1 x613001_1 x613002_1 x613003_1 t614 t615 t616 t617 t618 t619) else (entaillaw4_Batch.j2 kj5 l0 x4_1 (Go.bits .and .i64 (rd l0 x4_1) 15) ((Go.bits .and .i64 (rd l0 x4_1) 15) == 8) x613000_1 x613001_1 x613002_1 x613003_1 t614 t615 t616 t617 t618 t619))))))))) = some (r1, r2, r3, r4) := H
        have A11 := Aside0.mk A110
        clear A110
        have HC12 := Aside0.mk H
        clear H
        have p613 : 0 ≤ (x4_1 : Int) := of_decide_eq_true (by first | (with_reducible assumption) | assumption)
        have q613 : x4_1 < (l0.length : Int) := of_decide_eq_true (by first | (with_reducible assumption) | assumption)
        obtain ⟨ad613, e613, hx613_0⟩ := Kd.at_int HR0.out x4_1 p613 q613
        cases e613
        replace hx613_0 := (HB.out.cell (World.block_lt_of_cell? w _ hx613_0)).trans hx613_0
        replace p613 := eq_true p613
        replace q613 := eq_true q613
        go_upto_if 34 with (first | ((with_reducible refine gate_callee (f := 25) rfl ?_); refine goesL_ (some 22) rfl rfl Try.func25 (by kernel_rfl) rfl #[.int .i64 ((rd l0 x4_1) / 16)] rfl (by (try simp only [List.map_toArray, List.map_cons, List.map_nil]); first | done | rfl | (simp only [List.length_drop, List.length_take]; rfl)) ?_; (with_reducible refine (entaillaw2_Tame.calls ((rd l0 x4_1) / 16) t614 t615 t616 t617 t618 t619 _ A11.out).mono ?_); rintro e w13 ⟨rfl, hb⟩; refine ⟨_, rfl, ?_⟩; have n0_ := Aside0.mk (Kd.R_below (by (with_reducible repeat (first | apply Kd.R_alloc | apply Kd.R_drewN | apply Kd.R_drew)); exact HO_613000.out) hb); have n1_ := Aside0.mk (Kd.R_below (by (with_reducible repeat (first | apply Kd.R_alloc | apply Kd.R_drewN | apply Kd.R_drew)); exact HO_613001.out) hb); have n2_ := Aside0.mk (Kd.R_below (by (with_reducible repeat (first | apply Kd.R_alloc | apply Kd.R_drewN | apply Kd.R_drew)); exact HO_613002.out) hb); have n3_ := Aside0.mk (Kd.R_below (by (with_reducible repeat (first | apply Kd.R_alloc | apply Kd.R_drewN | apply Kd.R_drew)); exact HO_613003.out) hb); have n4_ := Aside0.mk (blk_below (g := gb611) (o := .cells #[.slice none 0 0, .slice none 0 0, .slice none 0 0, .slice none 0 0] 54 (0, 0)) (by (with_reducible repeat (first | refine blk_drewN ?_ _ | refine blk_drew ?_ | refine blk_alloc ?_ _)); exact BK611.out) hb); have n5_ := Aside0.mk (blk_below (g := gb612) (o := .cells #[u613000, u613001, u613002, u613003] 54 (0, 0)) (by (with_reducible repeat (first | refine blk_drewN ?_ _ | refine blk_drew ?_ | refine blk_alloc ?_ _)); exact BK612.out) hb); have n6_ := Aside0.mk (below_step (by repeat (first | (with_reducible first | exact HB.out | apply below_alloc | apply pw_below_drewN | apply below_drew1 | refine below_set ?_ GE611.out | refine below_set ?_ GE612.out) | exact HB.out)) hb); clear HO_613000; clear HO_613001; clear HO_613002; clear HO_613003; clear BK611; clear BK612; clear HB; have HO_613000 := n0_; have HO_613001 := n1_; have HO_613002 := n2_; have HO_613003 := n3_; have BK611 := n4_; have BK612 := n5_; have HB := n6_; clear n0_ n1_ n2_ n3_ n4_ n5_ n6_; (try clear hb); (try clear hb2); (try clear hk); (try clear hi)) | ((with_reducible refine gate_dst (N := 5) rfl ?_); refine box_event ?hg (N := 5) ?hd (cs := #[.string (⟨#[]⟩ : ByteArray), .string (⟨#[]⟩ : ByteArray), .string (⟨#[]⟩ : ByteArray), .string (⟨#[]⟩ : ByteArray), .string (⟨#[]⟩ : ByteArray), .string (⟨#[]⟩ : ByteArray)]) (t := 41) ?hr ?_; (case hd => rfl); (case hg => rfl); (case hr => first | (go_simp; done) | (go_simp; rfl)); intro gb620 hg w14 hbox hb; have n0_ := Aside0.mk (Kd.R_below (Kd.R_elderB (by (with_reducible repeat (first | apply Kd.R_alloc | apply Kd.R_drewN | apply Kd.R_drew)); exact HO_613000.out) gb620 (Nat.le_of_eq hg.symm)) hb); have n1_ := Aside0.mk (Kd.R_below (Kd.R_elderB (by (with_reducible repeat (first | apply Kd.R_alloc | apply Kd.R_drewN | apply Kd.R_drew)); exact HO_613001.out) gb620 (Nat.le_of_eq hg.symm)) hb); have n2_ := Aside0.mk (Kd.R_below (Kd.R_elderB (by (with_reducible repeat (first | apply Kd.R_alloc | apply Kd.R_drewN | apply Kd.R_drew)); exact HO_613002.out) gb620 (Nat.le_of_eq hg.symm)) hb); have n3_ := Aside0.mk (Kd.R_below (Kd.R_elderB (by (with_reducible repeat (first | apply Kd.R_alloc | apply Kd.R_drewN | apply Kd.R_drew)); exact HO_613003.out) gb620 (Nat.le_of_eq hg.symm)) hb); have n4_ := Aside0.mk (blk_below (g := gb611) (o := .cells #[.slice none 0 0, .slice none 0 0, .slice none 0 0, .slice none 0 0] 54 (0, 0)) (by (with_reducible repeat (first | refine blk_drewN ?_ _ | refine blk_drew ?_ | refine blk_alloc ?_ _)); exact BK611.out) hb); have n5_ := Aside0.mk (blk_below (g := gb612) (o := .cells #[u613000, u613001, u613002, u613003] 54 (0, 0)) (by (with_reducible repeat (first | refine blk_drewN ?_ _ | refine blk_drew ?_ | refine blk_alloc ?_ _)); exact BK612.out) hb); have n6_ := Aside0.mk (below_step (by repeat (first | (with_reducible first | exact HB.out | apply below_alloc | apply pw_below_drewN | apply below_drew1 | refine below_set ?_ GE611.out | refine below_set ?_ GE612.out) | exact HB.out)) hb); have n7_ := Aside0.mk (hbox); have n8_ := Aside0.mk ((by rw [hg]; exact (below_size (by repeat (first | (with_reducible first | exact HB.out | apply below_alloc | apply pw_below_drewN | apply below_drew1 | refine below_set ?_ GE611.out | refine below_set ?_ GE612.out) | exact HB.out))) : w.heap.size ≤ gb620)); have n9_ := Aside0.mk ((by rw [hg]; exact (below_size (by repeat (first | (with_reducible first | exact HB.out | apply below_alloc | apply pw_below_drewN | apply below_drew1 | refine below_set ?_ GE611.out | refine below_set ?_ GE612.out) | exact HB.out))) : w.heap.size ≤ gb620)); have n10_ := Aside0.mk ((by rw [hg]; exact Nat.ne_of_lt (blk_lt (g := gb611) (o := .cells #[.slice none 0 0, .slice none 0 0, .slice none 0 0, .slice none 0 0] 54 (0, 0)) (by (with_reducible repeat (first | refine blk_drewN ?_ _ | refine blk_drew ?_ | refine blk_alloc ?_ _)); exact BK611.out)) : gb611 ≠ gb620)); have n11_ := Aside0.mk ((by rw [hg]; exact Nat.ne_of_gt (blk_lt (g := gb611) (o := .cells #[.slice none 0 0, .slice none 0 0, .slice none 0 0, .slice none 0 0] 54 (0, 0)) (by (with_reducible repeat (first | refine blk_drewN ?_ _ | refine blk_drew ?_ | refine blk_alloc ?_ _)); exact BK611.out)) : gb620 ≠ gb611)); have n12_ := Aside0.mk ((by rw [hg]; exact Nat.ne_of_lt (blk_lt (g := gb612) (o := .cells #[u613000, u613001, u613002, u613003] 54 (0, 0)) (by (with_reducible repeat (first | refine blk_drewN ?_ _ | refine blk_drew ?_ | refine blk_alloc ?_ _)); exact BK612.out)) : gb612 ≠ gb620)); have n13_ := Aside0.mk ((by rw [hg]; exact Nat.ne_of_gt (blk_lt (g := gb612) (o := .cells #[u613000, u613001, u613002, u613003] 54 (0, 0)) (by (with_reducible repeat (first | refine blk_drewN ?_ _ | refine blk_drew ?_ | refine blk_alloc ?_ _)); exact BK612.out)) : gb620 ≠ gb612)); clear HO_613000; clear HO_613001; clear HO_613002; clear HO_613003; clear BK611; clear BK612; clear HB; have HO_613000 := n0_; have HO_613001 := n1_; have HO_613002 := n2_; have HO_613003 := n3_; have BK611 := n4_; have BK612 := n5_; have HB := n6_; have BK620 := n7_; have GW620 := n8_; have GE620 := n9_; have NB611_620 := n10_; have NB620_611 := n11_; have NB612_620 := n12_; have NB620_612 := n13_; clear n0_ n1_ n2_ n3_ n4_ n5_ n6_ n7_ n8_ n9_ n10_ n11_ n12_ n13_; clear hb hbox hg; have hnb15 := NB620_611.out; have hnc15 := NB611_620.out; have hnb16 := NB620_612.out; have hnc16 := NB612_620.out; have hcz17_0 : w14.cell? ⟨gb620, 0, none⟩ = some (.string (⟨#[]⟩ : ByteArray)) := (blk_cell BK620.out 0).trans rfl; have hcz17_1 : w14.cell? ⟨gb620, 1, none⟩ = some (.string (⟨#[]⟩ : ByteArray)) := (blk_cell BK620.out 1).trans rfl; have hcz17_2 : w14.cell? ⟨gb620, 2, none⟩ = some (.string (⟨#[]⟩ : ByteArray)) := (blk_cell BK620.out 2).trans rfl; have hcz17_3 : w14.cell? ⟨gb620, 3, none⟩ = some (.string (⟨#[]⟩ : ByteArray)) := (blk_cell BK620.out 3).trans rfl; have hcz17_4 : w14.cell? ⟨gb620, 4, none⟩ = some (.string (⟨#[]⟩ : ByteArray)) := (blk_cell BK620.out 4).trans rfl; have hcz17_5 : w14.cell? ⟨gb620, 5, none⟩ = some (.string (⟨#[]⟩ : ByteArray)) := (blk_cell BK620.out 5).trans rfl; have hfz17_0 := blk_frozen BK620.out 0; have hfz17_1 := blk_frozen BK620.out 1; have hfz17_2 := blk_frozen BK620.out 2; have hfz17_3 := blk_frozen BK620.out 3; have hfz17_4 := blk_frozen BK620.out 4; have hfz17_5 := blk_frozen BK620.out 5; have p621 : 0 ≤ (x4_1 : Int) := of_decide_eq_true (by first | (with_reducible assumption) | assumption); have q621 : x4_1 < (l0.length : Int) := of_decide_eq_true (by first | (with_reducible assumption) | assumption); obtain ⟨ad621, e621, hx621_0⟩ := Kd.at_int HR0.out x4_1 p621 q621; obtain rfl : ad613 = ad621 := (by injection e621); have hn621_0 : ad613.block ≠ gb620 := Nat.ne_of_lt (Nat.lt_of_lt_of_le (by have := World.block_lt_of_cell? _ _ hx621_0; first | rwa [add_block] at this | exact this) GW620.out); have hn621_1 : ad613.block ≠ gb620 := Nat.ne_of_lt (Nat.lt_of_lt_of_le (by have := World.block_lt_of_cell? _ _ hx621_0; first | rwa [add_block] at this | exact this) GW620.out); have hn621_2 : ad613.block ≠ gb620 := Nat.ne_of_lt (Nat.lt_of_lt_of_le (by have := World.block_lt_of_cell? _ _ hx621_0; first | rwa [add_block] at this | exact this) GW620.out); have hn621_3 : ad613.block ≠ gb620 := Nat.ne_of_lt (Nat.lt_of_lt_of_le (by have := World.block_lt_of_cell? _ _ hx621_0; first | rwa [add_block] at this | exact this) GW620.out); have hn621_4 : ad613.block ≠ gb620 := Nat.ne_of_lt (Nat.lt_of_lt_of_le (by have := World.block_lt_of_cell? _ _ hx621_0; first | rwa [add_block] at this | exact this) GW620.out); have hn621_5 : ad613.block ≠ gb620 := Nat.ne_of_lt (Nat.lt_of_lt_of_le (by have := World.block_lt_of_cell? _ _ hx621_0; first | rwa [add_block] at this | exact this) GW620.out); replace hx621_0 := (HB.out.cell (World.block_lt_of_cell? w _ hx621_0)).trans hx621_0; replace hx621_0 := (cell_far (p := ⟨gb620, 0, none⟩) (by first | (rw [add_block]; exact hn621_0) | (show (Addr.add _ _).block ≠ _; rw [add_block]; exact hn621_0) | exact hn621_0) (.string t614)).trans hx621_0; replace hx621_0 := (cell_far (p := ⟨gb620, 1, none⟩) (by first | (rw [add_block]; exact hn621_1) | (show (Addr.add _ _).block ≠ _; rw [add_block]; exact hn621_1) | exact hn621_1) (.string t615)).trans hx621_0; replace hx621_0 := (cell_far (p := ⟨gb620, 2, none⟩) (by first | (rw [add_block]; exact hn621_2) | (show (Addr.add _ _).block ≠ _; rw [add_block]; exact hn621_2) | exact hn621_2) (.string t616)).trans hx621_0; replace hx621_0 := (cell_far (p := ⟨gb620, 3, none⟩) (by first | (rw [add_block]; exact hn621_3) | (show (Addr.add _ _).block ≠ _; rw [add_block]; exact hn621_3) | exact hn621_3) (.string t617)).trans hx621_0; replace hx621_0 := (cell_far (p := ⟨gb620, 4, none⟩) (by first | (rw [add_block]; exact hn621_4) | (show (Addr.add _ _).block ≠ _; rw [add_block]; exact hn621_4) | exact hn621_4) (.string t618)).trans hx621_0; replace hx621_0 := (cell_far (p := ⟨gb620, 5, none⟩) (by first | (rw [add_block]; exact hn621_5) | (show (Addr.add _ _).block ≠ _; rw [add_block]; exact hn621_5) | exact hn621_5) (.string t619)).trans hx621_0; clear hn621_0; clear hn621_1; clear hn621_2; clear hn621_3; clear hn621_4; clear hn621_5; replace p621 := eq_true p621; replace q621 := eq_true q621))
        (try simp only [Act.put, sa_, sz_, ss_])
        go_cut [34] (fun v34 wc => ∃ (kq : Nat) (x34_11 : Bool), v34 = .bool x34_11 ∧ Aside0 (entaillaw4_Batch.j2 kq l0 x4_1 (Go.bits .and .i64 (rd l0 x4_1) 15) x34_11 x613000_1 x613001_1 x613002_1 x613003_1 t614 t615 t616 t617 t618 t619 = some (r1, r2, r3, r4)) ∧ Aside0 (kq ≤ kj5) ∧ Aside0 (Kd.R k41 41 wc w.heap.size (fun k_ => some k_ ≠ (u613001 : Value).ownBlock ∧ some k_ ≠ (u613002 : Value).ownBlock ∧ some k_ ≠ (u613003 : Value).ownBlock ∧ k_ ≠ gb620) u613000 x613000_1) ∧ Aside0 (Kd.R k41 41 wc w.heap.size (fun k_ => some k_ ≠ (u613000 : Value).ownBlock ∧ some k_ ≠ (u613002 : Value).ownBlock ∧ some k_ ≠ (u613003 : Value).ownBlock ∧ k_ ≠ gb620) u613001 x613001_1) ∧ Aside0 (Kd.R k41 41 wc w.heap.size (fun k_ => some k_ ≠ (u613000 : Value).ownBlock ∧ some k_ ≠ (u613001 : Value).ownBlock ∧ some k_ ≠ (u613003 : Value).ownBlock ∧ k_ ≠ gb620) u613002 x613002_1) ∧ Aside0 (Kd.R k41 41 wc w.heap.size (fun k_ => some k_ ≠ (u613000 : Value).ownBlock ∧ some k_ ≠ (u613001 : Value).ownBlock ∧ some k_ ≠ (u613002 : Value).ownBlock ∧ k_ ≠ gb620) u613003 x613003_1) ∧ Aside0 (wc.heap[gb611]? = some (.cells #[(.slice none 0 0), (.slice none 0 0), (.slice none 0 0), (.slice none 0 0)] 54 (0, 0))) ∧ Aside0 (wc.heap[gb612]? = some (.cells #[u613000, u613001, u613002, u613003] 54 (0, 0))) ∧ Aside0 (wc.heap[gb620]? = some (.cells #[.string t614, .string t615, .string t616, .string t617, .string t618, .string t619] 41 (0, 0))) ∧ Aside0 (Below w.heap.size w wc))
        case first =>
         have H := HC12.out
         clear HC12
         by_cases c18 : (Go.bits .and .i64 (rd l0 x4_1) 15) = 0
         ·rw [if_pos c18] at H
          have c18b0 : ((Go.bits .and .i64 (rd l0 x4_1) 15) == 0) = true := beq_iff_eq.mpr c18
          have c18b1 : ((Go.bits .and .i64 (rd l0 x4_1) 15) != 0) = false := bne_eq_false_iff_eq.mpr c18
          clear c18
          (first | rw [c18b0] | (simp only [i64_w, i32_w]; rw [c18b0]) | skip)
          have H' := Aside0.mk H
          clear H
          go_wp2
          go_meet
          case rel => exact ⟨_, (((Go.bits .and .i64 (rd l0 x4_1) 15) == 0)), (by first | rfl | (simp; done) | (simp [*]; done)), H', ⟨by have := HK1.out; have := HJ5.out; first | omega | exact Nat.le_refl _⟩, ⟨by exact far6R HO_613000.out (fun _ hk => hk.2) (fun _ hk => ⟨hk.1.1, ⟨hk.1.2.1, ⟨hk.1.2.2, hk.2⟩⟩⟩) _ _ _ _ _ _⟩, ⟨by exact far6R HO_613001.out (fun _ hk => hk.2) (fun _ hk => ⟨hk.1.1, ⟨hk.1.2.1, ⟨hk.1.2.2, hk.2⟩⟩⟩) _ _ _ _ _ _⟩, ⟨by exact far6R HO_613002.out (fun _ hk => hk.2) (fun _ hk => ⟨hk.1.1, ⟨hk.1.2.1, ⟨hk.1.2.2, hk.2⟩⟩⟩) _ _ _ _ _ _⟩, ⟨by exact far6R HO_613003.out (fun _ hk => hk.2) (fun _ hk => ⟨hk.1.1, ⟨hk.1.2.1, ⟨hk.1.2.2, hk.2⟩⟩⟩) _ _ _ _ _ _⟩, ⟨by exact far6B BK611.out NB611_620.out _ _ _ _ _ _⟩, ⟨by exact far6B BK612.out NB612_620.out _ _ _ _ _ _⟩, ⟨by exact put6B BK620.out _ _ _ _ _ _⟩, ⟨by repeat (first | (with_reducible first | exact HB.out | apply below_alloc | apply pw_below_drewN | apply below_drew1 | refine below_set ?_ GE611.out | refine below_set ?_ GE612.out | refine below_set ?_ GE620.out) | exact HB.out)⟩⟩
         ·rw [if_neg c18] at H
          have c18b0 : ((Go.bits .and .i64 (rd l0 x4_1) 15) == 0) = false := beq_eq_false_iff_ne.mpr c18
          have c18b1 : ((Go.bits .and .i64 (rd l0 x4_1) 15) != 0) = true := bne_iff_ne.mpr c18
          (first | rw [c18b0] | (simp only [i64_w, i32_w]; rw [c18b0]) | skip)
          by_cases c19 : (Go.bits .and .i64 (rd l0 x4_1) 15) = 1
          ·rw [if_pos c19] at H
           have c19b0 : ((Go.bits .and .i64 (rd l0 x4_1) 15) == 1) = true := beq_iff_eq.mpr c19
           have c19b1 : ((Go.bits .and .i64 (rd l0 x4_1) 15) != 1) = false := bne_eq_false_iff_eq.mpr c19
           clear c19
           have H' := Aside0.mk H
           clear H
           go_wp2
           go_meet
           case rel => exact ⟨_, (((Go.bits .and .i64 (rd l0 x4_1) 15) == 1)), (by first | rfl | (simp; done) | (simp [*]; done)), H', ⟨by have := HK1.out; have := HJ5.out; first | omega | exact Nat.le_refl _⟩, ⟨by exact far6R HO_613000.out (fun _ hk => hk.2) (fun _ hk => ⟨hk.1.1, ⟨hk.1.2.1, ⟨hk.1.2.2, hk.2⟩⟩⟩) _ _ _ _ _ _⟩, ⟨by exact far6R HO_613001.out (fun _ hk => hk.2) (fun _ hk => ⟨hk.1.1, ⟨hk.1.2.1, ⟨hk.1.2.2, hk.2⟩⟩⟩) _ _ _ _ _ _⟩, ⟨by exact far6R HO_613002.out (fun _ hk => hk.2) (fun _ hk => ⟨hk.1.1, ⟨hk.1.2.1, ⟨hk.1.2.2, hk.2⟩⟩⟩) _ _ _ _ _ _⟩, ⟨by exact far6R HO_613003.out (fun _ hk => hk.2) (fun _ hk => ⟨hk.1.1, ⟨hk.1.2.1, ⟨hk.1.2.2, hk.2⟩⟩⟩) _ _ _ _ _ _⟩, ⟨by exact far6B BK611.out NB611_620.out _ _ _ _ _ _⟩, ⟨by exact far6B BK612.out NB612_620.out _ _ _ _ _ _⟩, ⟨by exact put6B BK620.out _ _ _ _ _ _⟩, ⟨by repeat (first | (with_reducible first | exact HB.out | apply below_alloc | apply pw_below_drewN | apply below_drew1 | refine below_set ?_ GE611.out | refine below_set ?_ GE612.out | refine below_set ?_ GE620.out) | exact HB.out)⟩⟩
          ·rw [if_neg c19] at H
           have c19b0 : ((Go.bits .and .i64 (rd l0 x4_1) 15) == 1) = false := beq_eq_false_iff_ne.mpr c19
           have c19b1 : ((Go.bits .and .i64 (rd l0 x4_1) 15) != 1) = true := bne_iff_ne.mpr c19
           by_cases c20 : (Go.bits .and .i64 (rd l0 x4_1) 15) = 2
           ·rw [if_pos c20] at H
            have c20b0 : ((Go.bits .and .i64 (rd l0 x4_1) 15) == 2) = true := beq_iff_eq.mpr c20
            have c20b1 : ((Go.bits .and .i64 (rd l0 x4_1) 15) != 2) = false := bne_eq_false_iff_eq.mpr c20
            clear c20
            have H' := Aside0.mk H
            clear H
            go_wp2
            go_meet
            case rel => exact ⟨_, (((Go.bits .and .i64 (rd l0 x4_1) 15) == 2)), (by first | rfl | (simp; done) | (simp [*]; done)), H', ⟨by have := HK1.out; have := HJ5.out; first | omega | exact Nat.le_refl _⟩, ⟨by exact far6R HO_613000.out (fun _ hk => hk.2) (fun _ hk => ⟨hk.1.1, ⟨hk.1.2.1, ⟨hk.1.2.2, hk.2⟩⟩⟩) _ _ _ _ _ _⟩, ⟨by exact far6R HO_613001.out (fun _ hk => hk.2) (fun _ hk => ⟨hk.1.1, ⟨hk.1.2.1, ⟨hk.1.2.2, hk.2⟩⟩⟩) _ _ _ _ _ _⟩, ⟨by exact far6R HO_613002.out (fun _ hk => hk.2) (fun _ hk => ⟨hk.1.1, ⟨hk.1.2.1, ⟨hk.1.2.2, hk.2⟩⟩⟩) _ _ _ _ _ _⟩, ⟨by exact far6R HO_613003.out (fun _ hk => hk.2) (fun _ hk => ⟨hk.1.1, ⟨hk.1.2.1, ⟨hk.1.2.2, hk.2⟩⟩⟩) _ _ _ _ _ _⟩, ⟨by exact far6B BK611.out NB611_620.out _ _ _ _ _ _⟩, ⟨by exact far6B BK612.out NB612_620.out _ _ _ _ _ _⟩, ⟨by exact put6B BK620.out _ _ _ _ _ _⟩, ⟨by repeat (first | (with_reducible first | exact HB.out | apply below_alloc | apply pw_below_drewN | apply below_drew1 | refine below_set ?_ GE611.out | refine below_set ?_ GE612.out | refine below_set ?_ GE620.out) | exact HB.out)⟩⟩
           ·rw [if_neg c20] at H
            have c20b0 : ((Go.bits .and .i64 (rd l0 x4_1) 15) == 2) = false := beq_eq_false_iff_ne.mpr c20
            have c20b1 : ((Go.bits .and .i64 (rd l0 x4_1) 15) != 2) = true := bne_iff_ne.mpr c20
            by_cases c21 : (Go.bits .and .i64 (rd l0 x4_1) 15) = 3
            ·rw [if_pos c21] at H
             have c21b0 : ((Go.bits .and .i64 (rd l0 x4_1) 15) == 3) = true := beq_iff_eq.mpr c21
             have c21b1 : ((Go.bits .and .i64 (rd l0 x4_1) 15) != 3) = false := bne_eq_false_iff_eq.mpr c21
             clear c21
             have H' := Aside0.mk H
             clear H
             go_wp2
             go_meet
             case rel => exact ⟨_, (((Go.bits .and .i64 (rd l0 x4_1) 15) == 3)), (by first | rfl | (simp; done) | (simp [*]; done)), H', ⟨by have := HK1.out; have := HJ5.out; first | omega | exact Nat.le_refl _⟩, ⟨by exact far6R HO_613000.out (fun _ hk => hk.2) (fun _ hk => ⟨hk.1.1, ⟨hk.1.2.1, ⟨hk.1.2.2, hk.2⟩⟩⟩) _ _ _ _ _ _⟩, ⟨by exact far6R HO_613001.out (fun _ hk => hk.2) (fun _ hk => ⟨hk.1.1, ⟨hk.1.2.1, ⟨hk.1.2.2, hk.2⟩⟩⟩) _ _ _ _ _ _⟩, ⟨by exact far6R HO_613002.out (fun _ hk => hk.2) (fun _ hk => ⟨hk.1.1, ⟨hk.1.2.1, ⟨hk.1.2.2, hk.2⟩⟩⟩) _ _ _ _ _ _⟩, ⟨by exact far6R HO_613003.out (fun _ hk => hk.2) (fun _ hk => ⟨hk.1.1, ⟨hk.1.2.1, ⟨hk.1.2.2, hk.2⟩⟩⟩) _ _ _ _ _ _⟩, ⟨by exact far6B BK611.out NB611_620.out _ _ _ _ _ _⟩, ⟨by exact far6B BK612.out NB612_620.out _ _ _ _ _ _⟩, ⟨by exact put6B BK620.out _ _ _ _ _ _⟩, ⟨by repeat (first | (with_reducible first | exact HB.out | apply below_alloc | apply pw_below_drewN | apply below_drew1 | refine below_set ?_ GE611.out | refine below_set ?_ GE612.out | refine below_set ?_ GE620.out) | exact HB.out)⟩⟩
            ·rw [if_neg c21] at H
             have c21b0 : ((Go.bits .and .i64 (rd l0 x4_1) 15) == 3) = false := beq_eq_false_iff_ne.mpr c21
             have c21b1 : ((Go.bits .and .i64 (rd l0 x4_1) 15) != 3) = true := bne_iff_ne.mpr c21
             by_cases c22 : (Go.bits .and .i64 (rd l0 x4_1) 15) = 4
             ·rw [if_pos c22] at H
              have c22b0 : ((Go.bits .and .i64 (rd l0 x4_1) 15) == 4) = true := beq_iff_eq.mpr c22
              have c22b1 : ((Go.bits .and .i64 (rd l0 x4_1) 15) != 4) = false := bne_eq_false_iff_eq.mpr c22
              clear c22
              have H' := Aside0.mk H
              clear H
              go_wp2
              go_meet
              case rel => exact ⟨_, (((Go.bits .and .i64 (rd l0 x4_1) 15) == 4)), (by first | rfl | (simp; done) | (simp [*]; done)), H', ⟨by have := HK1.out; have := HJ5.out; first | omega | exact Nat.le_refl _⟩, ⟨by exact far6R HO_613000.out (fun _ hk => hk.2) (fun _ hk => ⟨hk.1.1, ⟨hk.1.2.1, ⟨hk.1.2.2, hk.2⟩⟩⟩) _ _ _ _ _ _⟩, ⟨by exact far6R HO_613001.out (fun _ hk => hk.2) (fun _ hk => ⟨hk.1.1, ⟨hk.1.2.1, ⟨hk.1.2.2, hk.2⟩⟩⟩) _ _ _ _ _ _⟩, ⟨by exact far6R HO_613002.out (fun _ hk => hk.2) (fun _ hk => ⟨hk.1.1, ⟨hk.1.2.1, ⟨hk.1.2.2, hk.2⟩⟩⟩) _ _ _ _ _ _⟩, ⟨by exact far6R HO_613003.out (fun _ hk => hk.2) (fun _ hk => ⟨hk.1.1, ⟨hk.1.2.1, ⟨hk.1.2.2, hk.2⟩⟩⟩) _ _ _ _ _ _⟩, ⟨by exact far6B BK611.out NB611_620.out _ _ _ _ _ _⟩, ⟨by exact far6B BK612.out NB612_620.out _ _ _ _ _ _⟩, ⟨by exact put6B BK620.out _ _ _ _ _ _⟩, ⟨by repeat (first | (with_reducible first | exact HB.out | apply below_alloc | apply pw_below_drewN | apply below_drew1 | refine below_set ?_ GE611.out | refine below_set ?_ GE612.out | refine below_set ?_ GE620.out) | exact HB.out)⟩⟩
             ·rw [if_neg c22] at H
              have c22b0 : ((Go.bits .and .i64 (rd l0 x4_1) 15) == 4) = false := beq_eq_false_iff_ne.mpr c22
              have c22b1 : ((Go.bits .and .i64 (rd l0 x4_1) 15) != 4) = true := bne_iff_ne.mpr c22
              by_cases c23 : (Go.bits .and .i64 (rd l0 x4_1) 15) = 5
              ·rw [if_pos c23] at H
               have c23b0 : ((Go.bits .and .i64 (rd l0 x4_1) 15) == 5) = true := beq_iff_eq.mpr c23
               have c23b1 : ((Go.bits .and .i64 (rd l0 x4_1) 15) != 5) = false := bne_eq_false_iff_eq.mpr c23
               clear c23
               have H' := Aside0.mk H
               clear H
               go_wp2
               go_meet
               case rel => exact ⟨_, (((Go.bits .and .i64 (rd l0 x4_1) 15) == 5)), (by first | rfl | (simp; done) | (simp [*]; done)), H', ⟨by have := HK1.out; have := HJ5.out; first | omega | exact Nat.le_refl _⟩, ⟨by exact far6R HO_613000.out (fun _ hk => hk.2) (fun _ hk => ⟨hk.1.1, ⟨hk.1.2.1, ⟨hk.1.2.2, hk.2⟩⟩⟩) _ _ _ _ _ _⟩, ⟨by exact far6R HO_613001.out (fun _ hk => hk.2) (fun _ hk => ⟨hk.1.1, ⟨hk.1.2.1, ⟨hk.1.2.2, hk.2⟩⟩⟩) _ _ _ _ _ _⟩, ⟨by exact far6R HO_613002.out (fun _ hk => hk.2) (fun _ hk => ⟨hk.1.1, ⟨hk.1.2.1, ⟨hk.1.2.2, hk.2⟩⟩⟩) _ _ _ _ _ _⟩, ⟨by exact far6R HO_613003.out (fun _ hk => hk.2) (fun _ hk => ⟨hk.1.1, ⟨hk.1.2.1, ⟨hk.1.2.2, hk.2⟩⟩⟩) _ _ _ _ _ _⟩, ⟨by exact far6B BK611.out NB611_620.out _ _ _ _ _ _⟩, ⟨by exact far6B BK612.out NB612_620.out _ _ _ _ _ _⟩, ⟨by exact put6B BK620.out _ _ _ _ _ _⟩, ⟨by repeat (first | (with_reducible first | exact HB.out | apply below_alloc | apply pw_below_drewN | apply below_drew1 | refine below_set ?_ GE611.out | refine below_set ?_ GE612.out | refine below_set ?_ GE620.out) | exact HB.out)⟩⟩
              ·rw [if_neg c23] at H
               have c23b0 : ((Go.bits .and .i64 (rd l0 x4_1) 15) == 5) = false := beq_eq_false_iff_ne.mpr c23
               have c23b1 : ((Go.bits .and .i64 (rd l0 x4_1) 15) != 5) = true := bne_iff_ne.mpr c23
               by_cases c24 : (Go.bits .and .i64 (rd l0 x4_1) 15) = 6
               ·rw [if_pos c24] at H
                have c24b0 : ((Go.bits .and .i64 (rd l0 x4_1) 15) == 6) = true := beq_iff_eq.mpr c24
                have c24b1 : ((Go.bits .and .i64 (rd l0 x4_1) 15) != 6) = false := bne_eq_false_iff_eq.mpr c24
                clear c24
                have H' := Aside0.mk H
                clear H
                go_wp2
                go_meet
                case rel => exact ⟨_, (((Go.bits .and .i64 (rd l0 x4_1) 15) == 6)), (by first | rfl | (simp; done) | (simp [*]; done)), H', ⟨by have := HK1.out; have := HJ5.out; first | omega | exact Nat.le_refl _⟩, ⟨by exact far6R HO_613000.out (fun _ hk => hk.2) (fun _ hk => ⟨hk.1.1, ⟨hk.1.2.1, ⟨hk.1.2.2, hk.2⟩⟩⟩) _ _ _ _ _ _⟩, ⟨by exact far6R HO_613001.out (fun _ hk => hk.2) (fun _ hk => ⟨hk.1.1, ⟨hk.1.2.1, ⟨hk.1.2.2, hk.2⟩⟩⟩) _ _ _ _ _ _⟩, ⟨by exact far6R HO_613002.out (fun _ hk => hk.2) (fun _ hk => ⟨hk.1.1, ⟨hk.1.2.1, ⟨hk.1.2.2, hk.2⟩⟩⟩) _ _ _ _ _ _⟩, ⟨by exact far6R HO_613003.out (fun _ hk => hk.2) (fun _ hk => ⟨hk.1.1, ⟨hk.1.2.1, ⟨hk.1.2.2, hk.2⟩⟩⟩) _ _ _ _ _ _⟩, ⟨by exact far6B BK611.out NB611_620.out _ _ _ _ _ _⟩, ⟨by exact far6B BK612.out NB612_620.out _ _ _ _ _ _⟩, ⟨by exact put6B BK620.out _ _ _ _ _ _⟩, ⟨by repeat (first | (with_reducible first | exact HB.out | apply below_alloc | apply pw_below_drewN | apply below_drew1 | refine below_set ?_ GE611.out | refine below_set ?_ GE612.out | refine below_set ?_ GE620.out) | exact HB.out)⟩⟩
               ·rw [if_neg c24] at H
                have c24b0 : ((Go.bits .and .i64 (rd l0 x4_1) 15) == 6) = false := beq_eq_false_iff_ne.mpr c24
                have c24b1 : ((Go.bits .and .i64 (rd l0 x4_1) 15) != 6) = true := bne_iff_ne.mpr c24
                by_cases c25 : (Go.bits .and .i64 (rd l0 x4_1) 15) = 7
                ·rw [if_pos c25] at H
                 have c25b0 : ((Go.bits .and .i64 (rd l0 x4_1) 15) == 7) = true := beq_iff_eq.mpr c25
                 have c25b1 : ((Go.bits .and .i64 (rd l0 x4_1) 15) != 7) = false := bne_eq_false_iff_eq.mpr c25
                 clear c25
                 have H' := Aside0.mk H
                 clear H
                 go_wp2
                 go_meet
                 case rel => exact ⟨_, (((Go.bits .and .i64 (rd l0 x4_1) 15) == 7)), (by first | rfl | (simp; done) | (simp [*]; done)), H', ⟨by have := HK1.out; have := HJ5.out; first | omega | exact Nat.le_refl _⟩, ⟨by exact far6R HO_613000.out (fun _ hk => hk.2) (fun _ hk => ⟨hk.1.1, ⟨hk.1.2.1, ⟨hk.1.2.2, hk.2⟩⟩⟩) _ _ _ _ _ _⟩, ⟨by exact far6R HO_613001.out (fun _ hk => hk.2) (fun _ hk => ⟨hk.1.1, ⟨hk.1.2.1, ⟨hk.1.2.2, hk.2⟩⟩⟩) _ _ _ _ _ _⟩, ⟨by exact far6R HO_613002.out (fun _ hk => hk.2) (fun _ hk => ⟨hk.1.1, ⟨hk.1.2.1, ⟨hk.1.2.2, hk.2⟩⟩⟩) _ _ _ _ _ _⟩, ⟨by exact far6R HO_613003.out (fun _ hk => hk.2) (fun _ hk => ⟨hk.1.1, ⟨hk.1.2.1, ⟨hk.1.2.2, hk.2⟩⟩⟩) _ _ _ _ _ _⟩, ⟨by exact far6B BK611.out NB611_620.out _ _ _ _ _ _⟩, ⟨by exact far6B BK612.out NB612_620.out _ _ _ _ _ _⟩, ⟨by exact put6B BK620.out _ _ _ _ _ _⟩, ⟨by repeat (first | (with_reducible first | exact HB.out | apply below_alloc | apply pw_below_drewN | apply below_drew1 | refine below_set ?_ GE611.out | refine below_set ?_ GE612.out | refine below_set ?_ GE620.out) | exact HB.out)⟩⟩
                ·rw [if_neg c25] at H
                 have c25b0 : ((Go.bits .and .i64 (rd l0 x4_1) 15) == 7) = false := beq_eq_false_iff_ne.mpr c25
                 have c25b1 : ((Go.bits .and .i64 (rd l0 x4_1) 15) != 7) = true := bne_iff_ne.mpr c25
                 have H' := Aside0.mk H
                 clear H
                 go_wp2
                 go_meet
                 case rel => exact ⟨_, (((Go.bits .and .i64 (rd l0 x4_1) 15) == 8)), (by first | rfl | (simp; done) | (simp [*]; done)), H', ⟨by have := HK1.out; have := HJ5.out; first | omega | exact Nat.le_refl _⟩, ⟨by exact far6R HO_613000.out (fun _ hk => hk.2) (fun _ hk => ⟨hk.1.1, ⟨hk.1.2.1, ⟨hk.1.2.2, hk.2⟩⟩⟩) _ _ _ _ _ _⟩, ⟨by exact far6R HO_613001.out (fun _ hk => hk.2) (fun _ hk => ⟨hk.1.1, ⟨hk.1.2.1, ⟨hk.1.2.2, hk.2⟩⟩⟩) _ _ _ _ _ _⟩, ⟨by exact far6R HO_613002.out (fun _ hk => hk.2) (fun _ hk => ⟨hk.1.1, ⟨hk.1.2.1, ⟨hk.1.2.2, hk.2⟩⟩⟩) _ _ _ _ _ _⟩, ⟨by exact far6R HO_613003.out (fun _ hk => hk.2) (fun _ hk => ⟨hk.1.1, ⟨hk.1.2.1, ⟨hk.1.2.2, hk.2⟩⟩⟩) _ _ _ _ _ _⟩, ⟨by exact far6B BK611.out NB611_620.out _ _ _ _ _ _⟩, ⟨by exact far6B BK612.out NB612_620.out _ _ _ _ _ _⟩, ⟨by exact put6B BK620.out _ _ _ _ _ _⟩, ⟨by repeat (first | (with_reducible first | exact HB.out | apply below_alloc | apply pw_below_drewN | apply below_drew1 | refine below_set ?_ GE611.out | refine below_set ?_ GE612.out | refine below_set ?_ GE620.out) | exact HB.out)⟩⟩
        case rest =>
         clear HC12
         try clear c1
         try clear c2
         try clear p2
         try clear c3
         try clear c4
         try clear p6
         try clear q6
         try clear hx6
         try clear c7
         try clear c7b0
         try clear c8
         try clear c9
         try clear c9b0
         try clear c10
         try clear c10b0
         try clear c15
         try clear c16
         try clear c18
         try clear c18b0
         try clear c18b1
         try clear c19
         try clear c19b0
         try clear c19b1
         try clear c20
         try clear c20b0
         try clear c20b1
         try clear c21
         try clear c21b0
         try clear c21b1
         try clear c22
         try clear c22b0
         try clear c22b1
         try clear c23
         try clear c23b0
         try clear c23b1
         try clear c24
         try clear c24b0
         try clear c24b1
         try clear c25
         try clear c25b0
         try clear c25b1
         try clear hcz17_0
         try clear hcz17_1
         try clear hcz17_2
         try clear hcz17_3
         try clear hcz17_4
         try clear hcz17_5
         try clear hcz5_0
         try clear hcz5_1
         try clear hcz5_2
         try clear hcz5_3
         try clear hfz17_0
         try clear hfz17_1
         try clear hfz17_2
         try clear hfz17_3
         try clear hfz17_4
         try clear hfz17_5
         try clear hfz5_0
         try clear hfz5_1
         try clear hfz5_2
         try clear hfz5_3
         try clear hx613_0
         try clear hx621_0
         try clear p2
         try clear p613
         try clear p621
         try clear q613
         try clear q621
         obtain ⟨kq, x34_11, rfl, HA, HJ11, HO_613000, HO_613001, HO_613002, HO_613003, BK611, BK612, BK620, HB⟩ := hcut
         cases kq with
         | zero => exact absurd HA.out (by simp [entaillaw4_Batch.j2])
         | succ kj11 =>
          have H := HA.out
          clear HA
          simp only [entaillaw4_Batch.j2] at H
          by_cases c26 : x34_11 = true
          ·subst c26
           have H1 : (if x613000_1.length < 1466015503701 then (entaillaw4_Batch.l0 kj11 l0 (wrap64 (x4_1 + 1)) (x613000_1 ++ [(⟨(⟨t614, t615⟩ : S37), t616, (⟨t617, t618, t619⟩ : S39)⟩ : S41)]) x613001_1 x613002_1 x613003_1) else (none)) = some (r1, r2, r3, r4) := by rw [if_pos rfl] at H; exact H
           clear H
           have H := H1
           clear H1
           by_cases c27 : x613000_1.length < 1466015503701
           ·rw [if_pos c27] at H
            have LMc27 := Aside0.mk c27
            clear c27
            obtain ⟨y622, hy622⟩ : ∃ y_ : List (S41), y_ = (x613000_1 ++ [(⟨(⟨t614, t615⟩ : S37), t616, (⟨t617, t618, t619⟩ : S39)⟩ : S41)]) := ⟨_, rfl⟩
            replace H : (entaillaw4_Batch.l0 kj11 l0 (wrap64 (x4_1 + 1)) y622 x613001_1 x613002_1 x613003_1) = some (r1, r2, r3, r4) := by first | (rw [hy622]; with_reducible exact H) | (have H2_ := (Option.bind_some _ _).symm.trans H; rw [hy622]; with_reducible exact H2_) | (have H2_ := (Option.bind_some _ _).symm.trans H; with_reducible exact H2_) | with_reducible exact H | (rw [hy622]; exact H) | exact H
            have Ny622 := Aside0.mk hy622
            clear hy622
            have H' := Aside0.mk H
            clear H
            have hnb28 := NB612_611.out
            have hnc28 := NB611_612.out
            have hnb29 := NB612_620.out
            have hnc29 := NB620_612.out
            have hcz30_0 : wc.cell? ⟨gb612, 0, none⟩ = some (u613000) := (blk_cell BK612.out 0).trans rfl
            have hcz30_1 : wc.cell? ⟨gb612, 1, none⟩ = some (u613001) := (blk_cell BK612.out 1).trans rfl
            have hcz30_2 : wc.cell? ⟨gb612, 2, none⟩ = some (u613002) := (blk_cell BK612.out 2).trans rfl
            have hcz30_3 : wc.cell? ⟨gb612, 3, none⟩ = some (u613003) := (blk_cell BK612.out 3).trans rfl
            have hfz30_0 := blk_frozen BK612.out 0
            have hfz30_1 := blk_frozen BK612.out 1
            have hfz30_2 := blk_frozen BK612.out 2
            have hfz30_3 := blk_frozen BK612.out 3
            have hnb31 := NB620_611.out
            have hnc31 := NB611_620.out
            have hcz32_0 : wc.cell? ⟨gb620, 0, none⟩ = some (.string t614) := (blk_cell BK620.out 0).trans rfl
            have hcz32_1 : wc.cell? ⟨gb620, 1, none⟩ = some (.string t615) := (blk_cell BK620.out 1).trans rfl
            have hcz32_2 : wc.cell? ⟨gb620, 2, none⟩ = some (.string t616) := (blk_cell BK620.out 2).trans rfl
            have hcz32_3 : wc.cell? ⟨gb620, 3, none⟩ = some (.string t617) := (blk_cell BK620.out 3).trans rfl
            have hcz32_4 : wc.cell? ⟨gb620, 4, none⟩ = some (.string t618) := (blk_cell BK620.out 4).trans rfl
            have hcz32_5 : wc.cell? ⟨gb620, 5, none⟩ = some (.string t619) := (blk_cell BK620.out 5).trans rfl
            have hfz32_0 := blk_frozen BK620.out 0
            have hfz32_1 := blk_frozen BK620.out 1
            have hfz32_2 := blk_frozen BK620.out 2
            have hfz32_3 := blk_frozen BK620.out 3
            have hfz32_4 := blk_frozen BK620.out 4
            have hfz32_5 := blk_frozen BK620.out 5
            go_wp2_with (first | ((with_reducible refine gate_builtin (b := .append) (xs := #[.tmp 45, .tmp 47]) rfl ?_); at_builtin; refine Kd.R_append k41 (w0 := w) w.heap.size rfl (.tmp 45) (.tmp 47) 23 41 (.agg #[(.string ⟨#[]⟩), (.string ⟨#[]⟩), (.string ⟨#[]⟩), (.string ⟨#[]⟩), (.string ⟨#[]⟩), (.string ⟨#[]⟩)]) 96 rfl Try.underlying23 info41 rfl (by decide) (by omega) u613000 x613000_1 (⟨(⟨t614, t615⟩ : S37), t616, (⟨t617, t618, t619⟩ : S39)⟩ : S41) [.string t614, .string t615, .string t616, .string t617, .string t618, .string t619] (fun k_ => some k_ ≠ (u613001 : Value).ownBlock ∧ some k_ ≠ (u613002 : Value).ownBlock ∧ some k_ ≠ (u613003 : Value).ownBlock ∧ k_ ≠ gb620) (fun _ => False) rfl rfl ?aP (fun _ hk => hk.elim) ?aF ?aO ?aB ?aS ?aL ?_; (case aP => exact k41_mkM _ _ _ (⟨(⟨t614, t615⟩ : S37), t616, (⟨t617, t618, t619⟩ : S39)⟩ : S41)); (case aB => exact (by repeat (first | (with_reducible first | exact HB.out | apply below_alloc | apply pw_below_drewN | apply below_drew1 | refine below_set ?_ GE611.out | refine below_set ?_ GE612.out | refine below_set ?_ GE620.out) | exact HB.out))); (case aF => exact (fun k_ hk => ⟨Kd.fresh' (Kd.R_lt (by (with_reducible repeat (first | apply Kd.R_alloc | apply Kd.R_drewN | apply Kd.R_drew)); exact HO_613001.out)) k_ hk, Kd.fresh' (Kd.R_lt (by (with_reducible repeat (first | apply Kd.R_alloc | apply Kd.R_drewN | apply Kd.R_drew)); exact HO_613002.out)) k_ hk, Kd.fresh' (Kd.R_lt (by (with_reducible repeat (first | apply Kd.R_alloc | apply Kd.R_drewN | apply Kd.R_drew)); exact HO_613003.out)) k_ hk, Kd.freshB (g := gb620) (o := .cells #[.string t614, .string t615, .string t616, .string t617, .string t618, .string t619] 41 (0, 0)) (by (with_reducible repeat (first | refine blk_drewN ?_ _ | refine blk_drew ?_ | refine blk_alloc ?_ _)); exact BK620.out) k_ hk⟩)); (case aO => exact (by (with_reducible repeat (first | apply Kd.R_alloc | apply Kd.R_drewN | apply Kd.R_drew)); exact HO_613000.out)); (case aS => exact (below_size (by repeat (first | (with_reducible first | exact HB.out | apply below_alloc | apply pw_below_drewN | apply below_drew1 | refine below_set ?_ GE611.out | refine below_set ?_ GE612.out | refine below_set ?_ GE620.out) | exact HB.out)))); (case aL => have := LMc27.out; omega); intro v623 w33 ho hb hg hat; rw [← Ny622.out] at ho; have n0_ := Aside0.mk (Kd.R_after (ok := (fun k_ => some k_ ≠ (u613002 : Value).ownBlock ∧ some k_ ≠ (u613003 : Value).ownBlock ∧ k_ ≠ gb620)) (by (with_reducible repeat (first | apply Kd.R_alloc | apply Kd.R_drewN | apply Kd.R_drew)); exact Kd.R_mono HO_613001.out (fun _ hk => ⟨⟨hk.2.1, ⟨hk.2.2.1, hk.2.2.2⟩⟩, hk.1⟩)) hg hat); have n1_ := Aside0.mk (Kd.R_after (ok := (fun k_ => some k_ ≠ (u613001 : Value).ownBlock ∧ some k_ ≠ (u613003 : Value).ownBlock ∧ k_ ≠ gb620)) (by (with_reducible repeat (first | apply Kd.R_alloc | apply Kd.R_drewN | apply Kd.R_drew)); exact Kd.R_mono HO_613002.out (fun _ hk => ⟨⟨hk.2.1, ⟨hk.2.2.1, hk.2.2.2⟩⟩, hk.1⟩)) hg hat); have n2_ := Aside0.mk (Kd.R_after (ok := (fun k_ => some k_ ≠ (u613001 : Value).ownBlock ∧ some k_ ≠ (u613002 : Value).ownBlock ∧ k_ ≠ gb620)) (by (with_reducible repeat (first | apply Kd.R_alloc | apply Kd.R_drewN | apply Kd.R_drew)); exact Kd.R_mono HO_613003.out (fun _ hk => ⟨⟨hk.2.1, ⟨hk.2.2.1, hk.2.2.2⟩⟩, hk.1⟩)) hg hat); have n3_ := Aside0.mk (blk_grown (g := gb611) (o := .cells #[.slice none 0 0, .slice none 0 0, .slice none 0 0, .slice none 0 0] 54 (0, 0)) (by (with_reducible repeat (first | refine blk_drewN ?_ _ | refine blk_drew ?_ | refine blk_alloc ?_ _)); exact BK611.out) hg (Kd.R_ne HO_613000.out BK611.out (by decide))); have n4_ := Aside0.mk (blk_grown (g := gb612) (o := .cells #[u613000, u613001, u613002, u613003] 54 (0, 0)) (by (with_reducible repeat (first | refine blk_drewN ?_ _ | refine blk_drew ?_ | refine blk_alloc ?_ _)); exact BK612.out) hg (Kd.R_ne HO_613000.out BK612.out (by decide))); have n5_ := Aside0.mk (blk_grown (g := gb620) (o := .cells #[.string t614, .string t615, .string t616, .string t617, .string t618, .string t619] 41 (0, 0)) (by (with_reducible repeat (first | refine blk_drewN ?_ _ | refine blk_drew ?_ | refine blk_alloc ?_ _)); exact BK620.out) hg (Kd.R_away HO_613000.out (fun _ hk => hk.2.2.2))); have n6_ := Aside0.mk (hb); have n7_ := Aside0.mk (ho); clear HO_613001; clear HO_613002; clear HO_613003; clear BK611; clear BK612; clear BK620; clear HB; clear HO_613000; have HO_613001 := n0_; have HO_613002 := n1_; have HO_613003 := n2_; have BK611 := n3_; have BK612 := n4_; have BK620 := n5_; have HB := n6_; have HO624 := n7_; clear n0_ n1_ n2_ n3_ n4_ n5_ n6_ n7_; clear ho hb hg hat; obtain ⟨Ao34, co34, eo34⟩ := Kd.R_slice HO624.out; subst eo34; have hcz35_0 : w33.cell? ⟨gb612, 0, none⟩ = some (u613000) := (blk_cell BK612.out 0).trans rfl; have hcz35_1 : w33.cell? ⟨gb612, 1, none⟩ = some (u613001) := (blk_cell BK612.out 1).trans rfl; have hcz35_2 : w33.cell? ⟨gb612, 2, none⟩ = some (u613002) := (blk_cell BK612.out 2).trans rfl; have hcz35_3 : w33.cell? ⟨gb612, 3, none⟩ = some (u613003) := (blk_cell BK612.out 3).trans rfl; have hfz35_0 := blk_frozen BK612.out 0; have hfz35_1 := blk_frozen BK612.out 1; have hfz35_2 := blk_frozen BK612.out 2; have hfz35_3 := blk_frozen BK612.out 3))
            go_roundg kj11
            case measure => have := HK1.out; have := HJ5.out; have := HJ11.out; omega
            case rel => exact ⟨(wrap64 (x4_1 + 1)), (y622), (x613001_1), (x613002_1), (x613003_1), (.slice Ao34 y622.length co34), (u613001), (u613002), (u613003), (by first | rfl | (simp; done) | (simp [*]; done)), H', ⟨by have := HK1.out; have := HJ5.out; have := HJ11.out; omega⟩, ⟨by (with_reducible repeat (first | apply Kd.R_alloc | apply Kd.R_drewN | apply Kd.R_drew)); exact Kd.R_mono (Kd.R_far (p := ⟨gb612, 0, none⟩) (Kd.R_types HO624.out BK612.out (by decide)) (fun _ hk => hk.2) (.slice Ao34 y622.length co34)) (fun _ hk => ⟨hk.1.1, ⟨hk.1.2.1, hk.1.2.2.1⟩⟩)⟩, ⟨by (with_reducible repeat (first | apply Kd.R_alloc | apply Kd.R_drewN | apply Kd.R_drew)); exact Kd.R_mono (Kd.R_far (p := ⟨gb612, 0, none⟩) (Kd.R_types HO_613001.out BK612.out (by decide)) (fun _ hk => hk.2) (.slice Ao34 y622.length co34)) (fun _ hk => ⟨hk.1.2, ⟨hk.1.1.1, hk.1.1.2.1⟩⟩)⟩, ⟨by (with_reducible repeat (first | apply Kd.R_alloc | apply Kd.R_drewN | apply Kd.R_drew)); exact Kd.R_mono (Kd.R_far (p := ⟨gb612, 0, none⟩) (Kd.R_types HO_613002.out BK612.out (by decide)) (fun _ hk => hk.2) (.slice Ao34 y622.length co34)) (fun _ hk => ⟨hk.1.2, ⟨hk.1.1.1, hk.1.1.2.1⟩⟩)⟩, ⟨by (with_reducible repeat (first | apply Kd.R_alloc | apply Kd.R_drewN | apply Kd.R_drew)); exact Kd.R_mono (Kd.R_far (p := ⟨gb612, 0, none⟩) (Kd.R_types HO_613003.out BK612.out (by decide)) (fun _ hk => hk.2) (.slice Ao34 y622.length co34)) (fun _ hk => ⟨hk.1.2, ⟨hk.1.1.1, hk.1.1.2.1⟩⟩)⟩, ⟨by (with_reducible repeat (first | refine blk_drewN ?_ _ | refine blk_drew ?_ | refine blk_alloc ?_ _)); refine blk_far ?_ NB611_612.out _; (with_reducible repeat (first | refine blk_drewN ?_ _ | refine blk_drew ?_ | refine blk_alloc ?_ _)); exact BK611.out⟩, ⟨by (with_reducible repeat (first | refine blk_drewN ?_ _ | refine blk_drew ?_ | refine blk_alloc ?_ _)); refine blk_put (cs := #[u613000, u613001, u613002, u613003]) ?_ 0 _ rfl; (with_reducible repeat (first | refine blk_drewN ?_ _ | refine blk_drew ?_ | refine blk_alloc ?_ _)); exact BK612.out⟩, ⟨by repeat (first | (with_reducible first | exact HB.out | apply below_alloc | apply pw_below_drewN | apply below_drew1 | refine below_set ?_ GE611.out | refine below_set ?_ GE612.out | refine below_set ?_ GE620.out) | exact HB.out)⟩⟩
           ·rw [if_neg c27] at H
            exact absurd H (by simp)
          ·replace c26 := Bool.eq_false_iff.mpr c26
           subst c26
           have H1 : (if (Go.bits .and .i64 (rd l0 x4_1) 15) = 9 then (entaillaw4_Batch.j3 kj11 l0 x4_1 (Go.bits .and .i64 (rd l0 x4_1) 15) ((Go.bits .and .i64 (rd l0 x4_1) 15) == 9) x613000_1 x613001_1 x613002_1 x613003_1 t614 t615 t616 t617 t618 t619) else (if (Go.bits .and .i64 (rd l0 x4_1) 15) = 10 then (entaillaw4_Batch.j3 kj11 l0 x4_1 (Go.bits .and .i64 (rd l0 x4_1) 15) ((Go.bits .and .i64 (rd l0 x4_1) 15) == 10) x613000_1 x613001_1 x613002_1 x613003_1 t614 t615 t616 t617 t618 t619) else (if (Go.bits .and .i64 (rd l0 x4_1) 15) = 11 then (entaillaw4_Batch.j3 kj11 l0 x4_1 (Go.bits .and .i64 (rd l0 x4_1) 15) ((Go.bits .and .i64 (rd l0 x4_1) 15) == 11) x613000_1 x613001_1 x613002_1 x613003_1 t614 t615 t616 t617 t618 t619) else (entaillaw4_Batch.j3 kj11 l0 x4_1 (Go.bits .and .i64 (rd l0 x4_1) 15) ((Go.bits .and .i64 (rd l0 x4_1) 15) == 12) x613000_1 x613001_1 x613002_1 x613003_1 t614 t615 t616 t617 t618 t619)))) = some (r1, r2, r3, r4) := by rw [if_neg (show ¬ (false = true) by decide)] at H; exact H
           clear H
           have H := H1
           clear H1
           have HC36 := Aside0.mk H
           clear H
           go_upto_if 50 with (fail)
           go_cut [50] (fun v50 wc => ∃ (kq : Nat) (x50_35 : Bool), v50 = .bool x50_35 ∧ Aside0 (entaillaw4_Batch.j3 kq l0 x4_1 (Go.bits .and .i64 (rd l0 x4_1) 15) x50_35 x613000_1 x613001_1 x613002_1 x613003_1 t614 t615 t616 t617 t618 t619 = some (r1, r2, r3, r4)) ∧ Aside0 (kq ≤ kj11) ∧ Aside0 (Kd.R k41 41 wc w.heap.size (fun k_ => some k_ ≠ (u613001 : Value).ownBlock ∧ some k_ ≠ (u613002 : Value).ownBlock ∧ some k_ ≠ (u613003 : Value).ownBlock ∧ k_ ≠ gb620) u613000 x613000_1) ∧ Aside0 (Kd.R k41 41 wc w.heap.size (fun k_ => some k_ ≠ (u613000 : Value).ownBlock ∧ some k_ ≠ (u613002 : Value).ownBlock ∧ some k_ ≠ (u613003 : Value).ownBlock ∧ k_ ≠ gb620) u613001 x613001_1) ∧ Aside0 (Kd.R k41 41 wc w.heap.size (fun k_ => some k_ ≠ (u613000 : Value).ownBlock ∧ some k_ ≠ (u613001 : Value).ownBlock ∧ some k_ ≠ (u613003 : Value).ownBlock ∧ k_ ≠ gb620) u613002 x613002_1) ∧ Aside0 (Kd.R k41 41 wc w.heap.size (fun k_ => some k_ ≠ (u613000 : Value).ownBlock ∧ some k_ ≠ (u613001 : Value).ownBlock ∧ some k_ ≠ (u613002 : Value).ownBlock ∧ k_ ≠ gb620) u613003 x613003_1) ∧ Aside0 (wc.heap[gb611]? = some (.cells #[(.slice none 0 0), (.slice none 0 0), (.slice none 0 0), (.slice none 0 0)] 54 (0, 0))) ∧ Aside0 (wc.heap[gb612]? = some (.cells #[u613000, u613001, u613002, u613003] 54 (0, 0))) ∧ Aside0 (wc.heap[gb620]? = some (.cells #[.string t614, .string t615, .string t616, .string t617, .string t618, .string t619] 41 (0, 0))) ∧ Aside0 (Below w.heap.size w wc))
           case first =>
            have H := HC36.out
            clear HC36
            by_cases c37 : (Go.bits .and .i64 (rd l0 x4_1) 15) = 9
            ·rw [if_pos c37] at H
             have c37b0 : ((Go.bits .and .i64 (rd l0 x4_1) 15) == 9) = true := beq_iff_eq.mpr c37
             have c37b1 : ((Go.bits .and .i64 (rd l0 x4_1) 15) != 9) = false := bne_eq_false_iff_eq.mpr c37
             clear c37
             (first | rw [c37b0] | (simp only [i64_w, i32_w]; rw [c37b0]) | skip)
             have H' := Aside0.mk H
             clear H
             go_wp2
             go_meet
             case rel => exact ⟨_, (((Go.bits .and .i64 (rd l0 x4_1) 15) == 9)), (by first | rfl | (simp; done) | (simp [*]; done)), H', ⟨by have := HK1.out; have := HJ5.out; have := HJ11.out; first | omega | exact Nat.le_refl _⟩, ⟨by (with_reducible repeat (first | apply Kd.R_alloc | apply Kd.R_drewN | apply Kd.R_drew)); exact HO_613000.out⟩, ⟨by (with_reducible repeat (first | apply Kd.R_alloc | apply Kd.R_drewN | apply Kd.R_drew)); exact HO_613001.out⟩, ⟨by (with_reducible repeat (first | apply Kd.R_alloc | apply Kd.R_drewN | apply Kd.R_drew)); exact HO_613002.out⟩, ⟨by (with_reducible repeat (first | apply Kd.R_alloc | apply Kd.R_drewN | apply Kd.R_drew)); exact HO_613003.out⟩, ⟨by (with_reducible repeat (first | refine blk_drewN ?_ _ | refine blk_drew ?_ | refine blk_alloc ?_ _)); exact BK611.out⟩, ⟨by (with_reducible repeat (first | refine blk_drewN ?_ _ | refine blk_drew ?_ | refine blk_alloc ?_ _)); exact BK612.out⟩, ⟨by (with_reducible repeat (first | refine blk_drewN ?_ _ | refine blk_drew ?_ | refine blk_alloc ?_ _)); exact BK620.out⟩, ⟨by repeat (first | (with_reducible first | exact HB.out | apply below_alloc | apply pw_below_drewN | apply below_drew1 | refine below_set ?_ GE611.out | refine below_set ?_ GE612.out | refine below_set ?_ GE620.out) | exact HB.out)⟩⟩
            ·rw [if_neg c37] at H
             have c37b0 : ((Go.bits .and .i64 (rd l0 x4_1) 15) == 9) = false := beq_eq_false_iff_ne.mpr c37
             have c37b1 : ((Go.bits .and .i64 (rd l0 x4_1) 15) != 9) = true := bne_iff_ne.mpr c37
             (first | rw [c37b0] | (simp only [i64_w, i32_w]; rw [c37b0]) | skip)
             by_cases c38 : (Go.bits .and .i64 (rd l0 x4_1) 15) = 10
             ·rw [if_pos c38] at H
              have c38b0 : ((Go.bits .and .i64 (rd l0 x4_1) 15) == 10) = true := beq_iff_eq.mpr c38
              have c38b1 : ((Go.bits .and .i64 (rd l0 x4_1) 15) != 10) = false := bne_eq_false_iff_eq.mpr c38
              clear c38
              have H' := Aside0.mk H
              clear H
              go_wp2
              go_meet
              case rel => exact ⟨_, (((Go.bits .and .i64 (rd l0 x4_1) 15) == 10)), (by first | rfl | (simp; done) | (simp [*]; done)), H', ⟨by have := HK1.out; have := HJ5.out; have := HJ11.out; first | omega | exact Nat.le_refl _⟩, ⟨by (with_reducible repeat (first | apply Kd.R_alloc | apply Kd.R_drewN | apply Kd.R_drew)); exact HO_613000.out⟩, ⟨by (with_reducible repeat (first | apply Kd.R_alloc | apply Kd.R_drewN | apply Kd.R_drew)); exact HO_613001.out⟩, ⟨by (with_reducible repeat (first | apply Kd.R_alloc | apply Kd.R_drewN | apply Kd.R_drew)); exact HO_613002.out⟩, ⟨by (with_reducible repeat (first | apply Kd.R_alloc | apply Kd.R_drewN | apply Kd.R_drew)); exact HO_613003.out⟩, ⟨by (with_reducible repeat (first | refine blk_drewN ?_ _ | refine blk_drew ?_ | refine blk_alloc ?_ _)); exact BK611.out⟩, ⟨by (with_reducible repeat (first | refine blk_drewN ?_ _ | refine blk_drew ?_ | refine blk_alloc ?_ _)); exact BK612.out⟩, ⟨by (with_reducible repeat (first | refine blk_drewN ?_ _ | refine blk_drew ?_ | refine blk_alloc ?_ _)); exact BK620.out⟩, ⟨by repeat (first | (with_reducible first | exact HB.out | apply below_alloc | apply pw_below_drewN | apply below_drew1 | refine below_set ?_ GE611.out | refine below_set ?_ GE612.out | refine below_set ?_ GE620.out) | exact HB.out)⟩⟩
             ·rw [if_neg c38] at H
              have c38b0 : ((Go.bits .and .i64 (rd l0 x4_1) 15) == 10) = false := beq_eq_false_iff_ne.mpr c38
              have c38b1 : ((Go.bits .and .i64 (rd l0 x4_1) 15) != 10) = true := bne_iff_ne.mpr c38
              by_cases c39 : (Go.bits .and .i64 (rd l0 x4_1) 15) = 11
              ·rw [if_pos c39] at H
               have c39b0 : ((Go.bits .and .i64 (rd l0 x4_1) 15) == 11) = true := beq_iff_eq.mpr c39
               have c39b1 : ((Go.bits .and .i64 (rd l0 x4_1) 15) != 11) = false := bne_eq_false_iff_eq.mpr c39
               clear c39
               have H' := Aside0.mk H
               clear H
               go_wp2
               go_meet
               case rel => exact ⟨_, (((Go.bits .and .i64 (rd l0 x4_1) 15) == 11)), (by first | rfl | (simp; done) | (simp [*]; done)), H', ⟨by have := HK1.out; have := HJ5.out; have := HJ11.out; first | omega | exact Nat.le_refl _⟩, ⟨by (with_reducible repeat (first | apply Kd.R_alloc | apply Kd.R_drewN | apply Kd.R_drew)); exact HO_613000.out⟩, ⟨by (with_reducible repeat (first | apply Kd.R_alloc | apply Kd.R_drewN | apply Kd.R_drew)); exact HO_613001.out⟩, ⟨by (with_reducible repeat (first | apply Kd.R_alloc | apply Kd.R_drewN | apply Kd.R_drew)); exact HO_613002.out⟩, ⟨by (with_reducible repeat (first | apply Kd.R_alloc | apply Kd.R_drewN | apply Kd.R_drew)); exact HO_613003.out⟩, ⟨by (with_reducible repeat (first | refine blk_drewN ?_ _ | refine blk_drew ?_ | refine blk_alloc ?_ _)); exact BK611.out⟩, ⟨by (with_reducible repeat (first | refine blk_drewN ?_ _ | refine blk_drew ?_ | refine blk_alloc ?_ _)); exact BK612.out⟩, ⟨by (with_reducible repeat (first | refine blk_drewN ?_ _ | refine blk_drew ?_ | refine blk_alloc ?_ _)); exact BK620.out⟩, ⟨by repeat (first | (with_reducible first | exact HB.out | apply below_alloc | apply pw_below_drewN | apply below_drew1 | refine below_set ?_ GE611.out | refine below_set ?_ GE612.out | refine below_set ?_ GE620.out) | exact HB.out)⟩⟩
              ·rw [if_neg c39] at H
               have c39b0 : ((Go.bits .and .i64 (rd l0 x4_1) 15) == 11) = false := beq_eq_false_iff_ne.mpr c39
               have c39b1 : ((Go.bits .and .i64 (rd l0 x4_1) 15) != 11) = true := bne_iff_ne.mpr c39
               have H' := Aside0.mk H
               clear H
               go_wp2
               go_meet
               case rel => exact ⟨_, (((Go.bits .and .i64 (rd l0 x4_1) 15) == 12)), (by first | rfl | (simp; done) | (simp [*]; done)), H', ⟨by have := HK1.out; have := HJ5.out; have := HJ11.out; first | omega | exact Nat.le_refl _⟩, ⟨by (with_reducible repeat (first | apply Kd.R_alloc | apply Kd.R_drewN | apply Kd.R_drew)); exact HO_613000.out⟩, ⟨by (with_reducible repeat (first | apply Kd.R_alloc | apply Kd.R_drewN | apply Kd.R_drew)); exact HO_613001.out⟩, ⟨by (with_reducible repeat (first | apply Kd.R_alloc | apply Kd.R_drewN | apply Kd.R_drew)); exact HO_613002.out⟩, ⟨by (with_reducible repeat (first | apply Kd.R_alloc | apply Kd.R_drewN | apply Kd.R_drew)); exact HO_613003.out⟩, ⟨by (with_reducible repeat (first | refine blk_drewN ?_ _ | refine blk_drew ?_ | refine blk_alloc ?_ _)); exact BK611.out⟩, ⟨by (with_reducible repeat (first | refine blk_drewN ?_ _ | refine blk_drew ?_ | refine blk_alloc ?_ _)); exact BK612.out⟩, ⟨by (with_reducible repeat (first | refine blk_drewN ?_ _ | refine blk_drew ?_ | refine blk_alloc ?_ _)); exact BK620.out⟩, ⟨by repeat (first | (with_reducible first | exact HB.out | apply below_alloc | apply pw_below_drewN | apply below_drew1 | refine below_set ?_ GE611.out | refine below_set ?_ GE612.out | refine below_set ?_ GE620.out) | exact HB.out)⟩⟩
           case rest =>
            clear HC36
            try clear c1
            try clear c2
            try clear p2
            try clear c3
            try clear c4
            try clear p6
            try clear q6
            try clear hx6
            try clear c7
            try clear c7b0
            try clear c8
            try clear c9
            try clear c9b0
            try clear c10
            try clear c10b0
            try clear c15
            try clear c16
            try clear c18
            try clear c18b0
            try clear c18b1
            try clear c19
            try clear c19b0
            try clear c19b1
            try clear c20
            try clear c20b0
            try clear c20b1
            try clear c21
            try clear c21b0
            try clear c21b1
            try clear c22
            try clear c22b0
            try clear c22b1
            try clear c23
            try clear c23b0
            try clear c23b1
            try clear c24
            try clear c24b0
            try clear c24b1
            try clear c25
            try clear c25b0
            try clear c25b1
            try clear c26
            try clear c27
            try clear c28
            try clear c29
            try clear c30
            try clear c31
            try clear c37
            try clear c37b0
            try clear c37b1
            try clear c38
            try clear c38b0
            try clear c38b1
            try clear c39
            try clear c39b0
            try clear c39b1
            try clear hcz17_0
            try clear hcz17_1
            try clear hcz17_2
            try clear hcz17_3
            try clear hcz17_4
            try clear hcz17_5
            try clear hcz30_0
            try clear hcz30_1
            try clear hcz30_2
            try clear hcz30_3
            try clear hcz32_0
            try clear hcz32_1
            try clear hcz32_2
            try clear hcz32_3
            try clear hcz32_4
            try clear hcz32_5
            try clear hcz35_0
            try clear hcz35_1
            try clear hcz35_2
            try clear hcz35_3
            try clear hcz5_0
            try clear hcz5_1
            try clear hcz5_2
            try clear hcz5_3
            try clear hfz17_0
            try clear hfz17_1
            try clear hfz17_2
            try clear hfz17_3
            try clear hfz17_4
            try clear hfz17_5
            try clear hfz30_0
            try clear hfz30_1
            try clear hfz30_2
            try clear hfz30_3
            try clear hfz32_0
            try clear hfz32_1
            try clear hfz32_2
            try clear hfz32_3
            try clear hfz32_4
            try clear hfz32_5
            try clear hfz35_0
            try clear hfz35_1
            try clear hfz35_2
            try clear hfz35_3
            try clear hfz5_0
            try clear hfz5_1
            try clear hfz5_2
            try clear hfz5_3
            try clear hx613_0
            try clear hx621_0
            try clear p2
            try clear p6
            try clear p613
            try clear p621
            try clear q6
            try clear q613
            try clear q621
            obtain ⟨kq, x50_35, rfl, HA, HJ35, HO_613000, HO_613001, HO_613002, HO_613003, BK611, BK612, BK620, HB⟩ := hcut
            cases kq with
            | zero => exact absurd HA.out (by simp [entaillaw4_Batch.j3])
            | succ kj35 =>
             have H := HA.out
             clear HA
             simp only [entaillaw4_Batch.j3] at H
             by_cases c40 : x50_35 = true
             ·subst c40
              have H1 : (if x613001_1.length < 1466015503701 then (entaillaw4_Batch.l0 kj35 l0 (wrap64 (x4_1 + 1)) x613000_1 (x613001_1 ++ [(⟨(⟨t614, t615⟩ : S37), t616, (⟨t617, t618, t619⟩ : S39)⟩ : S41)]) x613002_1 x613003_1) else (none)) = some (r1, r2, r3, r4) := by rw [if_pos rfl] at H; exact H
              clear H
              have H := H1
              clear H1
              by_cases c41 : x613001_1.length < 1466015503701
              ·rw [if_pos c41] at H
               have LMc41 := Aside0.mk c41
               clear c41
               obtain ⟨y625, hy625⟩ : ∃ y_ : List (S41), y_ = (x613001_1 ++ [(⟨(⟨t614, t615⟩ : S37), t616, (⟨t617, t618, t619⟩ : S39)⟩ : S41)]) := ⟨_, rfl⟩
               replace H : (entaillaw4_Batch.l0 kj35 l0 (wrap64 (x4_1 + 1)) x613000_1 y625 x613002_1 x613003_1) = some (r1, r2, r3, r4) := by first | (rw [hy625]; with_reducible exact H) | (have H2_ := (Option.bind_some _ _).symm.trans H; rw [hy625]; with_reducible exact H2_) | (have H2_ := (Option.bind_some _ _).symm.trans H; with_reducible exact H2_) | with_reducible exact H | (rw [hy625]; exact H) | exact H
               have Ny625 := Aside0.mk hy625
               clear hy625
               have H' := Aside0.mk H
               clear H
               have hnb42 := NB612_611.out
               have hnc42 := NB611_612.out
               have hnb43 := NB612_620.out
               have hnc43 := NB620_612.out
               have hcz44_0 : wc.cell? ⟨gb612, 0, none⟩ = some (u613000) := (blk_cell BK612.out 0).trans rfl
               have hcz44_1 : wc.cell? ⟨gb612, 1, none⟩ = some (u613001) := (blk_cell BK612.out 1).trans rfl
               have hcz44_2 : wc.cell? ⟨gb612, 2, none⟩ = some (u613002) := (blk_cell BK612.out 2).trans rfl
               have hcz44_3 : wc.cell? ⟨gb612, 3, none⟩ = some (u613003) := (blk_cell BK612.out 3).trans rfl
               have hfz44_0 := blk_frozen BK612.out 0
               have hfz44_1 := blk_frozen BK612.out 1
               have hfz44_2 := blk_frozen BK612.out 2
               have hfz44_3 := blk_frozen BK612.out 3
               have hnb45 := NB620_611.out
               have hnc45 := NB611_620.out
               have hcz46_0 : wc.cell? ⟨gb620, 0, none⟩ = some (.string t614) := (blk_cell BK620.out 0).trans rfl
               have hcz46_1 : wc.cell? ⟨gb620, 1, none⟩ = some (.string t615) := (blk_cell BK620.out 1).trans rfl
               have hcz46_2 : wc.cell? ⟨gb620, 2, none⟩ = some (.string t616) := (blk_cell BK620.out 2).trans rfl
               have hcz46_3 : wc.cell? ⟨gb620, 3, none⟩ = some (.string t617) := (blk_cell BK620.out 3).trans rfl
               have hcz46_4 : wc.cell? ⟨gb620, 4, none⟩ = some (.string t618) := (blk_cell BK620.out 4).trans rfl
               have hcz46_5 : wc.cell? ⟨gb620, 5, none⟩ = some (.string t619) := (blk_cell BK620.out 5).trans rfl
               have hfz46_0 := blk_frozen BK620.out 0
               have hfz46_1 := blk_frozen BK620.out 1
               have hfz46_2 := blk_frozen BK620.out 2
               have hfz46_3 := blk_frozen BK620.out 3
               have hfz46_4 := blk_frozen BK620.out 4
               have hfz46_5 := blk_frozen BK620.out 5
               go_wp2_with (first | ((with_reducible refine gate_builtin (b := .append) (xs := #[.tmp 56, .tmp 58]) rfl ?_); at_builtin; refine Kd.R_append k41 (w0 := w) w.heap.size rfl (.tmp 56) (.tmp 58) 23 41 (.agg #[(.string ⟨#[]⟩), (.string ⟨#[]⟩), (.string ⟨#[]⟩), (.string ⟨#[]⟩), (.string ⟨#[]⟩), (.string ⟨#[]⟩)]) 96 rfl Try.underlying23 info41 rfl (by decide) (by omega) u613001 x613001_1 (⟨(⟨t614, t615⟩ : S37), t616, (⟨t617, t618, t619⟩ : S39)⟩ : S41) [.string t614, .string t615, .string t616, .string t617, .string t618, .string t619] (fun k_ => some k_ ≠ (u613000 : Value).ownBlock ∧ some k_ ≠ (u613002 : Value).ownBlock ∧ some k_ ≠ (u613003 : Value).ownBlock ∧ k_ ≠ gb620) (fun _ => False) rfl rfl ?aP (fun _ hk => hk.elim) ?aF ?aO ?aB ?aS ?aL ?_; (case aP => exact k41_mkM _ _ _ (⟨(⟨t614, t615⟩ : S37), t616, (⟨t617, t618, t619⟩ : S39)⟩ : S41)); (case aB => exact (by repeat (first | (with_reducible first | exact HB.out | apply below_alloc | apply pw_below_drewN | apply below_drew1 | refine below_set ?_ GE611.out | refine below_set ?_ GE612.out | refine below_set ?_ GE620.out) | exact HB.out))); (case aF => exact (fun k_ hk => ⟨Kd.fresh' (Kd.R_lt (by (with_reducible repeat (first | apply Kd.R_alloc | apply Kd.R_drewN | apply Kd.R_drew)); exact HO_613000.out)) k_ hk, Kd.fresh' (Kd.R_lt (by (with_reducible repeat (first | apply Kd.R_alloc | apply Kd.R_drewN | apply Kd.R_drew)); exact HO_613002.out)) k_ hk, Kd.fresh' (Kd.R_lt (by (with_reducible repeat (first | apply Kd.R_alloc | apply Kd.R_drewN | apply Kd.R_drew)); exact HO_613003.out)) k_ hk, Kd.freshB (g := gb620) (o := .cells #[.string t614, .string t615, .string t616, .string t617, .string t618, .string t619] 41 (0, 0)) (by (with_reducible repeat (first | refine blk_drewN ?_ _ | refine blk_drew ?_ | refine blk_alloc ?_ _)); exact BK620.out) k_ hk⟩)); (case aO => exact (by (with_reducible repeat (first | apply Kd.R_alloc | apply Kd.R_drewN | apply Kd.R_drew)); exact HO_613001.out)); (case aS => exact (below_size (by repeat (first | (with_reducible first | exact HB.out | apply below_alloc | apply pw_below_drewN | apply below_drew1 | refine below_set ?_ GE611.out | refine below_set ?_ GE612.out | refine below_set ?_ GE620.out) | exact HB.out)))); (case aL => have := LMc41.out; omega); intro v626 w47 ho hb hg hat; rw [← Ny625.out] at ho; have n0_ := Aside0.mk (Kd.R_after (ok := (fun k_ => some k_ ≠ (u613002 : Value).ownBlock ∧ some k_ ≠ (u613003 : Value).ownBlock ∧ k_ ≠ gb620)) (by (with_reducible repeat (first | apply Kd.R_alloc | apply Kd.R_drewN | apply Kd.R_drew)); exact Kd.R_mono HO_613000.out (fun _ hk => ⟨⟨hk.2.1, ⟨hk.2.2.1, hk.2.2.2⟩⟩, hk.1⟩)) hg hat); have n1_ := Aside0.mk (Kd.R_after (ok := (fun k_ => some k_ ≠ (u613000 : Value).ownBlock ∧ some k_ ≠ (u613003 : Value).ownBlock ∧ k_ ≠ gb620)) (by (with_reducible repeat (first | apply Kd.R_alloc | apply Kd.R_drewN | apply Kd.R_drew)); exact Kd.R_mono HO_613002.out (fun _ hk => ⟨⟨hk.1, ⟨hk.2.2.1, hk.2.2.2⟩⟩, hk.2.1⟩)) hg hat); have n2_ := Aside0.mk (Kd.R_after (ok := (fun k_ => some k_ ≠ (u613000 : Value).ownBlock ∧ some k_ ≠ (u613002 : Value).ownBlock ∧ k_ ≠ gb620)) (by (with_reducible repeat (first | apply Kd.R_alloc | apply Kd.R_drewN | apply Kd.R_drew)); exact Kd.R_mono HO_613003.out (fun _ hk => ⟨⟨hk.1, ⟨hk.2.2.1, hk.2.2.2⟩⟩, hk.2.1⟩)) hg hat); have n3_ := Aside0.mk (blk_grown (g := gb611) (o := .cells #[.slice none 0 0, .slice none 0 0, .slice none 0 0, .slice none 0 0] 54 (0, 0)) (by (with_reducible repeat (first | refine blk_drewN ?_ _ | refine blk_drew ?_ | refine blk_alloc ?_ _)); exact BK611.out) hg (Kd.R_ne HO_613001.out BK611.out (by decide))); have n4_ := Aside0.mk (blk_grown (g := gb612) (o := .cells #[u613000, u613001, u613002, u613003] 54 (0, 0)) (by (with_reducible repeat (first | refine blk_drewN ?_ _ | refine blk_drew ?_ | refine blk_alloc ?_ _)); exact BK612.out) hg (Kd.R_ne HO_613001.out BK612.out (by decide))); have n5_ := Aside0.mk (blk_grown (g := gb620) (o := .cells #[.string t614, .string t615, .string t616, .string t617, .string t618, .string t619] 41 (0, 0)) (by (with_reducible repeat (first | refine blk_drewN ?_ _ | refine blk_drew ?_ | refine blk_alloc ?_ _)); exact BK620.out) hg (Kd.R_away HO_613001.out (fun _ hk => hk.2.2.2))); have n6_ := Aside0.mk (hb); have n7_ := Aside0.mk (ho); clear HO_613000; clear HO_613002; clear HO_613003; clear BK611; clear BK612; clear BK620; clear HB; clear HO_613001; have HO_613000 := n0_; have HO_613002 := n1_; have HO_613003 := n2_; have BK611 := n3_; have BK612 := n4_; have BK620 := n5_; have HB := n6_; have HO627 := n7_; clear n0_ n1_ n2_ n3_ n4_ n5_ n6_ n7_; clear ho hb hg hat; obtain ⟨Ao48, co48, eo48⟩ := Kd.R_slice HO627.out; subst eo48; have hcz49_0 : w47.cell? ⟨gb612, 0, none⟩ = some (u613000) := (blk_cell BK612.out 0).trans rfl; have hcz49_1 : w47.cell? ⟨gb612, 1, none⟩ = some (u613001) := (blk_cell BK612.out 1).trans rfl; have hcz49_2 : w47.cell? ⟨gb612, 2, none⟩ = some (u613002) := (blk_cell BK612.out 2).trans rfl; have hcz49_3 : w47.cell? ⟨gb612, 3, none⟩ = some (u613003) := (blk_cell BK612.out 3).trans rfl; have hfz49_0 := blk_frozen BK612.out 0; have hfz49_1 := blk_frozen BK612.out 1; have hfz49_2 := blk_frozen BK612.out 2; have hfz49_3 := blk_frozen BK612.out 3))
               go_roundg kj35
               case measure => have := HK1.out; have := HJ5.out; have := HJ11.out; have := HJ35.out; omega
               case rel => exact ⟨(wrap64 (x4_1 + 1)), (x613000_1), (y625), (x613002_1), (x613003_1), (u613000), (.slice Ao48 y625.length co48), (u613002), (u613003), (by first | rfl | (simp; done) | (simp [*]; done)), H', ⟨by have := HK1.out; have := HJ5.out; have := HJ11.out; have := HJ35.out; omega⟩, ⟨by (with_reducible repeat (first | apply Kd.R_alloc | apply Kd.R_drewN | apply Kd.R_drew)); exact Kd.R_mono (Kd.R_far (p := ⟨gb612, 1, none⟩) (Kd.R_types HO_613000.out BK612.out (by decide)) (fun _ hk => hk.2) (.slice Ao48 y625.length co48)) (fun _ hk => ⟨hk.1.2, ⟨hk.1.1.1, hk.1.1.2.1⟩⟩)⟩, ⟨by (with_reducible repeat (first | apply Kd.R_alloc | apply Kd.R_drewN | apply Kd.R_drew)); exact Kd.R_mono (Kd.R_far (p := ⟨gb612, 1, none⟩) (Kd.R_types HO627.out BK612.out (by decide)) (fun _ hk => hk.2) (.slice Ao48 y625.length co48)) (fun _ hk => ⟨hk.1.1, ⟨hk.1.2.1, hk.1.2.2.1⟩⟩)⟩, ⟨by (with_reducible repeat (first | apply Kd.R_alloc | apply Kd.R_drewN | apply Kd.R_drew)); exact Kd.R_mono (Kd.R_far (p := ⟨gb612, 1, none⟩) (Kd.R_types HO_613002.out BK612.out (by decide)) (fun _ hk => hk.2) (.slice Ao48 y625.length co48)) (fun _ hk => ⟨hk.1.1.1, ⟨hk.1.2, hk.1.1.2.1⟩⟩)⟩, ⟨by (with_reducible repeat (first | apply Kd.R_alloc | apply Kd.R_drewN | apply Kd.R_drew)); exact Kd.R_mono (Kd.R_far (p := ⟨gb612, 1, none⟩) (Kd.R_types HO_613003.out BK612.out (by decide)) (fun _ hk => hk.2) (.slice Ao48 y625.length co48)) (fun _ hk => ⟨hk.1.1.1, ⟨hk.1.2, hk.1.1.2.1⟩⟩)⟩, ⟨by (with_reducible repeat (first | refine blk_drewN ?_ _ | refine blk_drew ?_ | refine blk_alloc ?_ _)); refine blk_far ?_ NB611_612.out _; (with_reducible repeat (first | refine blk_drewN ?_ _ | refine blk_drew ?_ | refine blk_alloc ?_ _)); exact BK611.out⟩, ⟨by (with_reducible repeat (first | refine blk_drewN ?_ _ | refine blk_drew ?_ | refine blk_alloc ?_ _)); refine blk_put (cs := #[u613000, u613001, u613002, u613003]) ?_ 1 _ rfl; (with_reducible repeat (first | refine blk_drewN ?_ _ | refine blk_drew ?_ | refine blk_alloc ?_ _)); exact BK612.out⟩, ⟨by repeat (first | (with_reducible first | exact HB.out | apply below_alloc | apply pw_below_drewN | apply below_drew1 | refine below_set ?_ GE611.out | refine below_set ?_ GE612.out | refine below_set ?_ GE620.out) | exact HB.out)⟩⟩
              ·rw [if_neg c41] at H
               exact absurd H (by simp)
             ·replace c40 := Bool.eq_false_iff.mpr c40
              subst c40
              have H1 : (if (Go.bits .and .i64 (rd l0 x4_1) 15) = 13 then (if x613002_1.length < 1466015503701 then (entaillaw4_Batch.l0 kj35 l0 (wrap64 (x4_1 + 1)) x613000_1 x613001_1 (x613002_1 ++ [(⟨(⟨t614, t615⟩ : S37), t616, (⟨t617, t618, t619⟩ : S39)⟩ : S41)]) x613003_1) else (none)) else (if (Go.bits .and .i64 (rd l0 x4_1) 15) = 14 then (if x613003_1.length < 1466015503701 then (entaillaw4_Batch.l0 kj35 l0 (wrap64 (x4_1 + 1)) x613000_1 x613001_1 x613002_1 (x613003_1 ++ [(⟨(⟨t614, t615⟩ : S37), t616, (⟨t617, t618, t619⟩ : S39)⟩ : S41)])) else (none)) else (if x613000_1.length < 1466015503701 then (entaillaw4_Batch.l0 kj35 l0 (wrap64 (x4_1 + 1)) (x613000_1 ++ [(⟨(⟨(⟨#[]⟩ : ByteArray), (⟨#[]⟩ : ByteArray)⟩ : S37), (⟨#[120]⟩ : ByteArray), (⟨(⟨#[]⟩ : ByteArray), (⟨#[]⟩ : ByteArray), (⟨#[]⟩ : ByteArray)⟩ : S39)⟩ : S41)]) x613001_1 x613002_1 x613003_1) else (none)))) = some (r1, r2, r3, r4) := by rw [if_neg (show ¬ (false = true) by decide)] at H; exact H
              clear H
              have H := H1
              clear H1
              by_cases c50 : (Go.bits .and .i64 (rd l0 x4_1) 15) = 13
              ·rw [if_pos c50] at H
               have c50b0 : ((Go.bits .and .i64 (rd l0 x4_1) 15) == 13) = true := beq_iff_eq.mpr c50
               have c50b1 : ((Go.bits .and .i64 (rd l0 x4_1) 15) != 13) = false := bne_eq_false_iff_eq.mpr c50
               clear c50
               by_cases c51 : x613002_1.length < 1466015503701
               ·rw [if_pos c51] at H
                have LMc51 := Aside0.mk c51
                clear c51
                obtain ⟨y628, hy628⟩ : ∃ y_ : List (S41), y_ = (x613002_1 ++ [(⟨(⟨t614, t615⟩ : S37), t616, (⟨t617, t618, t619⟩ : S39)⟩ : S41)]) := ⟨_, rfl⟩
                replace H : (entaillaw4_Batch.l0 kj35 l0 (wrap64 (x4_1 + 1)) x613000_1 x613001_1 y628 x613003_1) = some (r1, r2, r3, r4) := by first | (rw [hy628]; with_reducible exact H) | (have H2_ := (Option.bind_some _ _).symm.trans H; rw [hy628]; with_reducible exact H2_) | (have H2_ := (Option.bind_some _ _).symm.trans H; with_reducible exact H2_) | with_reducible exact H | (rw [hy628]; exact H) | exact H
                have Ny628 := Aside0.mk hy628
                clear hy628
                have H' := Aside0.mk H
                clear H
                have hnb52 := NB612_611.out
                have hnc52 := NB611_612.out
                have hnb53 := NB612_620.out
                have hnc53 := NB620_612.out
                have hcz54_0 : wc.cell? ⟨gb612, 0, none⟩ = some (u613000) := (blk_cell BK612.out 0).trans rfl
                have hcz54_1 : wc.cell? ⟨gb612, 1, none⟩ = some (u613001) := (blk_cell BK612.out 1).trans rfl
                have hcz54_2 : wc.cell? ⟨gb612, 2, none⟩ = some (u613002) := (blk_cell BK612.out 2).trans rfl
                have hcz54_3 : wc.cell? ⟨gb612, 3, none⟩ = some (u613003) := (blk_cell BK612.out 3).trans rfl
                have hfz54_0 := blk_frozen BK612.out 0
                have hfz54_1 := blk_frozen BK612.out 1
                have hfz54_2 := blk_frozen BK612.out 2
                have hfz54_3 := blk_frozen BK612.out 3
                have hnb55 := NB620_611.out
                have hnc55 := NB611_620.out
                have hcz56_0 : wc.cell? ⟨gb620, 0, none⟩ = some (.string t614) := (blk_cell BK620.out 0).trans rfl
                have hcz56_1 : wc.cell? ⟨gb620, 1, none⟩ = some (.string t615) := (blk_cell BK620.out 1).trans rfl
                have hcz56_2 : wc.cell? ⟨gb620, 2, none⟩ = some (.string t616) := (blk_cell BK620.out 2).trans rfl
                have hcz56_3 : wc.cell? ⟨gb620, 3, none⟩ = some (.string t617) := (blk_cell BK620.out 3).trans rfl
                have hcz56_4 : wc.cell? ⟨gb620, 4, none⟩ = some (.string t618) := (blk_cell BK620.out 4).trans rfl
                have hcz56_5 : wc.cell? ⟨gb620, 5, none⟩ = some (.string t619) := (blk_cell BK620.out 5).trans rfl
                have hfz56_0 := blk_frozen BK620.out 0
                have hfz56_1 := blk_frozen BK620.out 1
                have hfz56_2 := blk_frozen BK620.out 2
                have hfz56_3 := blk_frozen BK620.out 3
                have hfz56_4 := blk_frozen BK620.out 4
                have hfz56_5 := blk_frozen BK620.out 5
                go_wp2_with (first | ((with_reducible refine gate_builtin (b := .append) (xs := #[.tmp 64, .tmp 66]) rfl ?_); at_builtin; refine Kd.R_append k41 (w0 := w) w.heap.size rfl (.tmp 64) (.tmp 66) 23 41 (.agg #[(.string ⟨#[]⟩), (.string ⟨#[]⟩), (.string ⟨#[]⟩), (.string ⟨#[]⟩), (.string ⟨#[]⟩), (.string ⟨#[]⟩)]) 96 rfl Try.underlying23 info41 rfl (by decide) (by omega) u613002 x613002_1 (⟨(⟨t614, t615⟩ : S37), t616, (⟨t617, t618, t619⟩ : S39)⟩ : S41) [.string t614, .string t615, .string t616, .string t617, .string t618, .string t619] (fun k_ => some k_ ≠ (u613000 : Value).ownBlock ∧ some k_ ≠ (u613001 : Value).ownBlock ∧ some k_ ≠ (u613003 : Value).ownBlock ∧ k_ ≠ gb620) (fun _ => False) rfl rfl ?aP (fun _ hk => hk.elim) ?aF ?aO ?aB ?aS ?aL ?_; (case aP => exact k41_mkM _ _ _ (⟨(⟨t614, t615⟩ : S37), t616, (⟨t617, t618, t619⟩ : S39)⟩ : S41)); (case aB => exact (by repeat (first | (with_reducible first | exact HB.out | apply below_alloc | apply pw_below_drewN | apply below_drew1 | refine below_set ?_ GE611.out | refine below_set ?_ GE612.out | refine below_set ?_ GE620.out) | exact HB.out))); (case aF => exact (fun k_ hk => ⟨Kd.fresh' (Kd.R_lt (by (with_reducible repeat (first | apply Kd.R_alloc | apply Kd.R_drewN | apply Kd.R_drew)); exact HO_613000.out)) k_ hk, Kd.fresh' (Kd.R_lt (by (with_reducible repeat (first | apply Kd.R_alloc | apply Kd.R_drewN | apply Kd.R_drew)); exact HO_613001.out)) k_ hk, Kd.fresh' (Kd.R_lt (by (with_reducible repeat (first | apply Kd.R_alloc | apply Kd.R_drewN | apply Kd.R_drew)); exact HO_613003.out)) k_ hk, Kd.freshB (g := gb620) (o := .cells #[.string t614, .string t615, .string t616, .string t617, .string t618, .string t619] 41 (0, 0)) (by (with_reducible repeat (first | refine blk_drewN ?_ _ | refine blk_drew ?_ | refine blk_alloc ?_ _)); exact BK620.out) k_ hk⟩)); (case aO => exact (by (with_reducible repeat (first | apply Kd.R_alloc | apply Kd.R_drewN | apply Kd.R_drew)); exact HO_613002.out)); (case aS => exact (below_size (by repeat (first | (with_reducible first | exact HB.out | apply below_alloc | apply pw_below_drewN | apply below_drew1 | refine below_set ?_ GE611.out | refine below_set ?_ GE612.out | refine below_set ?_ GE620.out) | exact HB.out)))); (case aL => have := LMc51.out; omega); intro v629 w57 ho hb hg hat; rw [← Ny628.out] at ho; have n0_ := Aside0.mk (Kd.R_after (ok := (fun k_ => some k_ ≠ (u613001 : Value).ownBlock ∧ some k_ ≠ (u613003 : Value).ownBlock ∧ k_ ≠ gb620)) (by (with_reducible repeat (first | apply Kd.R_alloc | apply Kd.R_drewN | apply Kd.R_drew)); exact Kd.R_mono HO_613000.out (fun _ hk => ⟨⟨hk.1, ⟨hk.2.2.1, hk.2.2.2⟩⟩, hk.2.1⟩)) hg hat); have n1_ := Aside0.mk (Kd.R_after (ok := (fun k_ => some k_ ≠ (u613000 : Value).ownBlock ∧ some k_ ≠ (u613003 : Value).ownBlock ∧ k_ ≠ gb620)) (by (with_reducible repeat (first | apply Kd.R_alloc | apply Kd.R_drewN | apply Kd.R_drew)); exact Kd.R_mono HO_613001.out (fun _ hk => ⟨⟨hk.1, ⟨hk.2.2.1, hk.2.2.2⟩⟩, hk.2.1⟩)) hg hat); have n2_ := Aside0.mk (Kd.R_after (ok := (fun k_ => some k_ ≠ (u613000 : Value).ownBlock ∧ some k_ ≠ (u613001 : Value).ownBlock ∧ k_ ≠ gb620)) (by (with_reducible repeat (first | apply Kd.R_alloc | apply Kd.R_drewN | apply Kd.R_drew)); exact Kd.R_mono HO_613003.out (fun _ hk => ⟨⟨hk.1, ⟨hk.2.1, hk.2.2.2⟩⟩, hk.2.2.1⟩)) hg hat); have n3_ := Aside0.mk (blk_grown (g := gb611) (o := .cells #[.slice none 0 0, .slice none 0 0, .slice none 0 0, .slice none 0 0] 54 (0, 0)) (by (with_reducible repeat (first | refine blk_drewN ?_ _ | refine blk_drew ?_ | refine blk_alloc ?_ _)); exact BK611.out) hg (Kd.R_ne HO_613002.out BK611.out (by decide))); have n4_ := Aside0.mk (blk_grown (g := gb612) (o := .cells #[u613000, u613001, u613002, u613003] 54 (0, 0)) (by (with_reducible repeat (first | refine blk_drewN ?_ _ | refine blk_drew ?_ | refine blk_alloc ?_ _)); exact BK612.out) hg (Kd.R_ne HO_613002.out BK612.out (by decide))); have n5_ := Aside0.mk (blk_grown (g := gb620) (o := .cells #[.string t614, .string t615, .string t616, .string t617, .string t618, .string t619] 41 (0, 0)) (by (with_reducible repeat (first | refine blk_drewN ?_ _ | refine blk_drew ?_ | refine blk_alloc ?_ _)); exact BK620.out) hg (Kd.R_away HO_613002.out (fun _ hk => hk.2.2.2))); have n6_ := Aside0.mk (hb); have n7_ := Aside0.mk (ho); clear HO_613000; clear HO_613001; clear HO_613003; clear BK611; clear BK612; clear BK620; clear HB; clear HO_613002; have HO_613000 := n0_; have HO_613001 := n1_; have HO_613003 := n2_; have BK611 := n3_; have BK612 := n4_; have BK620 := n5_; have HB := n6_; have HO630 := n7_; clear n0_ n1_ n2_ n3_ n4_ n5_ n6_ n7_; clear ho hb hg hat; obtain ⟨Ao58, co58, eo58⟩ := Kd.R_slice HO630.out; subst eo58; have hcz59_0 : w57.cell? ⟨gb612, 0, none⟩ = some (u613000) := (blk_cell BK612.out 0).trans rfl; have hcz59_1 : w57.cell? ⟨gb612, 1, none⟩ = some (u613001) := (blk_cell BK612.out 1).trans rfl; have hcz59_2 : w57.cell? ⟨gb612, 2, none⟩ = some (u613002) := (blk_cell BK612.out 2).trans rfl; have hcz59_3 : w57.cell? ⟨gb612, 3, none⟩ = some (u613003) := (blk_cell BK612.out 3).trans rfl; have hfz59_0 := blk_frozen BK612.out 0; have hfz59_1 := blk_frozen BK612.out 1; have hfz59_2 := blk_frozen BK612.out 2; have hfz59_3 := blk_frozen BK612.out 3))
                go_roundg kj35
                case measure => have := HK1.out; have := HJ5.out; have := HJ11.out; have := HJ35.out; omega
                case rel => exact ⟨(wrap64 (x4_1 + 1)), (x613000_1), (x613001_1), (y628), (x613003_1), (u613000), (u613001), (.slice Ao58 y628.length co58), (u613003), (by first | rfl | (simp; done) | (simp [*]; done)), H', ⟨by have := HK1.out; have := HJ5.out; have := HJ11.out; have := HJ35.out; omega⟩, ⟨by (with_reducible repeat (first | apply Kd.R_alloc | apply Kd.R_drewN | apply Kd.R_drew)); exact Kd.R_mono (Kd.R_far (p := ⟨gb612, 2, none⟩) (Kd.R_types HO_613000.out BK612.out (by decide)) (fun _ hk => hk.2) (.slice Ao58 y628.length co58)) (fun _ hk => ⟨hk.1.1.1, ⟨hk.1.2, hk.1.1.2.1⟩⟩)⟩, ⟨by (with_reducible repeat (first | apply Kd.R_alloc | apply Kd.R_drewN | apply Kd.R_drew)); exact Kd.R_mono (Kd.R_far (p := ⟨gb612, 2, none⟩) (Kd.R_types HO_613001.out BK612.out (by decide)) (fun _ hk => hk.2) (.slice Ao58 y628.length co58)) (fun _ hk => ⟨hk.1.1.1, ⟨hk.1.2, hk.1.1.2.1⟩⟩)⟩, ⟨by (with_reducible repeat (first | apply Kd.R_alloc | apply Kd.R_drewN | apply Kd.R_drew)); exact Kd.R_mono (Kd.R_far (p := ⟨gb612, 2, none⟩) (Kd.R_types HO630.out BK612.out (by decide)) (fun _ hk => hk.2) (.slice Ao58 y628.length co58)) (fun _ hk => ⟨hk.1.1, ⟨hk.1.2.1, hk.1.2.2.1⟩⟩)⟩, ⟨by (with_reducible repeat (first | apply Kd.R_alloc | apply Kd.R_drewN | apply Kd.R_drew)); exact Kd.R_mono (Kd.R_far (p := ⟨gb612, 2, none⟩) (Kd.R_types HO_613003.out BK612.out (by decide)) (fun _ hk => hk.2) (.slice Ao58 y628.length co58)) (fun _ hk => ⟨hk.1.1.1, ⟨hk.1.1.2.1, hk.1.2⟩⟩)⟩, ⟨by (with_reducible repeat (first | refine blk_drewN ?_ _ | refine blk_drew ?_ | refine blk_alloc ?_ _)); refine blk_far ?_ NB611_612.out _; (with_reducible repeat (first | refine blk_drewN ?_ _ | refine blk_drew ?_ | refine blk_alloc ?_ _)); exact BK611.out⟩, ⟨by (with_reducible repeat (first | refine blk_drewN ?_ _ | refine blk_drew ?_ | refine blk_alloc ?_ _)); refine blk_put (cs := #[u613000, u613001, u613002, u613003]) ?_ 2 _ rfl; (with_reducible repeat (first | refine blk_drewN ?_ _ | refine blk_drew ?_ | refine blk_alloc ?_ _)); exact BK612.out⟩, ⟨by repeat (first | (with_reducible first | exact HB.out | apply below_alloc | apply pw_below_drewN | apply below_drew1 | refine below_set ?_ GE611.out | refine below_set ?_ GE612.out | refine below_set ?_ GE620.out) | exact HB.out)⟩⟩
               ·rw [if_neg c51] at H
                exact absurd H (by simp)
              ·rw [if_neg c50] at H
               have c50b0 : ((Go.bits .and .i64 (rd l0 x4_1) 15) == 13) = false := beq_eq_false_iff_ne.mpr c50
               have c50b1 : ((Go.bits .and .i64 (rd l0 x4_1) 15) != 13) = true := bne_iff_ne.mpr c50
               by_cases c60 : (Go.bits .and .i64 (rd l0 x4_1) 15) = 14
               ·rw [if_pos c60] at H
                have c60b0 : ((Go.bits .and .i64 (rd l0 x4_1) 15) == 14) = true := beq_iff_eq.mpr c60
                have c60b1 : ((Go.bits .and .i64 (rd l0 x4_1) 15) != 14) = false := bne_eq_false_iff_eq.mpr c60
                clear c60
                by_cases c61 : x613003_1.length < 1466015503701
                ·rw [if_pos c61] at H
                 have LMc61 := Aside0.mk c61
                 clear c61
                 obtain ⟨y631, hy631⟩ : ∃ y_ : List (S41), y_ = (x613003_1 ++ [(⟨(⟨t614, t615⟩ : S37), t616, (⟨t617, t618, t619⟩ : S39)⟩ : S41)]) := ⟨_, rfl⟩
                 replace H : (entaillaw4_Batch.l0 kj35 l0 (wrap64 (x4_1 + 1)) x613000_1 x613001_1 x613002_1 y631) = some (r1, r2, r3, r4) := by first | (rw [hy631]; with_reducible exact H) | (have H2_ := (Option.bind_some _ _).symm.trans H; rw [hy631]; with_reducible exact H2_) | (have H2_ := (Option.bind_some _ _).symm.trans H; with_reducible exact H2_) | with_reducible exact H | (rw [hy631]; exact H) | exact H
                 have Ny631 := Aside0.mk hy631
                 clear hy631
                 have H' := Aside0.mk H
                 clear H
                 have hnb62 := NB612_611.out
                 have hnc62 := NB611_612.out
                 have hnb63 := NB612_620.out
                 have hnc63 := NB620_612.out
                 have hcz64_0 : wc.cell? ⟨gb612, 0, none⟩ = some (u613000) := (blk_cell BK612.out 0).trans rfl
                 have hcz64_1 : wc.cell? ⟨gb612, 1, none⟩ = some (u613001) := (blk_cell BK612.out 1).trans rfl
                 have hcz64_2 : wc.cell? ⟨gb612, 2, none⟩ = some (u613002) := (blk_cell BK612.out 2).trans rfl
                 have hcz64_3 : wc.cell? ⟨gb612, 3, none⟩ = some (u613003) := (blk_cell BK612.out 3).trans rfl
                 have hfz64_0 := blk_frozen BK612.out 0
                 have hfz64_1 := blk_frozen BK612.out 1
                 have hfz64_2 := blk_frozen BK612.out 2
                 have hfz64_3 := blk_frozen BK612.out 3
                 have hnb65 := NB620_611.out
                 have hnc65 := NB611_620.out
                 have hcz66_0 : wc.cell? ⟨gb620, 0, none⟩ = some (.string t614) := (blk_cell BK620.out 0).trans rfl
                 have hcz66_1 : wc.cell? ⟨gb620, 1, none⟩ = some (.string t615) := (blk_cell BK620.out 1).trans rfl
                 have hcz66_2 : wc.cell? ⟨gb620, 2, none⟩ = some (.string t616) := (blk_cell BK620.out 2).trans rfl
                 have hcz66_3 : wc.cell? ⟨gb620, 3, none⟩ = some (.string t617) := (blk_cell BK620.out 3).trans rfl
                 have hcz66_4 : wc.cell? ⟨gb620, 4, none⟩ = some (.string t618) := (blk_cell BK620.out 4).trans rfl
                 have hcz66_5 : wc.cell? ⟨gb620, 5, none⟩ = some (.string t619) := (blk_cell BK620.out 5).trans rfl
                 have hfz66_0 := blk_frozen BK620.out 0
                 have hfz66_1 := blk_frozen BK620.out 1
                 have hfz66_2 := blk_frozen BK620.out 2
                 have hfz66_3 := blk_frozen BK620.out 3
                 have hfz66_4 := blk_frozen BK620.out 4
                 have hfz66_5 := blk_frozen BK620.out 5
                 go_wp2_with (first | ((with_reducible refine gate_builtin (b := .append) (xs := #[.tmp 72, .tmp 74]) rfl ?_); at_builtin; refine Kd.R_append k41 (w0 := w) w.heap.size rfl (.tmp 72) (.tmp 74) 23 41 (.agg #[(.string ⟨#[]⟩), (.string ⟨#[]⟩), (.string ⟨#[]⟩), (.string ⟨#[]⟩), (.string ⟨#[]⟩), (.string ⟨#[]⟩)]) 96 rfl Try.underlying23 info41 rfl (by decide) (by omega) u613003 x613003_1 (⟨(⟨t614, t615⟩ : S37), t616, (⟨t617, t618, t619⟩ : S39)⟩ : S41) [.string t614, .string t615, .string t616, .string t617, .string t618, .string t619] (fun k_ => some k_ ≠ (u613000 : Value).ownBlock ∧ some k_ ≠ (u613001 : Value).ownBlock ∧ some k_ ≠ (u613002 : Value).ownBlock ∧ k_ ≠ gb620) (fun _ => False) rfl rfl ?aP (fun _ hk => hk.elim) ?aF ?aO ?aB ?aS ?aL ?_; (case aP => exact k41_mkM _ _ _ (⟨(⟨t614, t615⟩ : S37), t616, (⟨t617, t618, t619⟩ : S39)⟩ : S41)); (case aB => exact (by repeat (first | (with_reducible first | exact HB.out | apply below_alloc | apply pw_below_drewN | apply below_drew1 | refine below_set ?_ GE611.out | refine below_set ?_ GE612.out | refine below_set ?_ GE620.out) | exact HB.out))); (case aF => exact (fun k_ hk => ⟨Kd.fresh' (Kd.R_lt (by (with_reducible repeat (first | apply Kd.R_alloc | apply Kd.R_drewN | apply Kd.R_drew)); exact HO_613000.out)) k_ hk, Kd.fresh' (Kd.R_lt (by (with_reducible repeat (first | apply Kd.R_alloc | apply Kd.R_drewN | apply Kd.R_drew)); exact HO_613001.out)) k_ hk, Kd.fresh' (Kd.R_lt (by (with_reducible repeat (first | apply Kd.R_alloc | apply Kd.R_drewN | apply Kd.R_drew)); exact HO_613002.out)) k_ hk, Kd.freshB (g := gb620) (o := .cells #[.string t614, .string t615, .string t616, .string t617, .string t618, .string t619] 41 (0, 0)) (by (with_reducible repeat (first | refine blk_drewN ?_ _ | refine blk_drew ?_ | refine blk_alloc ?_ _)); exact BK620.out) k_ hk⟩)); (case aO => exact (by (with_reducible repeat (first | apply Kd.R_alloc | apply Kd.R_drewN | apply Kd.R_drew)); exact HO_613003.out)); (case aS => exact (below_size (by repeat (first | (with_reducible first | exact HB.out | apply below_alloc | apply pw_below_drewN | apply below_drew1 | refine below_set ?_ GE611.out | refine below_set ?_ GE612.out | refine below_set ?_ GE620.out) | exact HB.out)))); (case aL => have := LMc61.out; omega); intro v632 w67 ho hb hg hat; rw [← Ny631.out] at ho; have n0_ := Aside0.mk (Kd.R_after (ok := (fun k_ => some k_ ≠ (u613001 : Value).ownBlock ∧ some k_ ≠ (u613002 : Value).ownBlock ∧ k_ ≠ gb620)) (by (with_reducible repeat (first | apply Kd.R_alloc | apply Kd.R_drewN | apply Kd.R_drew)); exact Kd.R_mono HO_613000.out (fun _ hk => ⟨⟨hk.1, ⟨hk.2.1, hk.2.2.2⟩⟩, hk.2.2.1⟩)) hg hat); have n1_ := Aside0.mk (Kd.R_after (ok := (fun k_ => some k_ ≠ (u613000 : Value).ownBlock ∧ some k_ ≠ (u613002 : Value).ownBlock ∧ k_ ≠ gb620)) (by (with_reducible repeat (first | apply Kd.R_alloc | apply Kd.R_drewN | apply Kd.R_drew)); exact Kd.R_mono HO_613001.out (fun _ hk => ⟨⟨hk.1, ⟨hk.2.1, hk.2.2.2⟩⟩, hk.2.2.1⟩)) hg hat); have n2_ := Aside0.mk (Kd.R_after (ok := (fun k_ => some k_ ≠ (u613000 : Value).ownBlock ∧ some k_ ≠ (u613001 : Value).ownBlock ∧ k_ ≠ gb620)) (by (with_reducible repeat (first | apply Kd.R_alloc | apply Kd.R_drewN | apply Kd.R_drew)); exact Kd.R_mono HO_613002.out (fun _ hk => ⟨⟨hk.1, ⟨hk.2.1, hk.2.2.2⟩⟩, hk.2.2.1⟩)) hg hat); have n3_ := Aside0.mk (blk_grown (g := gb611) (o := .cells #[.slice none 0 0, .slice none 0 0, .slice none 0 0, .slice none 0 0] 54 (0, 0)) (by (with_reducible repeat (first | refine blk_drewN ?_ _ | refine blk_drew ?_ | refine blk_alloc ?_ _)); exact BK611.out) hg (Kd.R_ne HO_613003.out BK611.out (by decide))); have n4_ := Aside0.mk (blk_grown (g := gb612) (o := .cells #[u613000, u613001, u613002, u613003] 54 (0, 0)) (by (with_reducible repeat (first | refine blk_drewN ?_ _ | refine blk_drew ?_ | refine blk_alloc ?_ _)); exact BK612.out) hg (Kd.R_ne HO_613003.out BK612.out (by decide))); have n5_ := Aside0.mk (blk_grown (g := gb620) (o := .cells #[.string t614, .string t615, .string t616, .string t617, .string t618, .string t619] 41 (0, 0)) (by (with_reducible repeat (first | refine blk_drewN ?_ _ | refine blk_drew ?_ | refine blk_alloc ?_ _)); exact BK620.out) hg (Kd.R_away HO_613003.out (fun _ hk => hk.2.2.2))); have n6_ := Aside0.mk (hb); have n7_ := Aside0.mk (ho); clear HO_613000; clear HO_613001; clear HO_613002; clear BK611; clear BK612; clear BK620; clear HB; clear HO_613003; have HO_613000 := n0_; have HO_613001 := n1_; have HO_613002 := n2_; have BK611 := n3_; have BK612 := n4_; have BK620 := n5_; have HB := n6_; have HO633 := n7_; clear n0_ n1_ n2_ n3_ n4_ n5_ n6_ n7_; clear ho hb hg hat; obtain ⟨Ao68, co68, eo68⟩ := Kd.R_slice HO633.out; subst eo68; have hcz69_0 : w67.cell? ⟨gb612, 0, none⟩ = some (u613000) := (blk_cell BK612.out 0).trans rfl; have hcz69_1 : w67.cell? ⟨gb612, 1, none⟩ = some (u613001) := (blk_cell BK612.out 1).trans rfl; have hcz69_2 : w67.cell? ⟨gb612, 2, none⟩ = some (u613002) := (blk_cell BK612.out 2).trans rfl; have hcz69_3 : w67.cell? ⟨gb612, 3, none⟩ = some (u613003) := (blk_cell BK612.out 3).trans rfl; have hfz69_0 := blk_frozen BK612.out 0; have hfz69_1 := blk_frozen BK612.out 1; have hfz69_2 := blk_frozen BK612.out 2; have hfz69_3 := blk_frozen BK612.out 3))
                 go_roundg kj35
                 case measure => have := HK1.out; have := HJ5.out; have := HJ11.out; have := HJ35.out; omega
                 case rel => exact ⟨(wrap64 (x4_1 + 1)), (x613000_1), (x613001_1), (x613002_1), (y631), (u613000), (u613001), (u613002), (.slice Ao68 y631.length co68), (by first | rfl | (simp; done) | (simp [*]; done)), H', ⟨by have := HK1.out; have := HJ5.out; have := HJ11.out; have := HJ35.out; omega⟩, ⟨by (with_reducible repeat (first | apply Kd.R_alloc | apply Kd.R_drewN | apply Kd.R_drew)); exact Kd.R_mono (Kd.R_far (p := ⟨gb612, 3, none⟩) (Kd.R_types HO_613000.out BK612.out (by decide)) (fun _ hk => hk.2) (.slice Ao68 y631.length co68)) (fun _ hk => ⟨hk.1.1.1, ⟨hk.1.1.2.1, hk.1.2⟩⟩)⟩, ⟨by (with_reducible repeat (first | apply Kd.R_alloc | apply Kd.R_drewN | apply Kd.R_drew)); exact Kd.R_mono (Kd.R_far (p := ⟨gb612, 3, none⟩) (Kd.R_types HO_613001.out BK612.out (by decide)) (fun _ hk => hk.2) (.slice Ao68 y631.length co68)) (fun _ hk => ⟨hk.1.1.1, ⟨hk.1.1.2.1, hk.1.2⟩⟩)⟩, ⟨by (with_reducible repeat (first | apply Kd.R_alloc | apply Kd.R_drewN | apply Kd.R_drew)); exact Kd.R_mono (Kd.R_far (p := ⟨gb612, 3, none⟩) (Kd.R_types HO_613002.out BK612.out (by decide)) (fun _ hk => hk.2) (.slice Ao68 y631.length co68)) (fun _ hk => ⟨hk.1.1.1, ⟨hk.1.1.2.1, hk.1.2⟩⟩)⟩, ⟨by (with_reducible repeat (first | apply Kd.R_alloc | apply Kd.R_drewN | apply Kd.R_drew)); exact Kd.R_mono (Kd.R_far (p := ⟨gb612, 3, none⟩) (Kd.R_types HO633.out BK612.out (by decide)) (fun _ hk => hk.2) (.slice Ao68 y631.length co68)) (fun _ hk => ⟨hk.1.1, ⟨hk.1.2.1, hk.1.2.2.1⟩⟩)⟩, ⟨by (with_reducible repeat (first | refine blk_drewN ?_ _ | refine blk_drew ?_ | refine blk_alloc ?_ _)); refine blk_far ?_ NB611_612.out _; (with_reducible repeat (first | refine blk_drewN ?_ _ | refine blk_drew ?_ | refine blk_alloc ?_ _)); exact BK611.out⟩, ⟨by (with_reducible repeat (first | refine blk_drewN ?_ _ | refine blk_drew ?_ | refine blk_alloc ?_ _)); refine blk_put (cs := #[u613000, u613001, u613002, u613003]) ?_ 3 _ rfl; (with_reducible repeat (first | refine blk_drewN ?_ _ | refine blk_drew ?_ | refine blk_alloc ?_ _)); exact BK612.out⟩, ⟨by repeat (first | (with_reducible first | exact HB.out | apply below_alloc | apply pw_below_drewN | apply below_drew1 | refine below_set ?_ GE611.out | refine below_set ?_ GE612.out | refine below_set ?_ GE620.out) | exact HB.out)⟩⟩
                ·rw [if_neg c61] at H
                 exact absurd H (by simp)
               ·rw [if_neg c60] at H
                have c60b0 : ((Go.bits .and .i64 (rd l0 x4_1) 15) == 14) = false := beq_eq_false_iff_ne.mpr c60
                have c60b1 : ((Go.bits .and .i64 (rd l0 x4_1) 15) != 14) = true := bne_iff_ne.mpr c60
                by_cases c70 : x613000_1.length < 1466015503701
                ·rw [if_pos c70] at H
                 have LMc70 := Aside0.mk c70
                 clear c70
                 obtain ⟨y634, hy634⟩ : ∃ y_ : List (S41), y_ = (x613000_1 ++ [(⟨(⟨(⟨#[]⟩ : ByteArray), (⟨#[]⟩ : ByteArray)⟩ : S37), (⟨#[120]⟩ : ByteArray), (⟨(⟨#[]⟩ : ByteArray), (⟨#[]⟩ : ByteArray), (⟨#[]⟩ : ByteArray)⟩ : S39)⟩ : S41)]) := ⟨_, rfl⟩
                 replace H : (entaillaw4_Batch.l0 kj35 l0 (wrap64 (x4_1 + 1)) y634 x613001_1 x613002_1 x613003_1) = some (r1, r2, r3, r4) := by first | (rw [hy634]; with_reducible exact H) | (have H2_ := (Option.bind_some _ _).symm.trans H; rw [hy634]; with_reducible exact H2_) | (have H2_ := (Option.bind_some _ _).symm.trans H; with_reducible exact H2_) | with_reducible exact H | (rw [hy634]; exact H) | exact H
                 have Ny634 := Aside0.mk hy634
                 clear hy634
                 have H' := Aside0.mk H
                 clear H
                 have hnb71 := NB612_611.out
                 have hnc71 := NB611_612.out
                 have hnb72 := NB612_620.out
                 have hnc72 := NB620_612.out
                 have hcz73_0 : wc.cell? ⟨gb612, 0, none⟩ = some (u613000) := (blk_cell BK612.out 0).trans rfl
                 have hcz73_1 : wc.cell? ⟨gb612, 1, none⟩ = some (u613001) := (blk_cell BK612.out 1).trans rfl
                 have hcz73_2 : wc.cell? ⟨gb612, 2, none⟩ = some (u613002) := (blk_cell BK612.out 2).trans rfl
                 have hcz73_3 : wc.cell? ⟨gb612, 3, none⟩ = some (u613003) := (blk_cell BK612.out 3).trans rfl
                 have hfz73_0 := blk_frozen BK612.out 0
                 have hfz73_1 := blk_frozen BK612.out 1
                 have hfz73_2 := blk_frozen BK612.out 2
                 have hfz73_3 := blk_frozen BK612.out 3
                 go_wp2_with (first | ((with_reducible refine gate_builtin (b := .append) (xs := #[.tmp 29, .tmp 31]) rfl ?_); at_builtin; refine Kd.R_append k41 (w0 := w) w.heap.size rfl (.tmp 29) (.tmp 31) 23 41 (.agg #[(.string ⟨#[]⟩), (.string ⟨#[]⟩), (.string ⟨#[]⟩), (.string ⟨#[]⟩), (.string ⟨#[]⟩), (.string ⟨#[]⟩)]) 96 rfl Try.underlying23 info41 rfl (by decide) (by omega) u613000 x613000_1 (⟨(⟨(⟨#[]⟩ : ByteArray), (⟨#[]⟩ : ByteArray)⟩ : S37), (⟨#[120]⟩ : ByteArray), (⟨(⟨#[]⟩ : ByteArray), (⟨#[]⟩ : ByteArray), (⟨#[]⟩ : ByteArray)⟩ : S39)⟩ : S41) [.string (⟨#[]⟩ : ByteArray), .string (⟨#[]⟩ : ByteArray), .string (⟨#[120]⟩ : ByteArray), .string (⟨#[]⟩ : ByteArray), .string (⟨#[]⟩ : ByteArray), .string (⟨#[]⟩ : ByteArray)] (fun k_ => some k_ ≠ (u613001 : Value).ownBlock ∧ some k_ ≠ (u613002 : Value).ownBlock ∧ some k_ ≠ (u613003 : Value).ownBlock ∧ k_ ≠ gb620) (fun _ => False) rfl rfl ?aP (fun _ hk => hk.elim) ?aF ?aO ?aB ?aS ?aL ?_; (case aP => exact k41_mkM _ _ _ (⟨(⟨(⟨#[]⟩ : ByteArray), (⟨#[]⟩ : ByteArray)⟩ : S37), (⟨#[120]⟩ : ByteArray), (⟨(⟨#[]⟩ : ByteArray), (⟨#[]⟩ : ByteArray), (⟨#[]⟩ : ByteArray)⟩ : S39)⟩ : S41)); (case aB => exact (by repeat (first | (with_reducible first | exact HB.out | apply below_alloc | apply pw_below_drewN | apply below_drew1 | refine below_set ?_ GE611.out | refine below_set ?_ GE612.out | refine below_set ?_ GE620.out) | exact HB.out))); (case aF => exact (fun k_ hk => ⟨Kd.fresh' (Kd.R_lt (by (with_reducible repeat (first | apply Kd.R_alloc | apply Kd.R_drewN | apply Kd.R_drew)); exact HO_613001.out)) k_ hk, Kd.fresh' (Kd.R_lt (by (with_reducible repeat (first | apply Kd.R_alloc | apply Kd.R_drewN | apply Kd.R_drew)); exact HO_613002.out)) k_ hk, Kd.fresh' (Kd.R_lt (by (with_reducible repeat (first | apply Kd.R_alloc | apply Kd.R_drewN | apply Kd.R_drew)); exact HO_613003.out)) k_ hk, Kd.freshB (g := gb620) (o := .cells #[.string t614, .string t615, .string t616, .string t617, .string t618, .string t619] 41 (0, 0)) (by (with_reducible repeat (first | refine blk_drewN ?_ _ | refine blk_drew ?_ | refine blk_alloc ?_ _)); exact BK620.out) k_ hk⟩)); (case aO => exact (by (with_reducible repeat (first | apply Kd.R_alloc | apply Kd.R_drewN | apply Kd.R_drew)); exact HO_613000.out)); (case aS => exact (below_size (by repeat (first | (with_reducible first | exact HB.out | apply below_alloc | apply pw_below_drewN | apply below_drew1 | refine below_set ?_ GE611.out | refine below_set ?_ GE612.out | refine below_set ?_ GE620.out) | exact HB.out)))); (case aL => have := LMc70.out; omega); intro v635 w74 ho hb hg hat; rw [← Ny634.out] at ho; have n0_ := Aside0.mk (Kd.R_after (ok := (fun k_ => some k_ ≠ (u613002 : Value).ownBlock ∧ some k_ ≠ (u613003 : Value).ownBlock ∧ k_ ≠ gb620)) (by (with_reducible repeat (first | apply Kd.R_alloc | apply Kd.R_drewN | apply Kd.R_drew)); exact Kd.R_mono HO_613001.out (fun _ hk => ⟨⟨hk.2.1, ⟨hk.2.2.1, hk.2.2.2⟩⟩, hk.1⟩)) hg hat); have n1_ := Aside0.mk (Kd.R_after (ok := (fun k_ => some k_ ≠ (u613001 : Value).ownBlock ∧ some k_ ≠ (u613003 : Value).ownBlock ∧ k_ ≠ gb620)) (by (with_reducible repeat (first | apply Kd.R_alloc | apply Kd.R_drewN | apply Kd.R_drew)); exact Kd.R_mono HO_613002.out (fun _ hk => ⟨⟨hk.2.1, ⟨hk.2.2.1, hk.2.2.2⟩⟩, hk.1⟩)) hg hat); have n2_ := Aside0.mk (Kd.R_after (ok := (fun k_ => some k_ ≠ (u613001 : Value).ownBlock ∧ some k_ ≠ (u613002 : Value).ownBlock ∧ k_ ≠ gb620)) (by (with_reducible repeat (first | apply Kd.R_alloc | apply Kd.R_drewN | apply Kd.R_drew)); exact Kd.R_mono HO_613003.out (fun _ hk => ⟨⟨hk.2.1, ⟨hk.2.2.1, hk.2.2.2⟩⟩, hk.1⟩)) hg hat); have n3_ := Aside0.mk (blk_grown (g := gb611) (o := .cells #[.slice none 0 0, .slice none 0 0, .slice none 0 0, .slice none 0 0] 54 (0, 0)) (by (with_reducible repeat (first | refine blk_drewN ?_ _ | refine blk_drew ?_ | refine blk_alloc ?_ _)); exact BK611.out) hg (Kd.R_ne HO_613000.out BK611.out (by decide))); have n4_ := Aside0.mk (blk_grown (g := gb612) (o := .cells #[u613000, u613001, u613002, u613003] 54 (0, 0)) (by (with_reducible repeat (first | refine blk_drewN ?_ _ | refine blk_drew ?_ | refine blk_alloc ?_ _)); exact BK612.out) hg (Kd.R_ne HO_613000.out BK612.out (by decide))); have n5_ := Aside0.mk (blk_grown (g := gb620) (o := .cells #[.string t614, .string t615, .string t616, .string t617, .string t618, .string t619] 41 (0, 0)) (by (with_reducible repeat (first | refine blk_drewN ?_ _ | refine blk_drew ?_ | refine blk_alloc ?_ _)); exact BK620.out) hg (Kd.R_away HO_613000.out (fun _ hk => hk.2.2.2))); have n6_ := Aside0.mk (hb); have n7_ := Aside0.mk (ho); clear HO_613001; clear HO_613002; clear HO_613003; clear BK611; clear BK612; clear BK620; clear HB; clear HO_613000; have HO_613001 := n0_; have HO_613002 := n1_; have HO_613003 := n2_; have BK611 := n3_; have BK612 := n4_; have BK620 := n5_; have HB := n6_; have HO636 := n7_; clear n0_ n1_ n2_ n3_ n4_ n5_ n6_ n7_; clear ho hb hg hat; obtain ⟨Ao75, co75, eo75⟩ := Kd.R_slice HO636.out; subst eo75; have hcz76_0 : w74.cell? ⟨gb612, 0, none⟩ = some (u613000) := (blk_cell BK612.out 0).trans rfl; have hcz76_1 : w74.cell? ⟨gb612, 1, none⟩ = some (u613001) := (blk_cell BK612.out 1).trans rfl; have hcz76_2 : w74.cell? ⟨gb612, 2, none⟩ = some (u613002) := (blk_cell BK612.out 2).trans rfl; have hcz76_3 : w74.cell? ⟨gb612, 3, none⟩ = some (u613003) := (blk_cell BK612.out 3).trans rfl; have hfz76_0 := blk_frozen BK612.out 0; have hfz76_1 := blk_frozen BK612.out 1; have hfz76_2 := blk_frozen BK612.out 2; have hfz76_3 := blk_frozen BK612.out 3))
                 go_roundg kj35
                 case measure => have := HK1.out; have := HJ5.out; have := HJ11.out; have := HJ35.out; omega
                 case rel => exact ⟨(wrap64 (x4_1 + 1)), (y634), (x613001_1), (x613002_1), (x613003_1), (.slice Ao75 y634.length co75), (u613001), (u613002), (u613003), (by first | rfl | (simp; done) | (simp [*]; done)), H', ⟨by have := HK1.out; have := HJ5.out; have := HJ11.out; have := HJ35.out; omega⟩, ⟨by (with_reducible repeat (first | apply Kd.R_alloc | apply Kd.R_drewN | apply Kd.R_drew)); exact Kd.R_mono (Kd.R_far (p := ⟨gb612, 0, none⟩) (Kd.R_types HO636.out BK612.out (by decide)) (fun _ hk => hk.2) (.slice Ao75 y634.length co75)) (fun _ hk => ⟨hk.1.1, ⟨hk.1.2.1, hk.1.2.2.1⟩⟩)⟩, ⟨by (with_reducible repeat (first | apply Kd.R_alloc | apply Kd.R_drewN | apply Kd.R_drew)); exact Kd.R_mono (Kd.R_far (p := ⟨gb612, 0, none⟩) (Kd.R_types HO_613001.out BK612.out (by decide)) (fun _ hk => hk.2) (.slice Ao75 y634.length co75)) (fun _ hk => ⟨hk.1.2, ⟨hk.1.1.1, hk.1.1.2.1⟩⟩)⟩, ⟨by (with_reducible repeat (first | apply Kd.R_alloc | apply Kd.R_drewN | apply Kd.R_drew)); exact Kd.R_mono (Kd.R_far (p := ⟨gb612, 0, none⟩) (Kd.R_types HO_613002.out BK612.out (by decide)) (fun _ hk => hk.2) (.slice Ao75 y634.length co75)) (fun _ hk => ⟨hk.1.2, ⟨hk.1.1.1, hk.1.1.2.1⟩⟩)⟩, ⟨by (with_reducible repeat (first | apply Kd.R_alloc | apply Kd.R_drewN | apply Kd.R_drew)); exact Kd.R_mono (Kd.R_far (p := ⟨gb612, 0, none⟩) (Kd.R_types HO_613003.out BK612.out (by decide)) (fun _ hk => hk.2) (.slice Ao75 y634.length co75)) (fun _ hk => ⟨hk.1.2, ⟨hk.1.1.1, hk.1.1.2.1⟩⟩)⟩, ⟨by (with_reducible repeat (first | refine blk_drewN ?_ _ | refine blk_drew ?_ | refine blk_alloc ?_ _)); refine blk_far ?_ NB611_612.out _; (with_reducible repeat (first | refine blk_drewN ?_ _ | refine blk_drew ?_ | refine blk_alloc ?_ _)); exact BK611.out⟩, ⟨by (with_reducible repeat (first | refine blk_drewN ?_ _ | refine blk_drew ?_ | refine blk_alloc ?_ _)); refine blk_put (cs := #[u613000, u613001, u613002, u613003]) ?_ 0 _ rfl; (with_reducible repeat (first | refine blk_drewN ?_ _ | refine blk_drew ?_ | refine blk_alloc ?_ _)); exact BK612.out⟩, ⟨by repeat (first | (with_reducible first | exact HB.out | apply below_alloc | apply pw_below_drewN | apply below_drew1 | refine below_set ?_ GE611.out | refine below_set ?_ GE612.out | refine below_set ?_ GE620.out) | exact HB.out)⟩⟩
                ·rw [if_neg c70] at H
                 exact absurd H (by simp)
       ·rw [if_neg c10] at H
        exact absurd H (by simp)
      ·rw [if_neg c9] at H
       exact absurd H (by simp)
     ·replace c8 := Bool.eq_false_iff.mpr c8
      subst c8
      have H1 : (some (x613000_1, x613001_1, x613002_1, x613003_1)) = some (r1, r2, r3, r4) := by rw [if_neg (show ¬ (false = true) by decide)] at H; exact H
      clear H
      have H := H1
      clear H1
      simp only [Option.some.injEq, Prod.mk.injEq] at H
      obtain ⟨rfl, rfl, rfl, rfl⟩ := H
      have hnb77 := NB612_611.out
      have hnc77 := NB611_612.out
      have hcz78_0 : wc.cell? ⟨gb612, 0, none⟩ = some (u613000) := (blk_cell BK612.out 0).trans rfl
      have hcz78_1 : wc.cell? ⟨gb612, 1, none⟩ = some (u613001) := (blk_cell BK612.out 1).trans rfl
      have hcz78_2 : wc.cell? ⟨gb612, 2, none⟩ = some (u613002) := (blk_cell BK612.out 2).trans rfl
      have hcz78_3 : wc.cell? ⟨gb612, 3, none⟩ = some (u613003) := (blk_cell BK612.out 3).trans rfl
      have hfz78_0 := blk_frozen BK612.out 0
      have hfz78_1 := blk_frozen BK612.out 1
      have hfz78_2 := blk_frozen BK612.out 2
      have hfz78_3 := blk_frozen BK612.out 3
      obtain ⟨Ao79, co79, eo79⟩ := Kd.R_slice HO_613000.out
      subst eo79
      have hcz80_0 : wc.cell? ⟨gb611, 0, none⟩ = some (.slice none 0 0) := (blk_cell BK611.out 0).trans rfl
      have hcz80_1 : wc.cell? ⟨gb611, 1, none⟩ = some (.slice none 0 0) := (blk_cell BK611.out 1).trans rfl
      have hcz80_2 : wc.cell? ⟨gb611, 2, none⟩ = some (.slice none 0 0) := (blk_cell BK611.out 2).trans rfl
      have hcz80_3 : wc.cell? ⟨gb611, 3, none⟩ = some (.slice none 0 0) := (blk_cell BK611.out 3).trans rfl
      have hfz80_0 := blk_frozen BK611.out 0
      have hfz80_1 := blk_frozen BK611.out 1
      have hfz80_2 := blk_frozen BK611.out 2
      have hfz80_3 := blk_frozen BK611.out 3
      obtain ⟨Ao81, co81, eo81⟩ := Kd.R_slice HO_613001.out
      subst eo81
      obtain ⟨Ao82, co82, eo82⟩ := Kd.R_slice HO_613002.out
      subst eo82
      obtain ⟨Ao83, co83, eo83⟩ := Kd.R_slice HO_613003.out
      subst eo83
      go_wp2
      refine bodyPost_ret (results_cell_row rfl _ _ gb611 54 #[.slice Ao79 x613000_1.length co79, .slice Ao81 x613001_1.length co81, .slice Ao82 x613002_1.length co82, .slice Ao83 x613003_1.length co83] (0, 0) _ rfl (by (with_reducible repeat (first | refine blk_drewN ?_ _ | refine blk_drew ?_ | refine blk_alloc ?_ _)); refine blk_put (cs := #[.slice Ao79 x613000_1.length co79, .slice Ao81 x613001_1.length co81, .slice Ao82 x613002_1.length co82, .slice none 0 0]) ?_ 3 _ rfl; (with_reducible repeat (first | refine blk_drewN ?_ _ | refine blk_drew ?_ | refine blk_alloc ?_ _)); refine blk_put (cs := #[.slice Ao79 x613000_1.length co79, .slice Ao81 x613001_1.length co81, .slice none 0 0, .slice none 0 0]) ?_ 2 _ rfl; (with_reducible repeat (first | refine blk_drewN ?_ _ | refine blk_drew ?_ | refine blk_alloc ?_ _)); refine blk_put (cs := #[.slice Ao79 x613000_1.length co79, .slice none 0 0, .slice none 0 0, .slice none 0 0]) ?_ 1 _ rfl; (with_reducible repeat (first | refine blk_drewN ?_ _ | refine blk_drew ?_ | refine blk_alloc ?_ _)); refine blk_put (cs := #[.slice none 0 0, .slice none 0 0, .slice none 0 0, .slice none 0 0]) ?_ 0 _ rfl; (with_reducible repeat (first | refine blk_drewN ?_ _ | refine blk_drew ?_ | refine blk_alloc ?_ _)); exact BK611.out) Try.underlying54 rfl (by kernel_rfl)) rfl ?_
      exact ⟨_, _, _, _, by first | rfl | (simp [errW_none, errW_some] <;> rfl) | (simp [*, errW_none, errW_some] <;> rfl), by (with_reducible repeat (first | apply Kd.R_alloc | apply Kd.R_drewN | apply Kd.R_drew)); exact Kd.R_mono (Kd.R_far (p := ⟨gb611, 3, none⟩) (Kd.R_far (p := ⟨gb611, 2, none⟩) (Kd.R_far (p := ⟨gb611, 1, none⟩) (Kd.R_far (p := ⟨gb611, 0, none⟩) (Kd.R_types HO_613000.out BK611.out (by decide)) (fun _ hk => hk.2) (.slice Ao79 x613000_1.length co79)) (fun _ hk => hk.2) (.slice Ao81 x613001_1.length co81)) (fun _ hk => hk.2) (.slice Ao82 x613002_1.length co82)) (fun _ hk => hk.2) (.slice Ao83 x613003_1.length co83)) (fun _ hk => ⟨hk.1.1, ⟨hk.1.2.1, hk.1.2.2⟩⟩), by (with_reducible repeat (first | apply Kd.R_alloc | apply Kd.R_drewN | apply Kd.R_drew)); exact Kd.R_mono (Kd.R_far (p := ⟨gb611, 3, none⟩) (Kd.R_far (p := ⟨gb611, 2, none⟩) (Kd.R_far (p := ⟨gb611, 1, none⟩) (Kd.R_far (p := ⟨gb611, 0, none⟩) (Kd.R_types HO_613001.out BK611.out (by decide)) (fun _ hk => hk.2) (.slice Ao79 x613000_1.length co79)) (fun _ hk => hk.2) (.slice Ao81 x613001_1.length co81)) (fun _ hk => hk.2) (.slice Ao82 x613002_1.length co82)) (fun _ hk => hk.2) (.slice Ao83 x613003_1.length co83)) (fun _ hk => ⟨hk.1.1, ⟨hk.1.2.1, hk.1.2.2⟩⟩), by (with_reducible repeat (first | apply Kd.R_alloc | apply Kd.R_drewN | apply Kd.R_drew)); exact Kd.R_mono (Kd.R_far (p := ⟨gb611, 3, none⟩) (Kd.R_far (p := ⟨gb611, 2, none⟩) (Kd.R_far (p := ⟨gb611, 1, none⟩) (Kd.R_far (p := ⟨gb611, 0, none⟩) (Kd.R_types HO_613002.out BK611.out (by decide)) (fun _ hk => hk.2) (.slice Ao79 x613000_1.length co79)) (fun _ hk => hk.2) (.slice Ao81 x613001_1.length co81)) (fun _ hk => hk.2) (.slice Ao82 x613002_1.length co82)) (fun _ hk => hk.2) (.slice Ao83 x613003_1.length co83)) (fun _ hk => ⟨hk.1.1, ⟨hk.1.2.1, hk.1.2.2⟩⟩), by (with_reducible repeat (first | apply Kd.R_alloc | apply Kd.R_drewN | apply Kd.R_drew)); exact Kd.R_mono (Kd.R_far (p := ⟨gb611, 3, none⟩) (Kd.R_far (p := ⟨gb611, 2, none⟩) (Kd.R_far (p := ⟨gb611, 1, none⟩) (Kd.R_far (p := ⟨gb611, 0, none⟩) (Kd.R_types HO_613003.out BK611.out (by decide)) (fun _ hk => hk.2) (.slice Ao79 x613000_1.length co79)) (fun _ hk => hk.2) (.slice Ao81 x613001_1.length co81)) (fun _ hk => hk.2) (.slice Ao82 x613002_1.length co82)) (fun _ hk => hk.2) (.slice Ao83 x613003_1.length co83)) (fun _ hk => ⟨hk.1.1, ⟨hk.1.2.1, hk.1.2.2⟩⟩), by repeat (first | (with_reducible first | exact HB.out | apply below_alloc | apply pw_below_drewN | apply below_drew1 | refine below_set ?_ GE611.out | refine below_set ?_ GE612.out) | exact HB.out)⟩

end Go.Proofs.Ytpgmeaofmlipkaa.PT
