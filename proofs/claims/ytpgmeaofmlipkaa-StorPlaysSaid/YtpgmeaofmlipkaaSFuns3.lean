/- Walks and contracts over the store of tuples (Funs3). No condition beyond those that each contract names. -/
import Derived.Test.YtpgmeaofmlipkaaPTx0
import Derived.Test.YtpgmeaofmlipkaaPTx1037
import Derived.Test.YtpgmeaofmlipkaaPTx3037
import Derived.Test.YtpgmeaofmlipkaaHFlat
import Derived.Test.YtpgmeaofmlipkaaLaid
import Derived.Test.YtpgmeaofmlipkaaSCalls2
import Derived.Test.YtpgmeaofmlipkaaAtomPlain3
import Derived.Lib.Hide
import Derived.Laws.EntriesVeiled
import Derived.Shelf.SlicesQ.IndexFunc
namespace Go.Proofs.Ytpgmeaofmlipkaa.PT
open Go.RowKit Go.Proofs.YtpgmeaofmlipkaaW.PrintWords Go.Proofs.YtpgmeaofmlipkaaW.PrintLast Go.Proofs.YtpgmeaofmlipkaaW.PrintMore
attribute [local go_sem] max2_int min2_int max_two min_two max_three min_three max_four min_four
set_option linter.unusedVariables false
set_option linter.unusedSimpArgs false
open Go.Proofs.YtpgmeaofmlipkaaH
set_option maxHeartbeats 1000000 in
theorem index_nil (A : Option Addr) (c : Nat) (fv : Value) (w : World) : Calls Try.prog 61 #[.slice A 0 c, fv] w fun e w' => e = .returned (.int .i64 (-1)) ∧ w' = w := by
  go_enter Try.func61, Try.ntmps61
  go_wp2
  refine wp_loop_rounds 1 ?_
  rw [rounds_succ]
  go_wp2
  go_ret
  exact ⟨rfl, rfl⟩
set_option maxHeartbeats 1000000 in
theorem contains_nil (A : Option Addr) (c : Nat) (fv : Value) (w : World) : Calls Try.prog 50 #[.slice A 0 c, fv] w fun e w' => e = .returned (.bool false) ∧ w' = w := by
  go_enter Try.func50, Try.ntmps50
  go_wp2_with (go_at_call 61; refine (index_nil _ _ _ _).mono ?_; rintro e w' ⟨rfl, rfl⟩)
  go_ret
  exact ⟨rfl, rfl⟩
/-- ContainsFunc over a row of tuples of which P holds. -/
theorem contains_c (P : S41 → Prop) (z : S41) (hz : P z) (p : S41 → Bool) (g : Nat) (lb : Array Value) (eg : ∀ args w, (callFunc g args).run Try.prog w = .ok (.enter g args) w)
    {w : World} {A c l} (h : Rd w A c l) (hl : l.length < 1000000000) (hP : ∀ t ∈ l, P t)
    (hp : ∀ (W : World) t, P t → Below w.heap.size w W → Calls Try.prog g (#[.agg (enc41 t).toArray] ++ lb) W fun e w' => e = .returned (.bool (p t)) ∧ Below W.heap.size W w') :
    Calls Try.prog 50 #[.slice A l.length c, .func (.func g) #[] lb] w fun e w' => e = .returned (.bool (l.any p)) ∧ Below w.heap.size w w' := by
  by_cases h0 : l = []
  · subst h0
    refine (contains_nil A c _ w).mono fun e w' ⟨he, hw⟩ => ?_
    subst hw
    exact ⟨he, Below.refl _ _⟩
  · obtain ⟨b, off, hA, hb⟩ := C_plain flat41 (by decide) h.C (List.length_pos_iff.2 h0)
    subst hA
    let : Inhabited {t : S41 // P t} := ⟨⟨z, hz⟩⟩
    have hzs : (l.pmap Subtype.mk hP).length = l.length := by simp
    have key := AnyQ.slices_ContainsFunc Try.containsFuncT 6 Try.isAgg41 Try.sizeOf41 (fun x : {t : S41 // P t} => enc41 x.1) (fun x => flat41.len x.1) (fun x => p x.1) g lb eg b off l.length c (l.pmap Subtype.mk hP) w
      (fun W x hb => (hp W x.1 x.2 hb).mono fun e w' ⟨he, h⟩ => ⟨he, below_then hb hb.size h⟩) (by omega) (by omega) hb (by
        intro j hj i v hv
        have hj2 : j < l.length := by omega
        have e1 : (l.pmap Subtype.mk hP)[j]! = ⟨l[j], hP _ (List.getElem_mem hj2)⟩ := by
          rw [getElem!_pos _ j hj, List.getElem_pmap]
        rw [e1] at hv
        have hi : i < 6 := by
          have := (List.getElem?_eq_some_iff.1 hv).1
          rw [flat41.len] at this
          exact this
        have h2 := C_cells flat41 (by decide) h.C ⟨b, off, none⟩ rfl (j * 6 + i) v (by
          rw [show j * 6 + i = j * k41.sz + i from rfl, cells_get flat41 l j i l[j] (List.getElem?_eq_getElem hj2) hi]; exact hv)
        rw [show (⟨b, off, none⟩ : Addr).add (j * 6 + i) = ⟨b, off + j * 6 + i, none⟩ by unfold Addr.add; split <;> simp_all <;> omega] at h2
        exact h2)
    have e2 : ((l.pmap Subtype.mk hP).take l.length).any (fun x => p x.1) = l.any p := by
      rw [← hzs, List.take_length]
      rw [Bool.eq_iff_iff, List.any_eq_true, List.any_eq_true]
      constructor
      · rintro ⟨x, hx, hp⟩
        obtain ⟨t, ht, rfl⟩ := List.mem_pmap.1 hx
        exact ⟨t, ht, hp⟩
      · rintro ⟨t, ht, hp⟩
        exact ⟨⟨t, hP t ht⟩, List.mem_pmap.2 ⟨t, ht, rfl⟩, hp⟩
    rw [e2] at key
    exact key
open Go.Proofs.YtpgmeaofmlipkaaH
/-- The store at block g: its bound, the sets that were, the set that is. -/
structure St (w : World) (B g : Nat) (q : Option Nat) (m : Int) (past : List (List S41)) (now : List S41) : Prop where
  mk :: (out : ∃ v, v.ownBlock = q ∧ w.heap[g]? = some (.cells #[.int .i64 m, v] 77 (0, 0)) ∧ B ≤ g ∧ Kd.R (Kd.slice 41 k41) 23 w B (fun _ => True) v (past ++ [now]))
theorem St.below {w w1 : World} {B g : Nat} {q : Option Nat} {m : Int} {past now} (h : St w B g q m past now) (hb : Below w.heap.size w w1) : St w1 B g q m past now := by
  obtain ⟨v, hq, hg, hB, hR⟩ := h.out
  exact ⟨v, hq, (hb.block g (Array.getElem?_eq_some_iff.1 hg).1).trans hg, hB, Kd.R_below hR hb⟩
theorem St.lt {w : World} {B g : Nat} {q : Option Nat} {m : Int} {past now} (h : St w B g q m past now) : g < w.heap.size := by
  obtain ⟨v, hq, hg, hB, hR⟩ := h.out
  exact (Array.getElem?_eq_some_iff.1 hg).1
/-- What a walk asks of a store. -/
theorem St.reads {w : World} {B g : Nat} {q : Option Nat} {m : Int} {past now} (h : St w B g q m past now) : ∃ A c, w.cell? ⟨g, 0, none⟩ = some (.int .i64 m) ∧ w.cell? ⟨g, 1, none⟩ = some (.slice A (past.length + 1) c) ∧ w.frozen? ⟨g, 0, none⟩ = false ∧ past.length + 1 ≤ 9223372036854775807 ∧ Kd.C (Kd.slice 41 k41) w A (past.length + 1) (past ++ [now]) := by
  obtain ⟨v, hq, hg, hB, hR⟩ := h.out
  obtain ⟨A, c, rfl, hl, hC⟩ := Kd.R_reads hR
  rw [List.length_append, List.length_singleton] at hg hC
  exact ⟨A, c, (blk_cell hg 0).trans rfl, (blk_cell hg 1).trans rfl, blk_frozen hg 0, hC.2.1, hC⟩
set_option maxHeartbeats 1000000 in
theorem rev_any {w : World} {B g : Nat} {q : Option Nat} {m : Int} {past now} (h : St w B g q m past now) : Calls Try.prog 27 #[.pointer (some ⟨g, 0, none⟩)] w fun e w' => e = .returned (.int .i64 past.length) ∧ w' = w := by
  obtain ⟨A, c, h0, h1, h2, h3, h4⟩ := h.reads
  have H4 := Lib.hid h4
  clear h4 h
  go_enter Try.func27, Try.ntmps27
  go_wp2
  go_ret
  exact ⟨by first | rfl | (congr 2; done) | (congr 2; omega), rfl⟩
/-- Where the set that is lies. -/
structure NowIs (w : World) (g n : Nat) (A : Option Addr) (c : Nat) (now : List S41) : Prop where
  mk :: (out : ∃ ad c0, w.cell? ⟨g, 1, none⟩ = some (.slice (some ad) (n + 1) c0) ∧ w.cell? (ad.add n) = some (.slice A now.length c) ∧ now.length ≤ c ∧ Kd.C k41 w A now.length now)
theorem NowIs.below {w w1 : World} {g n : Nat} {A : Option Addr} {c : Nat} {now : List S41} (h : NowIs w g n A c now) (hb : Below w.heap.size w w1) : NowIs w1 g n A c now := by
  obtain ⟨ad, c0, h1, h2, h3, h4⟩ := h.out
  exact ⟨ad, c0, pw_cell_below hb h1, pw_cell_below hb h2, h3, Kd.C_below h4 hb⟩
theorem St.nowIs {w : World} {B g : Nat} {q : Option Nat} {m : Int} {past now} (h : St w B g q m past now) : ∃ A c, NowIs w g past.length A c now := by
  obtain ⟨A, c, h0, h1, h2, h3, h4⟩ := h.reads
  obtain ⟨ad, cs, rfl, hlen, hK, hcell⟩ := Kd.C_get h4 ([] : List S41) past.length (by omega) (by omega)
  obtain ⟨A2, c2, rfl, hl2, hC2⟩ := hK
  have e : (past ++ [now]).getD (past.length : Int).toNat [] = now := by simp
  rw [e] at hl2 hC2 hcell
  have hcz := hcell 0 _ rfl
  have hcz2 : w.cell? (ad.add past.length) = some (.slice A2 now.length c2) := by simpa [Kd.slice] using hcz
  exact ⟨A2, c2, ⟨ad, c, h1, hcz2, hl2, hC2⟩⟩
set_option maxHeartbeats 1000000 in
theorem now_at {w : World} {B g : Nat} {q : Option Nat} {m : Int} {past now} (h : St w B g q m past now) {A : Option Addr} {c : Nat} (hn : NowIs w g past.length A c now) : Calls Try.prog 47 #[.pointer (some ⟨g, 0, none⟩)] w fun e w' => e = .returned (.slice A now.length c) ∧ ∃ q, w' = w.drewN q := by
  obtain ⟨A0, c00, h0, h1, h2, h3, h4⟩ := h.reads
  have hrev := Lib.hid (fun q => rev_any (h.below (pw_below_drewN (Below.refl _ _) q)))
  obtain ⟨ad, c0, k1, hcz2, k3, k4⟩ := hn.out
  have K4 := Lib.hid k4
  clear h4 h hn k4 h1 k3
  go_enter Try.func47, Try.ntmps47
  go_wp2
  go_quiet ((go_at_call 27; exact Calls.quiet_of_same (hrev.out _)))
  go_wp2
  go_ret
  exact ⟨rfl, _, rfl⟩
theorem now_any {w : World} {B g : Nat} {q : Option Nat} {m : Int} {past now} (h : St w B g q m past now) : Calls Try.prog 47 #[.pointer (some ⟨g, 0, none⟩)] w fun e w' => ∃ A c, e = .returned (.slice A now.length c) ∧ now.length ≤ c ∧ Kd.C k41 w A now.length now ∧ ∃ q, w' = w.drewN q := by
  obtain ⟨A, c, hn⟩ := h.nowIs
  obtain ⟨ad, c0, h1, h2, h3, h4⟩ := hn.out
  exact (now_at h hn).mono fun e w' ⟨he, hw⟩ => ⟨A, c, he, h3, h4, hw⟩
/-- How many a store takes. -/
def clampM (m : Int) : Int := min (max m 0) 1000000
theorem heap_newS {w : World} {o : Obj} {i : Nat} (h : i = w.heap.size) : (w.alloc o).heap[i]? = some o := by
  rw [h]; exact heap_alloc_new w o
theorem one_nil (W : World) (t : Nat) (ok : Nat → Prop) {B : Nat} (hB : B ≤ W.heap.size) (hok : ok W.heap.size) : Kd.R (Kd.slice 41 k41) t (W.alloc (.cells #[.slice none 0 0] t)) B ok (.slice (some ⟨W.heap.size, 0, none⟩) 1 1) ([[]] : List (List S41)) := by
  refine ⟨fun k hk => ?_, [.slice none 0 0], World.ownsRow_lit W #[.slice none 0 0] 1 hB (by decide) (by decide), by decide, fun j p hj => ?_⟩
  · have : W.heap.size = k := by simpa [Value.ownBlock] using hk
    rw [← this]; exact hok
  · match j, hj with
    | 0, hj =>
      obtain rfl : [] = p := by simpa using hj
      exact ⟨_, rfl, Kd.R_nil _ _ _ _ _⟩
    | j + 1, hj => simp at hj
def NewSt (m : Int) (w : World) (e : Ending) (w' : World) : Prop := ∃ g q, e = .returned (.pointer (some ⟨g, 0, none⟩)) ∧ St w' w.heap.size g q (clampM m) [] [] ∧ Below w.heap.size w w'
set_option maxHeartbeats 1000000 in
theorem new_any (m : Int) (w : World) : Calls Try.prog 26 #[.int .i64 m] w (NewSt m w) := by
  go_enter Try.func26, Try.ntmps26
  go_wp2
  all_goals
    have hm : ∀ x : Int, x = clampM m → Obj.cells #[Value.int IntKind.i64 x, Value.slice (some { block := w.heap.size, off := 0 }) 1 1] 77 = .cells #[.int .i64 (clampM m), .slice (some ⟨w.heap.size, 0, none⟩) 1 1] 77 (0, 0) := fun x h => by rw [h]
    go_ret
    refine ⟨_, _, rfl, ⟨_, rfl, ?_, ?_, Kd.R_below (one_nil w 23 _ (Nat.le_refl _) trivial) ?_⟩, ?_⟩
    · rw [hm _ (by unfold clampM; omega)]
      exact heap_newS (by simp)
    · simp
    · exact below_alloc (Below.refl _ _) _
    · exact below_alloc (below_alloc (Below.refl _ _) _) _
set_option maxHeartbeats 1000000 in
theorem len_any {w : World} {B g : Nat} {q : Option Nat} {m : Int} {past now} (h : St w B g q m past now) : Calls Try.prog 35 #[.pointer (some ⟨g, 0, none⟩)] w fun e w' => e = .returned (.int .i64 now.length) ∧ ∃ q, w' = w.drewN q := by
  have hnow := Lib.hid (now_any h)
  clear h
  go_enter Try.func35, Try.ntmps35
  go_wp2_with (go_at_call 47; refine hnow.out.mono ?_; rintro e w' ⟨A, c, rfl, hl, hC, q, rfl⟩)
  go_ret
  exact ⟨rfl, _, rfl⟩
set_option maxHeartbeats 1000000 in
theorem all_any {w : World} {B g : Nat} {q : Option Nat} {m : Int} {past now} (h : St w B g q m past now) (hlt : now.length < 1466015503701) : Calls Try.prog 28 #[.pointer (some ⟨g, 0, none⟩)] w fun e w' => ∃ v, e = .returned v ∧ Kd.R k41 41 w' w.heap.size (fun _ => True) v now ∧ Below w.heap.size w w' := by
  have hnow := Lib.hid (now_any h)
  have hcl := Lib.hid (fun A c q h1 h2 => api_Tuple_37.calls A c now now (w.drewN q) h1 h2 (by simp [api_Tuple_37.f, hlt]))
  clear h hlt
  go_enter Try.func28, Try.ntmps28
  go_wp2_with (first | (go_at_call 47; refine hnow.out.mono ?_; rintro e w' ⟨A, c, rfl, hl, hC, q, rfl⟩; have HC := Lib.hid hC; clear hC) | (go_at_call 37; refine (hcl.out _ _ _ (Kd.C_below HC.out (pw_below_drewN (Below.refl _ _) _)) hl).mono ?_; rintro e w1 ⟨v, rfl, hR, hB⟩; have HR := Lib.hid hR; clear hR; have HB := Lib.hid hB; clear hB))
  go_ret
  exact ⟨_, rfl, HR.out, (pw_below_drewN (Below.refl _ _) _).trans HB.out⟩
set_option maxHeartbeats 1000000 in
theorem at_none {w : World} {B g : Nat} {q : Option Nat} {m : Int} {past now} (h : St w B g q m past now) (r : Int) (hr : r < 0 ∨ (past.length : Int) < r) : Calls Try.prog 31 #[.pointer (some ⟨g, 0, none⟩), .int .i64 r] w fun e w' => e = .returned (.tuple #[.slice none 0 0, .bool false]) ∧ w' = w := by
  have hrev := Lib.hid (rev_any h)
  clear h
  by_cases h0 : r < 0
  · go_enter Try.func31, Try.ntmps31
    go_wp2
    go_ret2
    exact ⟨rfl, rfl⟩
  · have h1 : (past.length : Int) < r := by omega
    clear hr
    have d0 : decide (r < 0) = false := decide_eq_false h0
    have d1 : decide ((past.length : Int) < r) = true := decide_eq_true h1
    clear h0 h1
    go_enter Try.func31, Try.ntmps31
    go_wp2_with (go_at_call 27; refine hrev.out.mono ?_; rintro e w' ⟨rfl, rfl⟩)
    go_ret2
    exact ⟨rfl, rfl⟩
set_option maxHeartbeats 1000000 in
theorem at_some {w : World} {B g : Nat} {q : Option Nat} {m : Int} {past now} (h : St w B g q m past now) (r : Nat) (l : List S41) (hl : (past ++ [now])[r]? = some l) (hlt : l.length < 1466015503701) : Calls Try.prog 31 #[.pointer (some ⟨g, 0, none⟩), .int .i64 r] w fun e w' => ∃ v, e = .returned (.tuple #[v, .bool true]) ∧ Kd.R k41 41 w' w.heap.size (fun _ => True) v l ∧ Below w.heap.size w w' := by
  obtain ⟨A, c, h0, h1, h2, h3, h4⟩ := h.reads
  have hrev := Lib.hid (rev_any h)
  have hr : r < past.length + 1 := by have := (List.getElem?_eq_some_iff.1 hl).1; simpa using this
  obtain ⟨ad, cs, rfl, hlen, hK, hcell⟩ := Kd.C_get h4 ([] : List S41) r (by omega) (by omega)
  obtain ⟨A2, c2, rfl, hl2, hC2⟩ := hK
  have e : (past ++ [now]).getD (r : Int).toNat [] = l := by simp [List.getD_eq_getElem?_getD, hl]
  rw [e] at hl2 hC2 hcell
  have hcz := hcell 0 _ rfl
  have hcz2 : w.cell? (ad.add r) = some (.slice A2 l.length c2) := by simpa [Kd.slice] using hcz
  have hcl := Lib.hid (fun q => api_Tuple_37.calls A2 c2 l l (w.drewN q) (Kd.C_below hC2 (pw_below_drewN (Below.refl _ _) _)) hl2 (by simp [api_Tuple_37.f, hlt]))
  have d0 : decide ((r : Int) < 0) = false := decide_eq_false (by omega)
  have d1 : decide ((past.length : Int) < (r : Int)) = false := decide_eq_false (by omega)
  have d2 : decide (past.length < r) = false := decide_eq_false (by omega)
  clear h4 h hC2 hcell hcz hlen e hl
  go_enter Try.func31, Try.ntmps31
  go_wp2_with (first | (go_at_call 27; refine hrev.out.mono ?_; rintro e w' ⟨rfl, rfl⟩) | (go_at_call 37; refine (hcl.out 0).mono ?_; rintro e w1 ⟨v, rfl, hR, hB⟩; have HR := Lib.hid hR; clear hR; have HB := Lib.hid hB; clear hB))
  go_ret2
  exact ⟨_, rfl, HR.out, HB.out⟩
open Go.Proofs.YtpgmeaofmlipkaaH
def badB (t : S41) : Bool := !okT t
theorem ok_c (t : S41) (hs : Small t) (w : World) : Calls Try.prog 60 #[.agg #[.string t.f0.f0, .string t.f0.f1, .string t.f1, .string t.f2.f0, .string t.f2.f1, .string t.f2.f2]] w fun e w' => e = .returned (.bool (okT t)) ∧ Below w.heap.size w w' := by
  obtain ⟨k, hk⟩ := ok_ev t hs
  exact tupl_Ok.calls k _ _ _ _ _ _ _ w (hk k (Nat.le_refl _))
theorem rok_c (t : S41) (hs : Small t) (w : World) : Calls Try.prog 53 #[.agg #[.string t.f0.f0, .string t.f0.f1, .string t.f1, .string t.f2.f0, .string t.f2.f1, .string t.f2.f2]] w fun e w' => e = .returned (.bool (okT t)) ∧ Below w.heap.size w w' := by
  obtain ⟨k, hk⟩ := rok_ev t hs
  exact entailref1_Ok.calls k _ _ _ _ _ _ _ w (hk k (Nat.le_refl _))
set_option maxHeartbeats 1000000 in
theorem wrong1_c (t : S41) (hs : Small t) (w : World) : Calls Try.prog 59 #[.agg #[.string t.f0.f0, .string t.f0.f1, .string t.f1, .string t.f2.f0, .string t.f2.f1, .string t.f2.f2]] w fun e w' => e = .returned (.bool (badB t)) ∧ Below w.heap.size w w' := by
  have hok := Lib.hid (fun W => ok_c t hs W)
  have HB := Lib.hid (fun o => below_alloc (Below.refl w.heap.size w) o)
  go_enter Try.func59, Try.ntmps59
  go_wp2_with (go_at_call 60; refine (hok.out _).mono ?_; rintro e w' ⟨rfl, hb⟩; have HC := Lib.hid hb; clear hb)
  go_ret
  exact ⟨rfl, below_then (HB.out _) (by simp) HC.out⟩
theorem wrong_all {w : World} {A c l} (h : Rd w A c l) (hl : l.length < 1000000000) (hs : ∀ t ∈ l, Small t) : Calls Try.prog 50 #[.slice A l.length c, .func (.func 59) #[] #[]] w fun e w' => e = .returned (.bool (l.any badB)) ∧ Below w.heap.size w w' :=
  contains_c Small z41 ⟨by decide, by decide⟩ badB 59 #[] (enters_of Try.func59 (by kernel_rfl) rfl) h hl hs fun W t ht _ => wrong1_c t ht W
set_option maxHeartbeats 1000000 in
theorem wrong_c {w : World} {A c l} (h : Rd w A c l) (hl : l.length < 1000000000) (hs : ∀ t ∈ l, Small t) : Calls Try.prog 48 #[.slice A l.length c] w fun e w' => e = .returned (.bool (l.any badB)) ∧ Below w.heap.size w w' := by
  have hc := Lib.hid (wrong_all h hl hs)
  clear h hl hs
  generalize l.any badB = r at hc
  go_enter Try.func48, Try.ntmps48
  go_wp2_with (go_at_call 50; refine hc.out.mono ?_; rintro e w' ⟨rfl, hb⟩; have HC := Lib.hid hb; clear hb)
  go_ret
  exact ⟨rfl, HC.out⟩
set_option maxHeartbeats 1000000 in
theorem has1_c {w : World} {A c l} {bn : Nat} (h : Rd w A c l) (hl : l.length < 1000000000) (hs : SS cmpT l) (hc : w.cell? ⟨bn, 0, none⟩ = some (.slice A l.length c)) (t : S41) : Calls Try.prog 49 #[.agg #[.string t.f0.f0, .string t.f0.f1, .string t.f1, .string t.f2.f0, .string t.f2.f1, .string t.f2.f2], .pointer (some ⟨bn, 0, none⟩)] w fun e w' => e = .returned (.bool (decide (t ∈ l))) ∧ Below w.heap.size w w' := by
  have HB := Lib.hid (fun o => below_alloc (Below.refl w.heap.size w) o)
  have hh := Lib.hid (fun W hb => has_c (h.below (w1 := W) hb) hl hs t)
  have hbn : bn < w.heap.size := World.block_lt_of_cell? w _ hc
  have HC1 : (w.alloc (.cells #[.string t.f0.f0, .string t.f0.f1, .string t.f1, .string t.f2.f0, .string t.f2.f1, .string t.f2.f2] 41)).cell? ⟨bn, 0, none⟩ = some (.slice A l.length c) := pw_cell_below (HB.out _) hc
  clear h hs
  generalize decide (t ∈ l) = r at hh
  go_enter Try.func49, Try.ntmps49
  go_wp2_with (go_at_call 23; refine (hh.out _ (HB.out _)).mono ?_; rintro e w' ⟨rfl, hb⟩; have HC := Lib.hid hb; clear hb)
  go_ret
  exact ⟨rfl, below_then (HB.out _) (by simp) HC.out⟩
set_option maxHeartbeats 1000000 in
theorem hasno_c {w : World} {A c l} {bn bh : Nat} (h : Rd w A c l) (hl : l.length < 1000000000) (hs : SS cmpT l) (hc : w.cell? ⟨bn, 0, none⟩ = some (.slice A l.length c)) (hh : w.cell? ⟨bh, 0, none⟩ = some (.func (.func 49) #[] #[.pointer (some ⟨bn, 0, none⟩)])) (t : S41) : Calls Try.prog 51 #[.agg #[.string t.f0.f0, .string t.f0.f1, .string t.f1, .string t.f2.f0, .string t.f2.f1, .string t.f2.f2], .pointer (some ⟨bh, 0, none⟩)] w fun e w' => e = .returned (.bool (!decide (t ∈ l))) ∧ Below w.heap.size w w' := by
  have HB := Lib.hid (fun o => below_alloc (Below.refl w.heap.size w) o)
  have hcl := Lib.hid (fun W hb => has1_c (h.below (w1 := W) hb) hl hs (pw_cell_below hb hc) t)
  have HC1 : (w.alloc (.cells #[.string t.f0.f0, .string t.f0.f1, .string t.f1, .string t.f2.f0, .string t.f2.f1, .string t.f2.f2] 41)).cell? ⟨bh, 0, none⟩ = some (.func (.func 49) #[] #[.pointer (some ⟨bn, 0, none⟩)]) := pw_cell_below (HB.out _) hh
  clear h hs hc
  generalize decide (t ∈ l) = r at hcl
  go_enter Try.func51, Try.ntmps51
  go_wp2_with (go_at_call 49; refine (hcl.out _ (HB.out _)).mono ?_; rintro e w' ⟨rfl, hb⟩; have HC := Lib.hid hb; clear hb)
  go_ret
  exact ⟨rfl, below_then (HB.out _) (by simp) HC.out⟩
theorem must_c {w : World} {A c l A2 c2 m} {bn bh : Nat} (h : Rd w A c l) (hl : l.length < 1000000000) (hs : SS cmpT l) (hc : w.cell? ⟨bn, 0, none⟩ = some (.slice A l.length c)) (hh : w.cell? ⟨bh, 0, none⟩ = some (.func (.func 49) #[] #[.pointer (some ⟨bn, 0, none⟩)])) (h2 : Rd w A2 c2 m) (hm : m.length < 1000000000) :
    Calls Try.prog 50 #[.slice A2 m.length c2, .func (.func 51) #[] #[.pointer (some ⟨bh, 0, none⟩)]] w fun e w' => e = .returned (.bool (m.any fun t => !decide (t ∈ l))) ∧ Below w.heap.size w w' :=
  contains_c (fun _ => True) z41 trivial (fun t => !decide (t ∈ l)) 51 #[.pointer (some ⟨bh, 0, none⟩)] (enters_of Try.func51 (by kernel_rfl) rfl) h2 hm (fun _ _ => trivial) fun W t _ hb => hasno_c (h.below hb) hl hs (pw_cell_below hb hc) (pw_cell_below hb hh) t
theorem not_c {w : World} {A c l A2 c2 m} {bn : Nat} (h : Rd w A c l) (hl : l.length < 1000000000) (hs : SS cmpT l) (hc : w.cell? ⟨bn, 0, none⟩ = some (.slice A l.length c)) (h2 : Rd w A2 c2 m) (hm : m.length < 1000000000) :
    Calls Try.prog 50 #[.slice A2 m.length c2, .func (.func 49) #[] #[.pointer (some ⟨bn, 0, none⟩)]] w fun e w' => e = .returned (.bool (m.any fun t => decide (t ∈ l))) ∧ Below w.heap.size w w' :=
  contains_c (fun _ => True) z41 trivial (fun t => decide (t ∈ l)) 49 #[.pointer (some ⟨bn, 0, none⟩)] (enters_of Try.func49 (by kernel_rfl) rfl) h2 hm (fun _ _ => trivial) fun W t _ hb => has1_c (h.below hb) hl hs (pw_cell_below hb hc) t
end Go.Proofs.Ytpgmeaofmlipkaa.PT
