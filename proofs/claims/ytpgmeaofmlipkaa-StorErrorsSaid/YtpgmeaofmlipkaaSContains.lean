/- Walks and contracts over the store of tuples (Contains). No condition beyond those that each contract names. -/
import Derived.Test.YtpgmeaofmlipkaaPTx0
import Derived.Test.YtpgmeaofmlipkaaPTx1037
import Derived.Test.YtpgmeaofmlipkaaPTx3037
import Derived.Test.YtpgmeaofmlipkaaHFlat
import Derived.Test.YtpgmeaofmlipkaaLaid
import Derived.Test.YtpgmeaofmlipkaaSCalls
import Derived.Lib.Hide
import Derived.Laws.EntriesVeiled
import Derived.Shelf.SlicesQ.IndexFunc
namespace Go.Proofs.Ytpgmeaofmlipkaa.PT
open Go.RowKit Go.Proofs.YtpgmeaofmlipkaaW.PrintWords Go.Proofs.YtpgmeaofmlipkaaW.PrintLast Go.Proofs.YtpgmeaofmlipkaaW.PrintMore
attribute [local go_sem] max2_int min2_int max_two min_two max_three min_three max_four min_four
set_option linter.unusedVariables false
set_option linter.unusedSimpArgs false
open Go.Proofs.YtpgmeaofmlipkaaH
set_option maxHeartbeats 1000000 in
theorem index_nil (A : Option Addr) (c : Nat) (fv : Value) (w : World) : Calls Try.prog 61 #[.slice A 0 c, fv] w fun e w' => e = .returned (.int .i64 (-1)) ∧ w' = w := by
  go_enter Try.func61, Try.ntmps61
  go_wp2
  refine wp_loop_rounds 1 ?_
  rw [rounds_succ]
  go_wp2
  go_ret
  exact ⟨rfl, rfl⟩
set_option maxHeartbeats 1000000 in
theorem contains_nil (A : Option Addr) (c : Nat) (fv : Value) (w : World) : Calls Try.prog 50 #[.slice A 0 c, fv] w fun e w' => e = .returned (.bool false) ∧ w' = w := by
  go_enter Try.func50, Try.ntmps50
  go_wp2_with (go_at_call 61; refine (index_nil _ _ _ _).mono ?_; rintro e w' ⟨rfl, rfl⟩)
  go_ret
  exact ⟨rfl, rfl⟩
/-- ContainsFunc over a row of tuples of which P holds. -/
theorem contains_c (P : S41 → Prop) (z : S41) (hz : P z) (p : S41 → Bool) (g : Nat) (lb : Array Value) (eg : ∀ args w, (callFunc g args).run Try.prog w = .ok (.enter g args) w)
    {w : World} {A c l} (h : Rd w A c l) (hl : l.length < 1000000000) (hP : ∀ t ∈ l, P t)
    (hp : ∀ (W : World) t, P t → Below w.heap.size w W → Calls Try.prog g (#[.agg (enc41 t).toArray] ++ lb) W fun e w' => e = .returned (.bool (p t)) ∧ Below W.heap.size W w') :
    Calls Try.prog 50 #[.slice A l.length c, .func (.func g) #[] lb] w fun e w' => e = .returned (.bool (l.any p)) ∧ Below w.heap.size w w' := by
  by_cases h0 : l = []
  · subst h0
    refine (contains_nil A c _ w).mono fun e w' ⟨he, hw⟩ => ?_
    subst hw
    exact ⟨he, Below.refl _ _⟩
  · obtain ⟨b, off, hA, hb⟩ := C_plain flat41 (by decide) h.C (List.length_pos_iff.2 h0)
    subst hA
    let : Inhabited {t : S41 // P t} := ⟨⟨z, hz⟩⟩
    have hzs : (l.pmap Subtype.mk hP).length = l.length := by simp
    have key := AnyQ.slices_ContainsFunc Try.containsFuncT 6 Try.isAgg41 Try.sizeOf41 (fun x : {t : S41 // P t} => enc41 x.1) (fun x => flat41.len x.1) (fun x => p x.1) g lb eg b off l.length c (l.pmap Subtype.mk hP) w
      (fun W x hb => (hp W x.1 x.2 hb).mono fun e w' ⟨he, h⟩ => ⟨he, below_then hb hb.size h⟩) (by omega) (by omega) hb (by
        intro j hj i v hv
        have hj2 : j < l.length := by omega
        have e1 : (l.pmap Subtype.mk hP)[j]! = ⟨l[j], hP _ (List.getElem_mem hj2)⟩ := by
          rw [getElem!_pos _ j hj, List.getElem_pmap]
        rw [e1] at hv
        have hi : i < 6 := by
          have := (List.getElem?_eq_some_iff.1 hv).1
          rw [flat41.len] at this
          exact this
        have h2 := C_cells flat41 (by decide) h.C ⟨b, off, none⟩ rfl (j * 6 + i) v (by
          rw [show j * 6 + i = j * k41.sz + i from rfl, cells_get flat41 l j i l[j] (List.getElem?_eq_getElem hj2) hi]; exact hv)
        rw [show (⟨b, off, none⟩ : Addr).add (j * 6 + i) = ⟨b, off + j * 6 + i, none⟩ by unfold Addr.add; split <;> simp_all <;> omega] at h2
        exact h2)
    have e2 : ((l.pmap Subtype.mk hP).take l.length).any (fun x => p x.1) = l.any p := by
      rw [← hzs, List.take_length]
      rw [Bool.eq_iff_iff, List.any_eq_true, List.any_eq_true]
      constructor
      · rintro ⟨x, hx, hp⟩
        obtain ⟨t, ht, rfl⟩ := List.mem_pmap.1 hx
        exact ⟨t, ht, hp⟩
      · rintro ⟨t, ht, hp⟩
        exact ⟨⟨t, hP t ht⟩, List.mem_pmap.2 ⟨t, ht, rfl⟩, hp⟩
    rw [e2] at key
    exact key
end Go.Proofs.Ytpgmeaofmlipkaa.PT
