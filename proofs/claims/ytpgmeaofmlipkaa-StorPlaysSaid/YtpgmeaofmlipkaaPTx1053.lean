-- Written by a program of this session (wip/tools/pp.py over the kit's printer). Lean checks it.
import Derived.Test.YtpgmeaofmlipkaaPTx0
import Derived.Test.YtpgmeaofmlipkaaPTx1062
import Derived.Test.YtpgmeaofmlipkaaPTx1063
namespace Go.Proofs.Ytpgmeaofmlipkaa.PT
open Go.RowKit Go.Proofs.YtpgmeaofmlipkaaW.PrintWords Go.Proofs.YtpgmeaofmlipkaaW.PrintLast Go.Proofs.YtpgmeaofmlipkaaW.PrintMore
attribute [local go_sem] max2_int min2_int max_two min_two max_three min_three max_four min_four   -- for this text's walks alone
set_option linter.unusedVariables false
set_option linter.unusedSimpArgs false

/-! ### entailref1_Ok: function 53 -/
def entailref1_Ok.f (k : Nat) (a0_0 : ByteArray) (a0_1 : ByteArray) (a0_2 : ByteArray) (a0_3 : ByteArray) (a0_4 : ByteArray) (a0_5 : ByteArray) : Option (Bool) := (entailref1_Name.f k a0_0).bind fun t652 => (if t652 = true then ((entailref1_ID.f k a0_1).bind fun t653 => (if t653 = true then ((entailref1_Name.f k a0_2).bind fun t654 => (if t654 = true then ((entailref1_Name.f k a0_3).bind fun t655 => (if t655 = true then ((entailref1_ID.f k a0_4).bind fun t656 => (if t656 = true then (if a0_5.toList = ([] : List UInt8) then (some true) else ((entailref1_Name.f k a0_5).bind fun t657 => (some t657))) else (some false))) else (some false))) else (some false))) else (some false))) else (some false))
theorem entailref1_Ok.mono : ∀ a0 a1 a2 a3 a4 a5 k, LeO (entailref1_Ok.f k a0 a1 a2 a3 a4 a5) (entailref1_Ok.f (k + 1) a0 a1 a2 a3 a4 a5) := by
 intro a0 a1 a2 a3 a4 a5 k
 unfold entailref1_Ok.f
 repeat' first
   | (with_reducible exact entailref1_ID.mono _ _)
   | (with_reducible exact entailref1_Name.mono _ _)
   | (with_reducible exact LeO.refl _)
   | (with_reducible exact LeO.none _)
   | (with_reducible refine LeO.ite ?_ ?_)
   | (with_reducible refine LeO.bind ?_ (fun _ => ?_))
   | exact entailref1_ID.mono _ _
   | exact entailref1_Name.mono _ _
   | exact LeO.none _
   | refine LeO.ite ?_ ?_
   | refine LeO.bind ?_ (fun _ => ?_)
set_option maxHeartbeats 8000000 in
set_option maxRecDepth 100000 in
theorem entailref1_Ok.calls (k : Nat) (a0_0 : ByteArray) (a0_1 : ByteArray) (a0_2 : ByteArray) (a0_3 : ByteArray) (a0_4 : ByteArray) (a0_5 : ByteArray) (r : Bool) (w : World) (h : entailref1_Ok.f k a0_0 a0_1 a0_2 a0_3 a0_4 a0_5 = some r) :
  Calls Try.prog 53 #[.agg #[.string a0_0, .string a0_1, .string a0_2, .string a0_3, .string a0_4, .string a0_5]] w fun e w' => e = .returned (.bool r) ∧ Below w.heap.size w w' := by
 have hu41 := Try.underlying41
 have HB := Aside0.mk (Below.refl w.heap.size w)
 have H : ((entailref1_Name.f k a0_0).bind fun t652 => (if t652 = true then ((entailref1_ID.f k a0_1).bind fun t653 => (if t653 = true then ((entailref1_Name.f k a0_2).bind fun t654 => (if t654 = true then ((entailref1_Name.f k a0_3).bind fun t655 => (if t655 = true then ((entailref1_ID.f k a0_4).bind fun t656 => (if t656 = true then (if a0_5.toList = ([] : List UInt8) then (some true) else ((entailref1_Name.f k a0_5).bind fun t657 => (some t657))) else (some false))) else (some false))) else (some false))) else (some false))) else (some false))) = some r := h
 clear h
 replace H := Option.bind_eq_some_iff.mp H
 obtain ⟨t652, A20, H⟩ := H
 replace H : (if t652 = true then ((entailref1_ID.f k a0_1).bind fun t653 => (if t653 = true then ((entailref1_Name.f k a0_2).bind fun t654 => (if t654 = true then ((entailref1_Name.f k a0_3).bind fun t655 => (if t655 = true then ((entailref1_ID.f k a0_4).bind fun t656 => (if t656 = true then (if a0_5.toList = ([] : List UInt8) then (some true) else ((entailref1_Name.f k a0_5).bind fun t657 => (some t657))) else (some false))) else (some false))) else (some false))) else (some false))) else (some false)) = some r := H
 have A2 := Aside0.mk A20
 clear A20
 by_cases c3 : t652 = true
 ·subst c3
  have H1 : ((entailref1_ID.f k a0_1).bind fun t653 => (if t653 = true then ((entailref1_Name.f k a0_2).bind fun t654 => (if t654 = true then ((entailref1_Name.f k a0_3).bind fun t655 => (if t655 = true then ((entailref1_ID.f k a0_4).bind fun t656 => (if t656 = true then (if a0_5.toList = ([] : List UInt8) then (some true) else ((entailref1_Name.f k a0_5).bind fun t657 => (some t657))) else (some false))) else (some false))) else (some false))) else (some false))) = some r := by rw [if_pos rfl] at H; exact H
  clear H
  have H := H1
  clear H1
  replace H := Option.bind_eq_some_iff.mp H
  obtain ⟨t653, A40, H⟩ := H
  replace H : (if t653 = true then ((entailref1_Name.f k a0_2).bind fun t654 => (if t654 = true then ((entailref1_Name.f k a0_3).bind fun t655 => (if t655 = true then ((entailref1_ID.f k a0_4).bind fun t656 => (if t656 = true then (if a0_5.toList = ([] : List UInt8) then (some true) else ((entailref1_Name.f k a0_5).bind fun t657 => (some t657))) else (some false))) else (some false))) else (some false))) else (some false)) = some r := H
  have A4 := Aside0.mk A40
  clear A40
  by_cases c5 : t653 = true
  ·subst c5
   have H1 : ((entailref1_Name.f k a0_2).bind fun t654 => (if t654 = true then ((entailref1_Name.f k a0_3).bind fun t655 => (if t655 = true then ((entailref1_ID.f k a0_4).bind fun t656 => (if t656 = true then (if a0_5.toList = ([] : List UInt8) then (some true) else ((entailref1_Name.f k a0_5).bind fun t657 => (some t657))) else (some false))) else (some false))) else (some false))) = some r := by rw [if_pos rfl] at H; exact H
   clear H
   have H := H1
   clear H1
   replace H := Option.bind_eq_some_iff.mp H
   obtain ⟨t654, A60, H⟩ := H
   replace H : (if t654 = true then ((entailref1_Name.f k a0_3).bind fun t655 => (if t655 = true then ((entailref1_ID.f k a0_4).bind fun t656 => (if t656 = true then (if a0_5.toList = ([] : List UInt8) then (some true) else ((entailref1_Name.f k a0_5).bind fun t657 => (some t657))) else (some false))) else (some false))) else (some false)) = some r := H
   have A6 := Aside0.mk A60
   clear A60
   by_cases c7 : t654 = true
   ·subst c7
    have H1 : ((entailref1_Name.f k a0_3).bind fun t655 => (if t655 = true then ((entailref1_ID.f k a0_4).bind fun t656 => (if t656 = true then (if a0_5.toList = ([] : List UInt8) then (some true) else ((entailref1_Name.f k a0_5).bind fun t657 => (some t657))) else (some false))) else (some false))) = some r := by rw [if_pos rfl] at H; exact H
    clear H
    have H := H1
    clear H1
    replace H := Option.bind_eq_some_iff.mp H
    obtain ⟨t655, A80, H⟩ := H
    replace H : (if t655 = true then ((entailref1_ID.f k a0_4).bind fun t656 => (if t656 = true then (if a0_5.toList = ([] : List UInt8) then (some true) else ((entailref1_Name.f k a0_5).bind fun t657 => (some t657))) else (some false))) else (some false)) = some r := H
    have A8 := Aside0.mk A80
    clear A80
    by_cases c9 : t655 = true
    ·subst c9
     have H1 : ((entailref1_ID.f k a0_4).bind fun t656 => (if t656 = true then (if a0_5.toList = ([] : List UInt8) then (some true) else ((entailref1_Name.f k a0_5).bind fun t657 => (some t657))) else (some false))) = some r := by rw [if_pos rfl] at H; exact H
     clear H
     have H := H1
     clear H1
     replace H := Option.bind_eq_some_iff.mp H
     obtain ⟨t656, A100, H⟩ := H
     replace H : (if t656 = true then (if a0_5.toList = ([] : List UInt8) then (some true) else ((entailref1_Name.f k a0_5).bind fun t657 => (some t657))) else (some false)) = some r := H
     have A10 := Aside0.mk A100
     clear A100
     by_cases c11 : t656 = true
     ·subst c11
      have H1 : (if a0_5.toList = ([] : List UInt8) then (some true) else ((entailref1_Name.f k a0_5).bind fun t657 => (some t657))) = some r := by rw [if_pos rfl] at H; exact H
      clear H
      have H := H1
      clear H1
      by_cases c12 : a0_5.toList = ([] : List UInt8)
      ·rw [if_pos c12] at H
       have c12b0 : (a0_5.toList == ([] : List UInt8)) = true := beq_iff_eq.mpr c12
       have c12b1 : (a0_5.toList != ([] : List UInt8)) = false := bne_eq_false_iff_eq.mpr c12
       clear c12
       obtain rfl := Option.some.inj H
       go_enter Try.func53, Try.ntmps53
       go_wp2_with (first | ((with_reducible refine gate_dst (N := 1) rfl ?_); refine box_event ?hg (N := 1) ?hd (cs := #[.string a0_0, .string a0_1, .string a0_2, .string a0_3, .string a0_4, .string a0_5]) (t := 41) ?hr ?_; (case hd => rfl); (case hg => rfl); (case hr => first | (go_simp; done) | (go_simp; rfl)); intro gb651 hg w13 hbox hb; have n0_ := Aside0.mk (below_step (by repeat (first | (with_reducible first | exact HB.out | apply below_alloc | apply pw_below_drewN | apply below_drew1) | exact HB.out)) hb); have n1_ := Aside0.mk (hbox); have n2_ := Aside0.mk ((by rw [hg]; exact (below_size (by repeat (first | (with_reducible first | exact HB.out | apply below_alloc | apply pw_below_drewN | apply below_drew1) | exact HB.out))) : w.heap.size ≤ gb651)); have n3_ := Aside0.mk ((by rw [hg]; exact (below_size (by repeat (first | (with_reducible first | exact HB.out | apply below_alloc | apply pw_below_drewN | apply below_drew1) | exact HB.out))) : w.heap.size ≤ gb651)); clear HB; have HB := n0_; have BK651 := n1_; have GW651 := n2_; have GE651 := n3_; clear n0_ n1_ n2_ n3_; clear hb hbox hg; have hcz14_0 : w13.cell? ⟨gb651, 0, none⟩ = some (.string a0_0) := (blk_cell BK651.out 0).trans rfl; have hcz14_1 : w13.cell? ⟨gb651, 1, none⟩ = some (.string a0_1) := (blk_cell BK651.out 1).trans rfl; have hcz14_2 : w13.cell? ⟨gb651, 2, none⟩ = some (.string a0_2) := (blk_cell BK651.out 2).trans rfl; have hcz14_3 : w13.cell? ⟨gb651, 3, none⟩ = some (.string a0_3) := (blk_cell BK651.out 3).trans rfl; have hcz14_4 : w13.cell? ⟨gb651, 4, none⟩ = some (.string a0_4) := (blk_cell BK651.out 4).trans rfl; have hcz14_5 : w13.cell? ⟨gb651, 5, none⟩ = some (.string a0_5) := (blk_cell BK651.out 5).trans rfl; have hfz14_0 := blk_frozen BK651.out 0; have hfz14_1 := blk_frozen BK651.out 1; have hfz14_2 := blk_frozen BK651.out 2; have hfz14_3 := blk_frozen BK651.out 3; have hfz14_4 := blk_frozen BK651.out 4; have hfz14_5 := blk_frozen BK651.out 5) | ((with_reducible refine gate_callee (f := 62) rfl ?_); refine goesL_ (some 6) rfl rfl Try.func62 (by kernel_rfl) rfl #[.string a0_0] rfl (by (try simp only [List.map_toArray, List.map_cons, List.map_nil]); first | done | rfl | (simp only [List.length_drop, List.length_take]; rfl)) ?_; (with_reducible refine (entailref1_Name.calls k a0_0 true _ A2.out).mono ?_); rintro e w' ⟨rfl, ⟨nd, rfl⟩⟩; refine ⟨_, rfl, ?_⟩) | (go_at_call 63; (with_reducible refine (entailref1_ID.calls k a0_1 true _ A4.out).mono ?_); rintro e w' ⟨rfl, ⟨nd, rfl⟩⟩) | (go_at_call 62; (with_reducible refine (entailref1_Name.calls k a0_2 true _ A6.out).mono ?_); rintro e w' ⟨rfl, ⟨nd, rfl⟩⟩) | (go_at_call 62; (with_reducible refine (entailref1_Name.calls k a0_3 true _ A8.out).mono ?_); rintro e w' ⟨rfl, ⟨nd, rfl⟩⟩) | (go_at_call 63; (with_reducible refine (entailref1_ID.calls k a0_4 true _ A10.out).mono ?_); rintro e w' ⟨rfl, ⟨nd, rfl⟩⟩))
       go_ret
       exact ⟨by first | rfl | (simp [errW_none, errW_some] <;> rfl) | (simp [*, errW_none, errW_some] <;> rfl), by repeat (first | (with_reducible first | exact HB.out | apply below_alloc | apply pw_below_drewN | apply below_drew1 | refine below_set ?_ GE651.out) | exact HB.out)⟩
      ·rw [if_neg c12] at H
       have c12b0 : (a0_5.toList == ([] : List UInt8)) = false := beq_eq_false_iff_ne.mpr c12
       have c12b1 : (a0_5.toList != ([] : List UInt8)) = true := bne_iff_ne.mpr c12
       replace H := Option.bind_eq_some_iff.mp H
       obtain ⟨t657, A150, H⟩ := H
       replace H : (some t657) = some r := H
       have A15 := Aside0.mk A150
       clear A150
       obtain rfl := Option.some.inj H
       go_enter Try.func53, Try.ntmps53
       go_wp2_with (first | ((with_reducible refine gate_dst (N := 1) rfl ?_); refine box_event ?hg (N := 1) ?hd (cs := #[.string a0_0, .string a0_1, .string a0_2, .string a0_3, .string a0_4, .string a0_5]) (t := 41) ?hr ?_; (case hd => rfl); (case hg => rfl); (case hr => first | (go_simp; done) | (go_simp; rfl)); intro gb651 hg w16 hbox hb; have n0_ := Aside0.mk (below_step (by repeat (first | (with_reducible first | exact HB.out | apply below_alloc | apply pw_below_drewN | apply below_drew1) | exact HB.out)) hb); have n1_ := Aside0.mk (hbox); have n2_ := Aside0.mk ((by rw [hg]; exact (below_size (by repeat (first | (with_reducible first | exact HB.out | apply below_alloc | apply pw_below_drewN | apply below_drew1) | exact HB.out))) : w.heap.size ≤ gb651)); have n3_ := Aside0.mk ((by rw [hg]; exact (below_size (by repeat (first | (with_reducible first | exact HB.out | apply below_alloc | apply pw_below_drewN | apply below_drew1) | exact HB.out))) : w.heap.size ≤ gb651)); clear HB; have HB := n0_; have BK651 := n1_; have GW651 := n2_; have GE651 := n3_; clear n0_ n1_ n2_ n3_; clear hb hbox hg; have hcz17_0 : w16.cell? ⟨gb651, 0, none⟩ = some (.string a0_0) := (blk_cell BK651.out 0).trans rfl; have hcz17_1 : w16.cell? ⟨gb651, 1, none⟩ = some (.string a0_1) := (blk_cell BK651.out 1).trans rfl; have hcz17_2 : w16.cell? ⟨gb651, 2, none⟩ = some (.string a0_2) := (blk_cell BK651.out 2).trans rfl; have hcz17_3 : w16.cell? ⟨gb651, 3, none⟩ = some (.string a0_3) := (blk_cell BK651.out 3).trans rfl; have hcz17_4 : w16.cell? ⟨gb651, 4, none⟩ = some (.string a0_4) := (blk_cell BK651.out 4).trans rfl; have hcz17_5 : w16.cell? ⟨gb651, 5, none⟩ = some (.string a0_5) := (blk_cell BK651.out 5).trans rfl; have hfz17_0 := blk_frozen BK651.out 0; have hfz17_1 := blk_frozen BK651.out 1; have hfz17_2 := blk_frozen BK651.out 2; have hfz17_3 := blk_frozen BK651.out 3; have hfz17_4 := blk_frozen BK651.out 4; have hfz17_5 := blk_frozen BK651.out 5) | ((with_reducible refine gate_callee (f := 62) rfl ?_); refine goesL_ (some 6) rfl rfl Try.func62 (by kernel_rfl) rfl #[.string a0_0] rfl (by (try simp only [List.map_toArray, List.map_cons, List.map_nil]); first | done | rfl | (simp only [List.length_drop, List.length_take]; rfl)) ?_; (with_reducible refine (entailref1_Name.calls k a0_0 true _ A2.out).mono ?_); rintro e w' ⟨rfl, ⟨nd, rfl⟩⟩; refine ⟨_, rfl, ?_⟩) | (go_at_call 63; (with_reducible refine (entailref1_ID.calls k a0_1 true _ A4.out).mono ?_); rintro e w' ⟨rfl, ⟨nd, rfl⟩⟩) | (go_at_call 62; (with_reducible refine (entailref1_Name.calls k a0_2 true _ A6.out).mono ?_); rintro e w' ⟨rfl, ⟨nd, rfl⟩⟩) | (go_at_call 62; (with_reducible refine (entailref1_Name.calls k a0_3 true _ A8.out).mono ?_); rintro e w' ⟨rfl, ⟨nd, rfl⟩⟩) | (go_at_call 63; (with_reducible refine (entailref1_ID.calls k a0_4 true _ A10.out).mono ?_); rintro e w' ⟨rfl, ⟨nd, rfl⟩⟩) | (go_at_call 62; (with_reducible refine (entailref1_Name.calls k a0_5 t657 _ A15.out).mono ?_); rintro e w' ⟨rfl, ⟨nd, rfl⟩⟩))
       go_ret
       exact ⟨by first | rfl | (simp [errW_none, errW_some] <;> rfl) | (simp [*, errW_none, errW_some] <;> rfl), by repeat (first | (with_reducible first | exact HB.out | apply below_alloc | apply pw_below_drewN | apply below_drew1 | refine below_set ?_ GE651.out) | exact HB.out)⟩
     ·replace c11 := Bool.eq_false_iff.mpr c11
      subst c11
      have H1 : (some false) = some r := by rw [if_neg (show ¬ (false = true) by decide)] at H; exact H
      clear H
      have H := H1
      clear H1
      obtain rfl := Option.some.inj H
      go_enter Try.func53, Try.ntmps53
      go_wp2_with (first | ((with_reducible refine gate_dst (N := 1) rfl ?_); refine box_event ?hg (N := 1) ?hd (cs := #[.string a0_0, .string a0_1, .string a0_2, .string a0_3, .string a0_4, .string a0_5]) (t := 41) ?hr ?_; (case hd => rfl); (case hg => rfl); (case hr => first | (go_simp; done) | (go_simp; rfl)); intro gb651 hg w18 hbox hb; have n0_ := Aside0.mk (below_step (by repeat (first | (with_reducible first | exact HB.out | apply below_alloc | apply pw_below_drewN | apply below_drew1) | exact HB.out)) hb); have n1_ := Aside0.mk (hbox); have n2_ := Aside0.mk ((by rw [hg]; exact (below_size (by repeat (first | (with_reducible first | exact HB.out | apply below_alloc | apply pw_below_drewN | apply below_drew1) | exact HB.out))) : w.heap.size ≤ gb651)); have n3_ := Aside0.mk ((by rw [hg]; exact (below_size (by repeat (first | (with_reducible first | exact HB.out | apply below_alloc | apply pw_below_drewN | apply below_drew1) | exact HB.out))) : w.heap.size ≤ gb651)); clear HB; have HB := n0_; have BK651 := n1_; have GW651 := n2_; have GE651 := n3_; clear n0_ n1_ n2_ n3_; clear hb hbox hg; have hcz19_0 : w18.cell? ⟨gb651, 0, none⟩ = some (.string a0_0) := (blk_cell BK651.out 0).trans rfl; have hcz19_1 : w18.cell? ⟨gb651, 1, none⟩ = some (.string a0_1) := (blk_cell BK651.out 1).trans rfl; have hcz19_2 : w18.cell? ⟨gb651, 2, none⟩ = some (.string a0_2) := (blk_cell BK651.out 2).trans rfl; have hcz19_3 : w18.cell? ⟨gb651, 3, none⟩ = some (.string a0_3) := (blk_cell BK651.out 3).trans rfl; have hcz19_4 : w18.cell? ⟨gb651, 4, none⟩ = some (.string a0_4) := (blk_cell BK651.out 4).trans rfl; have hcz19_5 : w18.cell? ⟨gb651, 5, none⟩ = some (.string a0_5) := (blk_cell BK651.out 5).trans rfl; have hfz19_0 := blk_frozen BK651.out 0; have hfz19_1 := blk_frozen BK651.out 1; have hfz19_2 := blk_frozen BK651.out 2; have hfz19_3 := blk_frozen BK651.out 3; have hfz19_4 := blk_frozen BK651.out 4; have hfz19_5 := blk_frozen BK651.out 5) | ((with_reducible refine gate_callee (f := 62) rfl ?_); refine goesL_ (some 6) rfl rfl Try.func62 (by kernel_rfl) rfl #[.string a0_0] rfl (by (try simp only [List.map_toArray, List.map_cons, List.map_nil]); first | done | rfl | (simp only [List.length_drop, List.length_take]; rfl)) ?_; (with_reducible refine (entailref1_Name.calls k a0_0 true _ A2.out).mono ?_); rintro e w' ⟨rfl, ⟨nd, rfl⟩⟩; refine ⟨_, rfl, ?_⟩) | (go_at_call 63; (with_reducible refine (entailref1_ID.calls k a0_1 true _ A4.out).mono ?_); rintro e w' ⟨rfl, ⟨nd, rfl⟩⟩) | (go_at_call 62; (with_reducible refine (entailref1_Name.calls k a0_2 true _ A6.out).mono ?_); rintro e w' ⟨rfl, ⟨nd, rfl⟩⟩) | (go_at_call 62; (with_reducible refine (entailref1_Name.calls k a0_3 true _ A8.out).mono ?_); rintro e w' ⟨rfl, ⟨nd, rfl⟩⟩) | (go_at_call 63; (with_reducible refine (entailref1_ID.calls k a0_4 false _ A10.out).mono ?_); rintro e w' ⟨rfl, ⟨nd, rfl⟩⟩))
      go_ret
      exact ⟨by first | rfl | (simp [errW_none, errW_some] <;> rfl) | (simp [*, errW_none, errW_some] <;> rfl), by repeat (first | (with_reducible first | exact HB.out | apply below_alloc | apply pw_below_drewN | apply below_drew1 | refine below_set ?_ GE651.out) | exact HB.out)⟩
    ·replace c9 := Bool.eq_false_iff.mpr c9
     subst c9
     have H1 : (some false) = some r := by rw [if_neg (show ¬ (false = true) by decide)] at H; exact H
     clear H
     have H := H1
     clear H1
     obtain rfl := Option.some.inj H
     go_enter Try.func53, Try.ntmps53
     go_wp2_with (first | ((with_reducible refine gate_dst (N := 1) rfl ?_); refine box_event ?hg (N := 1) ?hd (cs := #[.string a0_0, .string a0_1, .string a0_2, .string a0_3, .string a0_4, .string a0_5]) (t := 41) ?hr ?_; (case hd => rfl); (case hg => rfl); (case hr => first | (go_simp; done) | (go_simp; rfl)); intro gb651 hg w20 hbox hb; have n0_ := Aside0.mk (below_step (by repeat (first | (with_reducible first | exact HB.out | apply below_alloc | apply pw_below_drewN | apply below_drew1) | exact HB.out)) hb); have n1_ := Aside0.mk (hbox); have n2_ := Aside0.mk ((by rw [hg]; exact (below_size (by repeat (first | (with_reducible first | exact HB.out | apply below_alloc | apply pw_below_drewN | apply below_drew1) | exact HB.out))) : w.heap.size ≤ gb651)); have n3_ := Aside0.mk ((by rw [hg]; exact (below_size (by repeat (first | (with_reducible first | exact HB.out | apply below_alloc | apply pw_below_drewN | apply below_drew1) | exact HB.out))) : w.heap.size ≤ gb651)); clear HB; have HB := n0_; have BK651 := n1_; have GW651 := n2_; have GE651 := n3_; clear n0_ n1_ n2_ n3_; clear hb hbox hg; have hcz21_0 : w20.cell? ⟨gb651, 0, none⟩ = some (.string a0_0) := (blk_cell BK651.out 0).trans rfl; have hcz21_1 : w20.cell? ⟨gb651, 1, none⟩ = some (.string a0_1) := (blk_cell BK651.out 1).trans rfl; have hcz21_2 : w20.cell? ⟨gb651, 2, none⟩ = some (.string a0_2) := (blk_cell BK651.out 2).trans rfl; have hcz21_3 : w20.cell? ⟨gb651, 3, none⟩ = some (.string a0_3) := (blk_cell BK651.out 3).trans rfl; have hcz21_4 : w20.cell? ⟨gb651, 4, none⟩ = some (.string a0_4) := (blk_cell BK651.out 4).trans rfl; have hcz21_5 : w20.cell? ⟨gb651, 5, none⟩ = some (.string a0_5) := (blk_cell BK651.out 5).trans rfl; have hfz21_0 := blk_frozen BK651.out 0; have hfz21_1 := blk_frozen BK651.out 1; have hfz21_2 := blk_frozen BK651.out 2; have hfz21_3 := blk_frozen BK651.out 3; have hfz21_4 := blk_frozen BK651.out 4; have hfz21_5 := blk_frozen BK651.out 5) | ((with_reducible refine gate_callee (f := 62) rfl ?_); refine goesL_ (some 6) rfl rfl Try.func62 (by kernel_rfl) rfl #[.string a0_0] rfl (by (try simp only [List.map_toArray, List.map_cons, List.map_nil]); first | done | rfl | (simp only [List.length_drop, List.length_take]; rfl)) ?_; (with_reducible refine (entailref1_Name.calls k a0_0 true _ A2.out).mono ?_); rintro e w' ⟨rfl, ⟨nd, rfl⟩⟩; refine ⟨_, rfl, ?_⟩) | (go_at_call 63; (with_reducible refine (entailref1_ID.calls k a0_1 true _ A4.out).mono ?_); rintro e w' ⟨rfl, ⟨nd, rfl⟩⟩) | (go_at_call 62; (with_reducible refine (entailref1_Name.calls k a0_2 true _ A6.out).mono ?_); rintro e w' ⟨rfl, ⟨nd, rfl⟩⟩) | (go_at_call 62; (with_reducible refine (entailref1_Name.calls k a0_3 false _ A8.out).mono ?_); rintro e w' ⟨rfl, ⟨nd, rfl⟩⟩))
     go_ret
     exact ⟨by first | rfl | (simp [errW_none, errW_some] <;> rfl) | (simp [*, errW_none, errW_some] <;> rfl), by repeat (first | (with_reducible first | exact HB.out | apply below_alloc | apply pw_below_drewN | apply below_drew1 | refine below_set ?_ GE651.out) | exact HB.out)⟩
   ·replace c7 := Bool.eq_false_iff.mpr c7
    subst c7
    have H1 : (some false) = some r := by rw [if_neg (show ¬ (false = true) by decide)] at H; exact H
    clear H
    have H := H1
    clear H1
    obtain rfl := Option.some.inj H
    go_enter Try.func53, Try.ntmps53
    go_wp2_with (first | ((with_reducible refine gate_dst (N := 1) rfl ?_); refine box_event ?hg (N := 1) ?hd (cs := #[.string a0_0, .string a0_1, .string a0_2, .string a0_3, .string a0_4, .string a0_5]) (t := 41) ?hr ?_; (case hd => rfl); (case hg => rfl); (case hr => first | (go_simp; done) | (go_simp; rfl)); intro gb651 hg w22 hbox hb; have n0_ := Aside0.mk (below_step (by repeat (first | (with_reducible first | exact HB.out | apply below_alloc | apply pw_below_drewN | apply below_drew1) | exact HB.out)) hb); have n1_ := Aside0.mk (hbox); have n2_ := Aside0.mk ((by rw [hg]; exact (below_size (by repeat (first | (with_reducible first | exact HB.out | apply below_alloc | apply pw_below_drewN | apply below_drew1) | exact HB.out))) : w.heap.size ≤ gb651)); have n3_ := Aside0.mk ((by rw [hg]; exact (below_size (by repeat (first | (with_reducible first | exact HB.out | apply below_alloc | apply pw_below_drewN | apply below_drew1) | exact HB.out))) : w.heap.size ≤ gb651)); clear HB; have HB := n0_; have BK651 := n1_; have GW651 := n2_; have GE651 := n3_; clear n0_ n1_ n2_ n3_; clear hb hbox hg; have hcz23_0 : w22.cell? ⟨gb651, 0, none⟩ = some (.string a0_0) := (blk_cell BK651.out 0).trans rfl; have hcz23_1 : w22.cell? ⟨gb651, 1, none⟩ = some (.string a0_1) := (blk_cell BK651.out 1).trans rfl; have hcz23_2 : w22.cell? ⟨gb651, 2, none⟩ = some (.string a0_2) := (blk_cell BK651.out 2).trans rfl; have hcz23_3 : w22.cell? ⟨gb651, 3, none⟩ = some (.string a0_3) := (blk_cell BK651.out 3).trans rfl; have hcz23_4 : w22.cell? ⟨gb651, 4, none⟩ = some (.string a0_4) := (blk_cell BK651.out 4).trans rfl; have hcz23_5 : w22.cell? ⟨gb651, 5, none⟩ = some (.string a0_5) := (blk_cell BK651.out 5).trans rfl; have hfz23_0 := blk_frozen BK651.out 0; have hfz23_1 := blk_frozen BK651.out 1; have hfz23_2 := blk_frozen BK651.out 2; have hfz23_3 := blk_frozen BK651.out 3; have hfz23_4 := blk_frozen BK651.out 4; have hfz23_5 := blk_frozen BK651.out 5) | ((with_reducible refine gate_callee (f := 62) rfl ?_); refine goesL_ (some 6) rfl rfl Try.func62 (by kernel_rfl) rfl #[.string a0_0] rfl (by (try simp only [List.map_toArray, List.map_cons, List.map_nil]); first | done | rfl | (simp only [List.length_drop, List.length_take]; rfl)) ?_; (with_reducible refine (entailref1_Name.calls k a0_0 true _ A2.out).mono ?_); rintro e w' ⟨rfl, ⟨nd, rfl⟩⟩; refine ⟨_, rfl, ?_⟩) | (go_at_call 63; (with_reducible refine (entailref1_ID.calls k a0_1 true _ A4.out).mono ?_); rintro e w' ⟨rfl, ⟨nd, rfl⟩⟩) | (go_at_call 62; (with_reducible refine (entailref1_Name.calls k a0_2 false _ A6.out).mono ?_); rintro e w' ⟨rfl, ⟨nd, rfl⟩⟩))
    go_ret
    exact ⟨by first | rfl | (simp [errW_none, errW_some] <;> rfl) | (simp [*, errW_none, errW_some] <;> rfl), by repeat (first | (with_reducible first | exact HB.out | apply below_alloc | apply pw_below_drewN | apply below_drew1 | refine below_set ?_ GE651.out) | exact HB.out)⟩
  ·replace c5 := Bool.eq_false_iff.mpr c5
   subst c5
   have H1 : (some false) = some r := by rw [if_neg (show ¬ (false = true) by decide)] at H; exact H
   clear H
   have H := H1
   clear H1
   obtain rfl := Option.some.inj H
   go_enter Try.func53, Try.ntmps53
   go_wp2_with (first | ((with_reducible refine gate_dst (N := 1) rfl ?_); refine box_event ?hg (N := 1) ?hd (cs := #[.string a0_0, .string a0_1, .string a0_2, .string a0_3, .string a0_4, .string a0_5]) (t := 41) ?hr ?_; (case hd => rfl); (case hg => rfl); (case hr => first | (go_simp; done) | (go_simp; rfl)); intro gb651 hg w24 hbox hb; have n0_ := Aside0.mk (below_step (by repeat (first | (with_reducible first | exact HB.out | apply below_alloc | apply pw_below_drewN | apply below_drew1) | exact HB.out)) hb); have n1_ := Aside0.mk (hbox); have n2_ := Aside0.mk ((by rw [hg]; exact (below_size (by repeat (first | (with_reducible first | exact HB.out | apply below_alloc | apply pw_below_drewN | apply below_drew1) | exact HB.out))) : w.heap.size ≤ gb651)); have n3_ := Aside0.mk ((by rw [hg]; exact (below_size (by repeat (first | (with_reducible first | exact HB.out | apply below_alloc | apply pw_below_drewN | apply below_drew1) | exact HB.out))) : w.heap.size ≤ gb651)); clear HB; have HB := n0_; have BK651 := n1_; have GW651 := n2_; have GE651 := n3_; clear n0_ n1_ n2_ n3_; clear hb hbox hg; have hcz25_0 : w24.cell? ⟨gb651, 0, none⟩ = some (.string a0_0) := (blk_cell BK651.out 0).trans rfl; have hcz25_1 : w24.cell? ⟨gb651, 1, none⟩ = some (.string a0_1) := (blk_cell BK651.out 1).trans rfl; have hcz25_2 : w24.cell? ⟨gb651, 2, none⟩ = some (.string a0_2) := (blk_cell BK651.out 2).trans rfl; have hcz25_3 : w24.cell? ⟨gb651, 3, none⟩ = some (.string a0_3) := (blk_cell BK651.out 3).trans rfl; have hcz25_4 : w24.cell? ⟨gb651, 4, none⟩ = some (.string a0_4) := (blk_cell BK651.out 4).trans rfl; have hcz25_5 : w24.cell? ⟨gb651, 5, none⟩ = some (.string a0_5) := (blk_cell BK651.out 5).trans rfl; have hfz25_0 := blk_frozen BK651.out 0; have hfz25_1 := blk_frozen BK651.out 1; have hfz25_2 := blk_frozen BK651.out 2; have hfz25_3 := blk_frozen BK651.out 3; have hfz25_4 := blk_frozen BK651.out 4; have hfz25_5 := blk_frozen BK651.out 5) | ((with_reducible refine gate_callee (f := 62) rfl ?_); refine goesL_ (some 6) rfl rfl Try.func62 (by kernel_rfl) rfl #[.string a0_0] rfl (by (try simp only [List.map_toArray, List.map_cons, List.map_nil]); first | done | rfl | (simp only [List.length_drop, List.length_take]; rfl)) ?_; (with_reducible refine (entailref1_Name.calls k a0_0 true _ A2.out).mono ?_); rintro e w' ⟨rfl, ⟨nd, rfl⟩⟩; refine ⟨_, rfl, ?_⟩) | (go_at_call 63; (with_reducible refine (entailref1_ID.calls k a0_1 false _ A4.out).mono ?_); rintro e w' ⟨rfl, ⟨nd, rfl⟩⟩))
   go_ret
   exact ⟨by first | rfl | (simp [errW_none, errW_some] <;> rfl) | (simp [*, errW_none, errW_some] <;> rfl), by repeat (first | (with_reducible first | exact HB.out | apply below_alloc | apply pw_below_drewN | apply below_drew1 | refine below_set ?_ GE651.out) | exact HB.out)⟩
 ·replace c3 := Bool.eq_false_iff.mpr c3
  subst c3
  have H1 : (some false) = some r := by rw [if_neg (show ¬ (false = true) by decide)] at H; exact H
  clear H
  have H := H1
  clear H1
  obtain rfl := Option.some.inj H
  go_enter Try.func53, Try.ntmps53
  go_wp2_with (first | ((with_reducible refine gate_dst (N := 1) rfl ?_); refine box_event ?hg (N := 1) ?hd (cs := #[.string a0_0, .string a0_1, .string a0_2, .string a0_3, .string a0_4, .string a0_5]) (t := 41) ?hr ?_; (case hd => rfl); (case hg => rfl); (case hr => first | (go_simp; done) | (go_simp; rfl)); intro gb651 hg w26 hbox hb; have n0_ := Aside0.mk (below_step (by repeat (first | (with_reducible first | exact HB.out | apply below_alloc | apply pw_below_drewN | apply below_drew1) | exact HB.out)) hb); have n1_ := Aside0.mk (hbox); have n2_ := Aside0.mk ((by rw [hg]; exact (below_size (by repeat (first | (with_reducible first | exact HB.out | apply below_alloc | apply pw_below_drewN | apply below_drew1) | exact HB.out))) : w.heap.size ≤ gb651)); have n3_ := Aside0.mk ((by rw [hg]; exact (below_size (by repeat (first | (with_reducible first | exact HB.out | apply below_alloc | apply pw_below_drewN | apply below_drew1) | exact HB.out))) : w.heap.size ≤ gb651)); clear HB; have HB := n0_; have BK651 := n1_; have GW651 := n2_; have GE651 := n3_; clear n0_ n1_ n2_ n3_; clear hb hbox hg; have hcz27_0 : w26.cell? ⟨gb651, 0, none⟩ = some (.string a0_0) := (blk_cell BK651.out 0).trans rfl; have hcz27_1 : w26.cell? ⟨gb651, 1, none⟩ = some (.string a0_1) := (blk_cell BK651.out 1).trans rfl; have hcz27_2 : w26.cell? ⟨gb651, 2, none⟩ = some (.string a0_2) := (blk_cell BK651.out 2).trans rfl; have hcz27_3 : w26.cell? ⟨gb651, 3, none⟩ = some (.string a0_3) := (blk_cell BK651.out 3).trans rfl; have hcz27_4 : w26.cell? ⟨gb651, 4, none⟩ = some (.string a0_4) := (blk_cell BK651.out 4).trans rfl; have hcz27_5 : w26.cell? ⟨gb651, 5, none⟩ = some (.string a0_5) := (blk_cell BK651.out 5).trans rfl; have hfz27_0 := blk_frozen BK651.out 0; have hfz27_1 := blk_frozen BK651.out 1; have hfz27_2 := blk_frozen BK651.out 2; have hfz27_3 := blk_frozen BK651.out 3; have hfz27_4 := blk_frozen BK651.out 4; have hfz27_5 := blk_frozen BK651.out 5) | ((with_reducible refine gate_callee (f := 62) rfl ?_); refine goesL_ (some 6) rfl rfl Try.func62 (by kernel_rfl) rfl #[.string a0_0] rfl (by (try simp only [List.map_toArray, List.map_cons, List.map_nil]); first | done | rfl | (simp only [List.length_drop, List.length_take]; rfl)) ?_; (with_reducible refine (entailref1_Name.calls k a0_0 false _ A2.out).mono ?_); rintro e w' ⟨rfl, ⟨nd, rfl⟩⟩; refine ⟨_, rfl, ?_⟩))
  go_ret
  exact ⟨by first | rfl | (simp [errW_none, errW_some] <;> rfl) | (simp [*, errW_none, errW_some] <;> rfl), by repeat (first | (with_reducible first | exact HB.out | apply below_alloc | apply pw_below_drewN | apply below_drew1 | refine below_set ?_ GE651.out) | exact HB.out)⟩

end Go.Proofs.Ytpgmeaofmlipkaa.PT
