-- Written by a program of this session (wip/tools/pp.py over the kit's printer). Lean checks it.
import Derived.Test.YtpgmeaofmlipkaaLaid
import Derived.Test.YtpgmeaofmlipkaaHFlat
import Derived.Shelf.SlicesE.Clone
import Derived.Test.YtpgmeaofmlipkaaPTx0
namespace Go.Proofs.Ytpgmeaofmlipkaa.PT
open Go.RowKit Go.Proofs.YtpgmeaofmlipkaaW.PrintWords Go.Proofs.YtpgmeaofmlipkaaW.PrintLast Go.Proofs.YtpgmeaofmlipkaaW.PrintMore
attribute [local go_sem] max2_int min2_int max_two min_two max_three min_three max_four min_four   -- for this text's walks alone
set_option linter.unusedVariables false
set_option linter.unusedSimpArgs false

--EXT Derived.Test.YtpgmeaofmlipkaaLaid Derived.Test.YtpgmeaofmlipkaaHFlat Derived.Shelf.SlicesE.Clone
open Go.Proofs.YtpgmeaofmlipkaaH
/-! ### api_Tuple_37: function 37 -/
def enc41 (x : S41) : List Value := [.string x.f0.f0, .string x.f0.f1, .string x.f1, .string x.f2.f0, .string x.f2.f1, .string x.f2.f2]
theorem flat41 : Flat k41 enc41 := ⟨fun _ => rfl, fun w base ok x => k41_mkM w base ok x, fun _ _ _ h => k41_open h⟩
def api_Tuple_37.f (l0 : List (S41)) : Option (List (S41)) := if l0.length < 1466015503701 then some l0 else none
set_option maxHeartbeats 8000000 in
set_option maxRecDepth 100000 in
theorem api_Tuple_37.calls (A0 : Option Addr) (c0 : Nat) (l0 : List (S41)) (r : List (S41)) (w : World) (hr0 : Kd.C k41 w A0 l0.length l0) (hc0 : l0.length ≤ c0) (h : api_Tuple_37.f l0 = some r) :
  Calls Try.prog 37 #[.slice A0 l0.length c0] w fun e w' => ∃ v0_ : Value, e = .returned (v0_) ∧ Kd.R k41 41 w' w.heap.size (fun _ => True) v0_ r ∧ Below w.heap.size w w' := by
 have hlt : l0.length < 1466015503701 := by
  by_cases hq : l0.length < 1466015503701
  ·exact hq
  ·simp [api_Tuple_37.f, hq] at h
 have hrr : l0 = r := by simpa [api_Tuple_37.f, hlt] using h
 subst hrr
 clear h
 cases A0 with
 | none =>
  have h0 : l0.length = 0 := by
   rcases Nat.eq_zero_or_pos l0.length with h | h
   ·exact h
   ·obtain ⟨ad, e, _⟩ := hr0.2.2 h
    cases e
  have hl : l0 = [] := List.eq_nil_of_length_eq_zero h0
  subst hl
  refine (AnyE.slices_Clone_nil Try.cloneT _ _ w).mono fun e w' ⟨he, hw⟩ => ?_
  subst hw
  exact ⟨_, he, Kd.R_nil _ _ _ _ _, Below.refl _ _⟩
 | some ad =>
  have q22 := fun (w : World) (a : Option Addr) (n c n' c' : Nat) => Lib.run_eql_slice_nil (P := Try.prog) w 23 41 a n c n' c' Try.underlying23
  have hlen := cells_len flat41 l0
  have hone := cells_one flat41 l0
  have hcell := Aside0.mk (C_cells flat41 (by decide) hr0 ad rfl)
  have hinfo : (Try.prog.info? 41).map (fun i => (i.zero, i.size, i.bytes)) = some (some (.agg #[.string ⟨#[]⟩, .string ⟨#[]⟩, .string ⟨#[]⟩, .string ⟨#[]⟩, .string ⟨#[]⟩, .string ⟨#[]⟩]), 6, 96) := by kernel_rfl
  obtain ⟨i0, hi, hzz⟩ := Option.map_eq_some_iff.1 hinfo
  simp only [Prod.mk.injEq] at hzz
  obtain ⟨hz0, hz1, hz2⟩ := hzz
  generalize hnews : cellsOf enc41 l0 = news at hlen hone hcell
  have HN := Aside0.mk hnews
  clear hnews hinfo hr0
  go_enter Try.func37, Try.ntmps37
  go_wp2_with (at_builtin; refine wpList_append_own _ rfl _ _ 23 rfl w.heap.size 41 i0 _ 6 96 Try.underlying23 hi hz0 hz1 hz2 rfl (by decide) _ _ _ rfl (World.ownsRow_made w #[] 0 (Nat.le_refl _) (Nat.zero_le _) (by simp)) ad _ _ news rfl ?qc1 ?qc2 ?qc3 ?qc4 ?qc5 ?qc6 ?_)
  case qc1 => exact hlen
  case qc2 =>
   intro j u hj
   exact Lib.cell?_alloc_some _ (hcell.out j u hj)
  case qc3 => exact hone
  case qc4 => rw [Nat.zero_add]; unfold maxLen; omega
  case qc5 => rw [Nat.zero_add]; omega
  case qc6 => simp
  intro v' w1 hown hgrow hnil
  go_wp2
  go_ret
  have hown' : w1.ownsRow w.heap.size 41 k41.sz v' l0.length (cellsOf enc41 l0) := by
   have h0 : w1.ownsRow w.heap.size 41 6 v' l0.length news := by simpa using hown
   rw [HN.out]; exact h0
  exact ⟨v', rfl, R_of_cells flat41 hown' (fun _ _ => trivial), ((Below.refl _ w).alloc (Nat.le_refl _) _).grown hgrow (by simp) (by intro k hk; simp [Value.ownBlock] at hk; omega)⟩

end Go.Proofs.Ytpgmeaofmlipkaa.PT
