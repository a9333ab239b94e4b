/- An argument of the type []api.Tuple, laid open: a row of tuples. -/
import Derived.Test.YtpgmeaofmlipkaaPTx1037
import Derived.Test.YtpgmeaofmlipkaaPTx1039
import Derived.Test.YtpgmeaofmlipkaaHFlat
import Derived.Deep.SlicePairs
set_option linter.unusedVariables false
set_option linter.unusedSimpArgs false
namespace Go.Proofs.Ytpgmeaofmlipkaa.PT
open Go.RowKit Go.Proofs.YtpgmeaofmlipkaaW.PrintWords Go.Proofs.YtpgmeaofmlipkaaW.PrintLast
open Go.Proofs.YtpgmeaofmlipkaaH
open Go.ChangeShapes Go.WideShapes
open Go.Deep (open_slice)
/-! ### what an argument of the type []api.Tuple is -/
section
variable {H : Type} {ec : TypeId × Value → H} {w : World} {base : Nat} {spare : Nat → Bool} {held : Bool}
theorem str_of_trod {fuel : Nat} {v : Value} {y : Option (DataW H × List MemPlace)} (h : DataW.trod ec Try.prog w base spare held fuel 9 [v] = y) (hy : y.isSome = true) : ∃ s, v = .string s := by
  obtain ⟨x, hx⟩ := Option.isSome_iff_exists.1 hy
  rw [hx] at h
  obtain ⟨s, hs, _⟩ := DataW.trod_string Try.underlying9 h
  exact ⟨s, by simpa using hs⟩
set_option maxRecDepth 100000 in
theorem tup_of_trod {fuel : Nat} {cs : List Value} {x : DataW H × List MemPlace} (h : DataW.trod ec Try.prog w base spare held fuel 41 cs = some x) : ∃ t : S41, cs = enc41 t := by
  obtain ⟨xs, n, _, _, hl, hlen, hf⟩ := DataW.trod_struct Try.underlying41 h
  have c41 : Try.prog.cellsOf 41 = 6 := by kernel_rfl
  rw [c41] at hl
  match cs, hl, xs, hlen with
  | [v0, v1, v2, v3, v4, v5], _, [y0, y1, y2], _ =>
    have g0 := hf 0 _ rfl
    have g1 := hf 1 _ rfl
    have g2 := hf 2 _ rfl
    have c37 : Try.prog.cellsOf 37 = 2 := by kernel_rfl
    have c9 : Try.prog.cellsOf 9 = 1 := by kernel_rfl
    have c39 : Try.prog.cellsOf 39 = 3 := by kernel_rfl
    simp only [c37, c9, c39, List.drop_zero, List.drop_succ_cons, List.take_succ_cons, List.take_zero, List.getElem?_cons_zero, List.getElem?_cons_succ] at g0 g1 g2
    obtain ⟨s2, rfl⟩ := str_of_trod g1 rfl
    obtain ⟨ys, m, _, _, _, yl, k⟩ := DataW.trod_struct Try.underlying37 g0
    obtain ⟨zs, q, _, _, _, zl, j⟩ := DataW.trod_struct Try.underlying39 g2
    match ys, yl, zs, zl with
    | [_, _], _, [_, _, _], _ =>
      have k0 := k 0 _ rfl
      have k1 := k 1 _ rfl
      have j0 := j 0 _ rfl
      have j1 := j 1 _ rfl
      have j2 := j 2 _ rfl
      simp only [c9, List.drop_zero, List.drop_succ_cons, List.take_succ_cons, List.take_zero, List.getElem?_cons_zero, List.getElem?_cons_succ] at k0 k1 j0 j1 j2
      obtain ⟨s0, rfl⟩ := str_of_trod k0 rfl
      obtain ⟨s1, rfl⟩ := str_of_trod k1 rfl
      obtain ⟨s3, rfl⟩ := str_of_trod j0 rfl
      obtain ⟨s4, rfl⟩ := str_of_trod j1 rfl
      obtain ⟨s5, rfl⟩ := str_of_trod j2 rfl
      exact ⟨⟨⟨s0, s1⟩, s2, ⟨s3, s4, s5⟩⟩, rfl⟩
set_option maxRecDepth 100000 in
theorem tups_of_trod {fuel : Nat} {a : Option Addr} {len cap : Nat} {x : DataW H × List MemPlace} (h : DataW.trod ec Try.prog w base spare held fuel 23 [.slice a len cap] = some x) : ∃ l : List S41, l.length = len ∧ len ≤ cap ∧ Kd.C k41 w a l.length l := by
  have c41 : Try.prog.cellsOf 41 = 6 := by kernel_rfl
  rcases open_slice Try.underlying23 h with ⟨h0, _⟩ | ⟨ad, len', cap', m, n, D, Pl, hc, hb, hl, hm, hmm, _, hx⟩
  · simp at h0
    obtain ⟨rfl, rfl, rfl⟩ := h0
    exact ⟨[], rfl, Nat.le_refl _, Kd.C_nil _ _⟩
  · simp at hc
    obtain ⟨rfl, rfl, rfl⟩ := hc
    have hlm : len ≤ m := by rw [hmm]; split <;> omega
    have each : ∀ i, ∃ t : S41, i < len → ∀ j u, (enc41 t)[j]? = some u → w.cell? (ad.add (i * 6 + j)) = some u := by
      intro i
      by_cases hi : i < len
      · obtain ⟨cs', h1, h2⟩ := hx i (by omega)
        rw [c41] at h1
        obtain ⟨t, rfl⟩ := tup_of_trod h2
        obtain ⟨_, hlen, hcell⟩ := World.cells?_some h1
        refine ⟨t, fun _ j u hj => ?_⟩
        have hj6 : j < 6 := by have := (List.getElem?_eq_some_iff.1 hj).1; simpa [enc41] using this
        have := hcell j (by simpa [enc41] using hj6)
        rw [add_add] at this
        rw [this, ← hj]
        try simp
      · exact ⟨z41, fun h => absurd h hi⟩
    obtain ⟨T, hT⟩ := Classical.axiomOfChoice each
    refine ⟨(List.range len).map T, by simp, hl, ?_⟩
    refine ⟨rfl, by rw [List.length_map, List.length_range]; exact Nat.le_trans (Nat.le_trans hl hm) (by decide), fun hp => ⟨ad, rfl, fun j p hj => ?_⟩⟩
    have hjl : j < len := by have := (List.getElem?_eq_some_iff.1 hj).1; simpa using this
    have hp : p = T j := by simp [hjl] at hj; exact hj.symm
    subst hp
    exact ⟨enc41 (T j), rfl, flat41.mkK w (T j), fun i u hi => hT j hjl i u hi⟩
end
end Go.Proofs.Ytpgmeaofmlipkaa.PT
