/- A batch that is handed over, laid open. No condition. -/
import Derived.Test.YtpgmeaofmlipkaaSPlays
import Derived.Deep.SlicePairs
set_option linter.unusedVariables false
set_option linter.unusedSimpArgs false
namespace Go.Proofs.Ytpgmeaofmlipkaa.PT
open Go.RowKit Go.Proofs.YtpgmeaofmlipkaaW.PrintWords Go.Proofs.YtpgmeaofmlipkaaW.PrintLast
open Go.Proofs.YtpgmeaofmlipkaaH
open Go.ChangeShapes Go.WideShapes
open Go.Deep (open_slice)
/-! ### what an argument of the type []api.Tuple is -/
section
variable {H : Type} {ec : TypeId × Value → H} {w : World} {base : Nat} {spare : Nat → Bool} {held : Bool}
theorem str_of_trod {fuel : Nat} {v : Value} {y : Option (DataW H × List MemPlace)} (h : DataW.trod ec Try.prog w base spare held fuel 9 [v] = y) (hy : y.isSome = true) : ∃ s, v = .string s ∧ s.size ≤ maxLen := by
  obtain ⟨x, hx⟩ := Option.isSome_iff_exists.1 hy
  rw [hx] at h
  obtain ⟨s, hs, _, hm⟩ := DataW.trod_string Try.underlying9 h
  exact ⟨s, by simpa using hs, hm⟩
set_option maxRecDepth 100000 in
theorem tup_of_trod {fuel : Nat} {cs : List Value} {x : DataW H × List MemPlace} (h : DataW.trod ec Try.prog w base spare held fuel 41 cs = some x) : ∃ t : S41, cs = enc41 t ∧ Small t := by
  obtain ⟨xs, n, _, _, hl, hlen, hf⟩ := DataW.trod_struct Try.underlying41 h
  have c41 : Try.prog.cellsOf 41 = 6 := by kernel_rfl
  rw [c41] at hl
  match cs, hl, xs, hlen with
  | [v0, v1, v2, v3, v4, v5], _, [y0, y1, y2], _ =>
    have g0 := hf 0 _ rfl
    have g1 := hf 1 _ rfl
    have g2 := hf 2 _ rfl
    have c37 : Try.prog.cellsOf 37 = 2 := by kernel_rfl
    have c9 : Try.prog.cellsOf 9 = 1 := by kernel_rfl
    have c39 : Try.prog.cellsOf 39 = 3 := by kernel_rfl
    simp only [c37, c9, c39, List.drop_zero, List.drop_succ_cons, List.take_succ_cons, List.take_zero, List.getElem?_cons_zero, List.getElem?_cons_succ] at g0 g1 g2
    obtain ⟨s2, rfl, m2⟩ := str_of_trod g1 rfl
    obtain ⟨ys, m, _, _, _, yl, k⟩ := DataW.trod_struct Try.underlying37 g0
    obtain ⟨zs, q, _, _, _, zl, j⟩ := DataW.trod_struct Try.underlying39 g2
    match ys, yl, zs, zl with
    | [_, _], _, [_, _, _], _ =>
      have k0 := k 0 _ rfl
      have k1 := k 1 _ rfl
      have j0 := j 0 _ rfl
      have j1 := j 1 _ rfl
      have j2 := j 2 _ rfl
      simp only [c9, List.drop_zero, List.drop_succ_cons, List.take_succ_cons, List.take_zero, List.getElem?_cons_zero, List.getElem?_cons_succ] at k0 k1 j0 j1 j2
      obtain ⟨s0, rfl, m0⟩ := str_of_trod k0 rfl
      obtain ⟨s1, rfl, m1⟩ := str_of_trod k1 rfl
      obtain ⟨s3, rfl, m3⟩ := str_of_trod j0 rfl
      obtain ⟨s4, rfl, m4⟩ := str_of_trod j1 rfl
      obtain ⟨s5, rfl, m5⟩ := str_of_trod j2 rfl
      exact ⟨⟨⟨s0, s1⟩, s2, ⟨s3, s4, s5⟩⟩, rfl, m1, m4⟩
set_option maxRecDepth 100000 in
/-- A row of tuples among what is handed over. -/
theorem tups_of_trod {fuel : Nat} {v : Value} {x : DataW H × List MemPlace} (h : DataW.trod ec Try.prog w base spare held fuel 23 [v] = some x) (hw : ∀ n ∈ x.1.weights Try.prog 23, n ≤ reachBytes) : ∃ a cap, ∃ l : List S41, v = .slice a l.length cap ∧ Rd w a cap l ∧ (∀ t ∈ l, Small t) ∧ l.length < 1000000000000000 := by
  have c41 : Try.prog.cellsOf 41 = 6 := by kernel_rfl
  have b41 : Try.prog.bytesOf 41 = 96 := by kernel_rfl
  rcases open_slice Try.underlying23 h with ⟨h0, _⟩ | ⟨ad, len, cap, m, n, D, Pl, hc, hb, hl, hm, hmm, hx0, hx⟩
  · exact ⟨none, 0, [], by simpa using h0, ⟨Nat.le_refl _, Kd.C_nil _ _⟩, by simp, by simp⟩
  · have hlm : len ≤ m := by rw [hmm]; split <;> omega
    have hbig : len < 1000000000000000 := by
      have h1 := hw ((((List.range len).map D).length + ((List.range (m - len)).map fun j => D (len + j)).length) * Try.prog.bytesOf 41) (by rw [hx0]; simp [DataW.weights, Try.underlying23])
      rw [b41] at h1
      simp only [List.length_map, List.length_range] at h1
      unfold reachBytes at h1
      omega
    have each : ∀ i, ∃ t : S41, i < len → Small t ∧ ∀ j u, (enc41 t)[j]? = some u → w.cell? (ad.add (i * 6 + j)) = some u := by
      intro i
      by_cases hi : i < len
      · obtain ⟨cs', h1, h2⟩ := hx i (by omega)
        rw [c41] at h1
        obtain ⟨t, rfl, hsm⟩ := tup_of_trod h2
        obtain ⟨_, hlen, hcell⟩ := World.cells?_some h1
        refine ⟨t, fun _ => ⟨hsm, fun j u hj => ?_⟩⟩
        have hj6 : j < 6 := by have := (List.getElem?_eq_some_iff.1 hj).1; simpa [enc41] using this
        have := hcell j (by simpa [enc41] using hj6)
        rw [add_add] at this
        rw [this, ← hj]
        try simp
      · exact ⟨z41, fun h => absurd h hi⟩
    obtain ⟨T, hT⟩ := Classical.axiomOfChoice each
    refine ⟨some ad, cap, (List.range len).map T, by simpa using hc, ⟨by simpa using hl, ?_⟩, ?_, by simpa using hbig⟩
    · refine ⟨rfl, by rw [List.length_map, List.length_range]; exact Nat.le_trans (Nat.le_trans hl hm) (by decide), fun hp => ⟨ad, rfl, fun j p hj => ?_⟩⟩
      have hjl : j < len := by have := (List.getElem?_eq_some_iff.1 hj).1; simpa using this
      have hp : p = T j := by simp [hjl] at hj; exact hj.symm
      subst hp
      exact ⟨enc41 (T j), rfl, flat41.mkK w (T j), fun i u hi => (hT j hjl).2 i u hi⟩
    · intro t ht
      obtain ⟨j, hj, rfl⟩ := List.mem_map.1 ht
      exact (hT j (List.mem_range.1 hj)).1
set_option maxRecDepth 100000 in
/-- A batch that is handed over. -/
theorem batch_of_trod {fuel : Nat} {cs : List Value} {x : DataW H × List MemPlace} (h : DataW.trod ec Try.prog w base spare held fuel 54 cs = some x) (hw : ∀ n ∈ x.1.weights Try.prog 54, n ≤ reachBytes) :
    ∃ b : BArg, cs = [.slice b.A1 b.l1.length b.c1, .slice b.A2 b.l2.length b.c2, .slice b.A3 b.l3.length b.c3, .slice b.A4 b.l4.length b.c4] ∧ BRd b w ∧ BSmall b ∧ b.l1.length < 1000000000000000 ∧ b.l2.length < 1000000000000000 ∧ b.l3.length < 1000000000000000 ∧ b.l4.length < 1000000000000000 := by
  have cb : Try.prog.cellsOf 54 = 4 := by kernel_rfl
  have cr : Try.prog.cellsOf 23 = 1 := by kernel_rfl
  obtain ⟨xs, n, _, hx, hl, hlen, hf⟩ := DataW.trod_struct Try.underlying54 h
  rw [cb] at hl
  have hxl : xs.length = 4 := hlen
  match cs, hl, xs, hxl with
  | [v0, v1, v2, v3], _, [y0, y1, y2, y3], _ =>
    have g0 := hf 0 _ rfl
    have g1 := hf 1 _ rfl
    have g2 := hf 2 _ rfl
    have g3 := hf 3 _ rfl
    simp only [cr, List.drop_zero, List.drop_succ_cons, List.take_succ_cons, List.take_zero, List.getElem?_cons_zero, List.getElem?_cons_succ] at g0 g1 g2 g3
    have hw2 : ∀ y ∈ [y0, y1, y2, y3], ∀ n ∈ y.1.weights Try.prog 23, n ≤ reachBytes := by
      intro y hy n hn
      refine hw n ?_
      rw [hx]
      simp only [List.mem_cons, List.not_mem_nil, or_false] at hy
      simp [DataW.weights, DataW.weightsEach, Try.underlying54]
      rcases hy with rfl | rfl | rfl | rfl <;> simp [hn]
    obtain ⟨a0, c0, l0, rfl, r0, s0, b0⟩ := tups_of_trod g0 (hw2 y0 (by simp))
    obtain ⟨a1, c1, l1, rfl, r1, s1, b1⟩ := tups_of_trod g1 (hw2 y1 (by simp))
    obtain ⟨a2, c2, l2, rfl, r2, s2, b2⟩ := tups_of_trod g2 (hw2 y2 (by simp))
    obtain ⟨a3, c3, l3, rfl, r3, s3, b3⟩ := tups_of_trod g3 (hw2 y3 (by simp))
    exact ⟨⟨a0, c0, l0, a1, c1, l1, a2, c2, l2, a3, c3, l3⟩, rfl, ⟨r0, r1, r2, r3⟩, ⟨s0, s1, s2, s3⟩, b0, b1, b2, b3⟩
end
end Go.Proofs.Ytpgmeaofmlipkaa.PT
