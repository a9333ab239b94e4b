/- A row of the call's own, told in the words of the sort's kit ('HoldsK', 'putRowK', 'sortWorldK'), and back. -/
import Derived.Test.YtpgmeaofmlipkaaHFlat
import Derived.Shelf.GgSortFunc.InsertionK
set_option linter.unusedVariables false
set_option linter.unusedSimpArgs false
namespace Go.Proofs.YtpgmeaofmlipkaaH
open Go.RowKit Go.Sort Go.Proofs.YtpgmeaofmlipkaaW.PrintWords
section
variable {α : Type} [Inhabited α] {d : Kd α} {enc : α → List Value}

theorem flatK_list (F : Flat d enc) (hs : 0 < d.sz) (a : Array α) : (flatK enc d.sz a).toList = cellsOf enc a.toList := by
  refine List.ext_getElem? fun t => ?_
  have hlen : (cellsOf enc a.toList).length = a.size * d.sz := by rw [cells_len F]; simp
  rcases Nat.lt_or_ge t (a.size * d.sz) with ht | ht
  · have hj : t / d.sz < a.size := (Nat.div_lt_iff_lt_mul hs).2 ht
    have hi : t % d.sz < d.sz := Nat.mod_lt _ hs
    have e2 : t = (t / d.sz) * d.sz + t % d.sz := by rw [Nat.mul_comm]; exact (Nat.div_add_mod t d.sz).symm
    have hx : a.toList[t / d.sz]? = some a[t / d.sz]! := by rw [getElem!_pos a _ hj]; simp [hj]
    have h1 := cells_get F a.toList _ _ _ hx hi
    rw [← e2] at h1
    have h2 := get_flatK enc d.sz a t ht
    have h3 : t < (flatK enc d.sz a).size := by rw [size_flatK]; exact ht
    have hle : (enc a[t / d.sz]!).length = d.sz := F.len _
    rw [h1, List.getElem?_eq_getElem (show t < (flatK enc d.sz a).toList.length by rw [Array.length_toList]; exact h3), List.getElem?_eq_getElem (show t % d.sz < (enc a[t / d.sz]!).length by rw [hle]; exact hi)]
    rw [getElem!_pos _ t h3, getElem!_pos _ _ (by rw [hle]; exact hi)] at h2
    rw [← h2]; simp
  · rw [List.getElem?_eq_none (by simpa using ht), List.getElem?_eq_none (by rw [hlen]; exact ht)]

theorem cell_of_block {w : World} {g e : Nat} {cur : Array Value} (h : w.heap[g]? = some (.cells cur e (0, 0))) (j : Nat) (hj : j < cur.size) : w.cell? ⟨g, 0 + j, none⟩ = some cur[j] ∧ w.frozen? ⟨g, 0 + j, none⟩ = false := by
  constructor
  · unfold World.cell?
    rw [h]
    simp [hj]
  · unfold World.frozen?
    rw [h]
    simp

/-- A row of the call's own holds its list. -/
theorem own_holds (F : Flat d enc) (hs : 0 < d.sz) {w : World} {base e g cap : Nat} {l : List α} (h : w.ownsRow base e d.sz (.slice (some ⟨g, 0, none⟩) l.length cap) l.length (cellsOf enc l)) : HoldsK enc d.sz w g 0 l.toArray := by
  rcases h.2 with ⟨e1, _⟩ | ⟨g', cap', cur, e1, _, hh, hn, _, hsz, htk⟩
  · cases e1
  · obtain ⟨rfl, rfl⟩ : g = g' ∧ cap = cap' := by simpa using e1
    intro j hj
    have hj' : j < l.length * d.sz := by simpa using hj
    have hc : j < cur.size := by rw [hsz]; exact Nat.lt_of_lt_of_le hj' (Nat.mul_le_mul_right _ hn)
    obtain ⟨h1, h2⟩ := cell_of_block hh j hc
    refine ⟨?_, h2⟩
    rw [h1]
    have h3 : (flatK enc d.sz l.toArray).toList = cellsOf enc l := flatK_list F hs _
    rw [getElem!_pos _ j (by simpa using hj)]
    have h4 : (flatK enc d.sz l.toArray).toList[j]? = cur.toList[j]? := by
      rw [h3, ← htk, List.getElem?_take_of_lt hj']
    rw [List.getElem?_eq_getElem (by simpa using hj), List.getElem?_eq_getElem (by simpa using hc)] at h4
    have := Option.some.inj h4
    simp only [Array.getElem_toList] at this
    rw [this]; rfl

theorem heap_putRow (w : World) (g off : Nat) (F : Array Value) (q : Nat) {cur : Array Value} {e : Nat} {fr : Nat × Nat} (h : w.heap[g]? = some (.cells cur e fr)) :
    (putRow id (Sort.ahead w q) g off F).heap[g]? = some (.cells (putCells id off F cur) e fr) := by
  unfold putRow mapBlock
  show (w.heap.modify g _)[g]? = _
  rw [Array.getElem?_modify, if_pos rfl, h]
  rfl
theorem heap_putRow_ne (w : World) (g off : Nat) (F : Array Value) (q k : Nat) (h : k ≠ g) : (putRow id (Sort.ahead w q) g off F).heap[k]? = w.heap[k]? := by
  unfold putRow mapBlock
  show (w.heap.modify g _)[k]? = _
  rw [Array.getElem?_modify, if_neg (Ne.symm h)]
theorem below_put {B : Nat} {w0 w : World} (hb : Below B w0 w) (g off : Nat) (F : Array Value) (q : Nat) (hg : B ≤ g) : Below B w0 (putRow id (Sort.ahead w q) g off F) :=
  hb.trans ⟨rfl, rfl, rfl, by simp, fun k hk => heap_putRow_ne w g off F q k (by omega)⟩
theorem below_growB {B : Nat} {w0 w : World} (hb : Below B w0 w) (hB : B ≤ w.heap.size) (os : Array Obj) : Below B w0 (grow w os) :=
  hb.trans ⟨rfl, rfl, rfl, by show w.heap.size ≤ (w.heap ++ os).size; rw [Array.size_append]; omega, fun k hk => by
    show (w.heap ++ os)[k]? = w.heap[k]?
    rw [Array.getElem?_append_left (by omega)]⟩

/-- The row laid anew, and cut to m elements, is one of the call's own still. -/
theorem own_put (F : Flat d enc) (hs : 0 < d.sz) {w : World} {base e g cap n q : Nat} {xs : List Value} (a : Array α) (m : Nat) (h : w.ownsRow base e d.sz (.slice (some ⟨g, 0, none⟩) n cap) n xs) (ha : a.size = n) (hm : m ≤ n) :
    (putRowK enc d.sz (Sort.ahead w q) g 0 a).ownsRow base e d.sz (.slice (some ⟨g, 0, none⟩) m cap) m (cellsOf enc (a.toList.take m)) := by
  have hlt : (a.toList.take m).length = m := by simp; omega
  refine ⟨by rw [cells_len F, hlt], .inr ?_⟩
  rcases h.2 with ⟨e1, _⟩ | ⟨g', cap', cur, e1, hb, hh, hn, hmx, hsz, htk⟩
  · cases e1
  · obtain ⟨rfl, rfl⟩ : g = g' ∧ cap = cap' := by simpa using e1
    refine ⟨g, cap, _, rfl, hb, heap_putRow w g 0 _ q hh, by omega, hmx, by simp [putCells, hsz], ?_⟩
    refine List.ext_getElem? fun t => ?_
    have hall := cells_len F (a.toList.take m)
    rw [hlt] at hall
    rcases Nat.lt_or_ge t (m * d.sz) with ht | ht
    · have ht2 : t < a.size * d.sz := by rw [ha]; exact Nat.lt_of_lt_of_le ht (Nat.mul_le_mul_right _ hm)
      have ht3 : t < cur.size := by rw [hsz]; exact Nat.lt_of_lt_of_le ht (Nat.mul_le_mul_right _ (by omega))
      rw [List.getElem?_take_of_lt ht]
      have e2 : cellsOf enc a.toList = cellsOf enc (a.toList.take m) ++ cellsOf enc (a.toList.drop m) := by rw [← cells_append, List.take_append_drop]
      have e3 : (cellsOf enc (a.toList.take m))[t]? = (cellsOf enc a.toList)[t]? := by rw [e2, List.getElem?_append_left (by rw [hall]; exact ht)]
      rw [e3, ← flatK_list F hs a]
      have hcl : t < (flatK enc d.sz a).size := by rw [size_flatK]; exact ht2
      have hsz2 : (flatK enc d.sz a).size = a.size * d.sz := size_flatK _ _ _
      simp [putCells, ht3, hcl]
      rw [if_pos ht2, getElem!_pos _ t hcl, Array.getElem?_eq_getElem hcl]
    · rw [List.getElem?_eq_none (by rw [List.length_take]; omega), List.getElem?_eq_none (by rw [hall]; exact ht)]

theorem own_grow {w : World} {base e sz n : Nat} {v : Value} {xs : List Value} (h : w.ownsRow base e sz v n xs) (os : Array Obj) : (grow w os).ownsRow base e sz v n xs :=
  pw_own_below h ⟨rfl, rfl, rfl, by show w.heap.size ≤ (w.heap ++ os).size; rw [Array.size_append]; omega, fun k hk => by
    show (w.heap ++ os)[k]? = w.heap[k]?
    rw [Array.getElem?_append_left hk]⟩
end
end Go.Proofs.YtpgmeaofmlipkaaH
