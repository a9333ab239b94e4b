/- Rows of elements whose cells hang on the element alone ('Flat'): a list's cells one behind the other, and what is read and made of them. -/
import Derived.Test.YtpgmeaofmlipkaaWAll
import Derived.Shelf.GgSortFunc.RowK
import Derived.Sort.Grow
import Derived.StillTailTactics
set_option linter.unusedVariables false
set_option linter.unusedSimpArgs false
namespace Go.Proofs.YtpgmeaofmlipkaaH
open Go.RowKit Go.Proofs.YtpgmeaofmlipkaaW.PrintWords

/-- The cells of an element hang on the element alone. -/
structure Flat {α : Type} (d : Kd α) (enc : α → List Value) : Prop where
  len : ∀ x, (enc x).length = d.sz
  mkM : ∀ w base ok x, d.M w base ok x (enc x)
  openK : ∀ w x cs, d.K w x cs → cs = enc x

/-- A list's cells, one behind the other. -/
def cellsOf {α : Type} (enc : α → List Value) (l : List α) : List Value := l.flatMap enc

section
variable {α : Type} {d : Kd α} {enc : α → List Value}

theorem Flat.openM (F : Flat d enc) {w : World} {base : Nat} {ok : Nat → Prop} {x : α} {cs : List Value} (h : d.M w base ok x cs) : cs = enc x := F.openK w x cs (d.K_of_M h)
theorem Flat.mkK (F : Flat d enc) (w : World) (x : α) : d.K w x (enc x) := d.K_of_M (F.mkM w 0 (fun _ => True) x)
theorem Flat.one (F : Flat d enc) (x : α) : ∀ u ∈ enc x, u.oneCell' = true := d.K_one (F.mkK default x)

theorem cells_len (F : Flat d enc) (l : List α) : (cellsOf enc l).length = l.length * d.sz := by
  induction l with
  | nil => simp [cellsOf]
  | cons x l ih =>
    have : cellsOf enc (x :: l) = enc x ++ cellsOf enc l := rfl
    rw [this, List.length_append, ih, F.len, List.length_cons, Nat.add_mul, Nat.one_mul, Nat.add_comm]

theorem cells_append (enc : α → List Value) (l m : List α) : cellsOf enc (l ++ m) = cellsOf enc l ++ cellsOf enc m := by simp [cellsOf]

/-- Element j's cells among all. -/
theorem cells_at (F : Flat d enc) (l : List α) (j : Nat) (x : α) (h : l[j]? = some x) : ((cellsOf enc l).drop (j * d.sz)).take d.sz = enc x := by
  induction l generalizing j with
  | nil => simp at h
  | cons y l ih =>
    have e : cellsOf enc (y :: l) = enc y ++ cellsOf enc l := rfl
    cases j with
    | zero =>
      have hy : y = x := by simpa using h
      subst hy
      rw [e, Nat.zero_mul, List.drop_zero, ← F.len y, List.take_left]
    | succ j =>
      have h' : l[j]? = some x := by simpa using h
      rw [e, Nat.add_mul, Nat.one_mul, Nat.add_comm, ← F.len y, ← List.drop_drop, List.drop_left, F.len y]
      exact ih j h'

theorem cells_get (F : Flat d enc) (l : List α) (j i : Nat) (x : α) (h : l[j]? = some x) (hi : i < d.sz) : (cellsOf enc l)[j * d.sz + i]? = (enc x)[i]? := by
  rw [← cells_at F l j x h, List.getElem?_take_of_lt hi, List.getElem?_drop]

theorem reps_cells (F : Flat d enc) (w : World) (base : Nat) (ok : Nat → Prop) (l : List α) : Reps (d.M w base ok) d.sz l (cellsOf enc l) :=
  ⟨cells_len F l, fun j p hj => by rw [cells_at F l j p hj]; exact F.mkM w base ok p⟩

theorem cells_of_reps (F : Flat d enc) {w : World} {base : Nat} {ok : Nat → Prop} {l : List α} {cs : List Value} (h : Reps (d.M w base ok) d.sz l cs) (hs : 0 < d.sz) : cs = cellsOf enc l := by
  refine List.ext_getElem? fun t => ?_
  rcases Nat.lt_or_ge t (l.length * d.sz) with ht | ht
  · have hj : t / d.sz < l.length := (Nat.div_lt_iff_lt_mul hs).2 ht
    have hi : t % d.sz < d.sz := Nat.mod_lt _ hs
    have e : t = (t / d.sz) * d.sz + t % d.sz := by rw [Nat.mul_comm]; exact (Nat.div_add_mod t d.sz).symm
    have hx := List.getElem?_eq_getElem hj
    have h1 := F.openM (h.2 _ _ hx)
    have h2 := cells_get F l _ _ _ hx hi
    rw [← e] at h2
    rw [h2, ← h1, List.getElem?_take_of_lt hi, List.getElem?_drop, ← e]
  · rw [List.getElem?_eq_none (by rw [h.1]; exact ht), List.getElem?_eq_none (by rw [cells_len F]; exact ht)]

theorem cells_one (F : Flat d enc) (l : List α) : ∀ u ∈ cellsOf enc l, u.oneCell' = true := by
  intro u hu
  obtain ⟨x, _, hx⟩ := List.mem_flatMap.1 hu
  exact F.one x u hx

/-- What is read, cell by cell. -/
theorem C_cells (F : Flat d enc) (hs : 0 < d.sz) {w : World} {A : Option Addr} {n : Nat} {l : List α} (h : d.C w A n l) (ad : Addr) (e : A = some ad) : ∀ t u, (cellsOf enc l)[t]? = some u → w.cell? (ad.add t) = some u := by
  intro t u ht
  have htl : t < l.length * d.sz := by rw [← cells_len F]; exact (List.getElem?_eq_some_iff.1 ht).1
  have hj : t / d.sz < l.length := (Nat.div_lt_iff_lt_mul hs).2 htl
  have hi : t % d.sz < d.sz := Nat.mod_lt _ hs
  have e2 : t = (t / d.sz) * d.sz + t % d.sz := by rw [Nat.mul_comm]; exact (Nat.div_add_mod t d.sz).symm
  have hx := List.getElem?_eq_getElem hj
  obtain ⟨ad', ea, hc⟩ := h.2.2 (h.1 ▸ Nat.lt_of_le_of_lt (Nat.zero_le _) hj)
  obtain rfl : ad' = ad := by rw [ea] at e; exact Option.some.inj e
  obtain ⟨c, _, hK, hcell⟩ := hc _ _ hx
  obtain rfl := F.openK _ _ _ hK
  have := hcell (t % d.sz) u (by rw [← cells_get F l _ _ _ hx hi, ← e2]; exact ht)
  rwa [← e2] at this

/-- A slice that is not empty lies at a plain address. -/
theorem C_plain (F : Flat d enc) (hs : 0 < d.sz) {w : World} {A : Option Addr} {n : Nat} {l : List α} (h : d.C w A n l) (hp : 0 < l.length) : ∃ b off, A = some ⟨b, off, none⟩ ∧ b < w.heap.size := by
  obtain ⟨ad, ea, _⟩ := h.2.2 (by have := h.1; omega)
  have hl : 0 < (cellsOf enc l).length := by rw [cells_len F]; exact Nat.mul_pos hp hs
  have := C_cells F hs h ad ea 0 _ (List.getElem?_eq_getElem hl)
  have e0 : ad.add 0 = ad := by simp [Addr.add]
  rw [e0] at this
  obtain ⟨b, o, s⟩ := ad
  cases s with
  | none => exact ⟨b, o, ea, World.block_lt_of_cell? w _ this⟩
  | some s =>
    unfold World.cell? at this
    split at this <;> simp at this

/-- A row of cells of the call's own, as a row of elements. -/
theorem R_of_cells (F : Flat d enc) {e : Nat} {w : World} {base : Nat} {ok : Nat → Prop} {v : Value} {l : List α} (h : w.ownsRow base e d.sz v l.length (cellsOf enc l)) (hok : ∀ k, v.ownBlock = some k → ok k) : d.R e w base ok v l :=
  ⟨hok, _, h, reps_cells F _ _ _ _⟩
theorem cells_of_R (F : Flat d enc) (hs : 0 < d.sz) {e : Nat} {w : World} {base : Nat} {ok : Nat → Prop} {v : Value} {l : List α} (h : d.R e w base ok v l) : w.ownsRow base e d.sz v l.length (cellsOf enc l) := by
  obtain ⟨inner, ho, hr⟩ := h.2
  rwa [cells_of_reps F hr hs] at ho
end
theorem box_new (w : World) (A : Array Value) {t : TypeId} (i : Nat) (v : Value) (h : A[i]? = some v) : (w.alloc (.cells A t)).cell? ⟨w.heap.size, i, none⟩ = some v := by
  have e := heap_alloc_new w (.cells A t)
  unfold World.cell?
  rw [e]
  exact h
theorem C_new (W : World) (k : IntKind) (l : List Int) (t : TypeId) (hl : l.length ≤ 9223372036854775807) : Kd.C (Kd.int k) (W.alloc (.cells (l.map (Value.int k)).toArray t)) (some ⟨W.heap.size, 0, none⟩) l.length l := by
  refine ⟨rfl, hl, fun _ => ⟨_, rfl, fun j p hj => ⟨[.int k p], rfl, rfl, fun i u hi => ?_⟩⟩⟩
  cases i with
  | succ i => simp at hi
  | zero =>
    obtain rfl : Value.int k p = u := by simpa using hi
    have e : (⟨W.heap.size, 0, none⟩ : Addr).add (j * (Kd.int k).sz + 0) = ⟨W.heap.size, j, none⟩ := by
      rw [add_plain]
      show (⟨W.heap.size, j * 1 + 0, none⟩ : Addr) = _
      rw [Nat.mul_one, Nat.add_zero]
    rw [e]
    exact box_new W _ j _ (by simp [hj])
theorem grow3 (w : World) (a b c : Obj) (n : Nat) : (((((w.alloc a).alloc b).drew).alloc c).drewN n) = Go.Sort.grow (w.drewN (1 + n)) #[a, b, c] := by
  cases w
  simp only [World.alloc, World.drew, World.drewN, Go.Sort.grow, Nat.add_assoc]
  congr 1
theorem below_grow (w : World) (q : Nat) (os : Array Obj) : Below w.heap.size w (Go.Sort.grow (w.drewN q) os) := by
  refine ⟨rfl, rfl, rfl, ?_, fun k hk => ?_⟩
  · show w.heap.size ≤ (w.heap ++ os).size
    rw [Array.size_append]; omega
  · show (w.heap ++ os)[k]? = w.heap[k]?
    rw [Array.getElem?_append_left hk]
/-- 'wp_region_still_tail', the world under a name. -/
theorem still_tail_named {P : Program} {id : Nat} {Q : Exit → Act → World → Prop} {a : Act} {w : World} {l : List Oper} (n : Nat) (hm : P.follows .mixedOrders = true) (hB : Region.lexTailB .any l.toArray n = true)
    (h : ∀ W1, W1 = w.drew → wpStill P l.toArray W1 (fun a' => wpList P l.toArray Q (l.drop n) a' W1) (l.take n) a) : (Code.region id l.toArray true).wp P Q a w :=
  wp_region_still_tail n hm hB (h _ rfl)
end Go.Proofs.YtpgmeaofmlipkaaH
