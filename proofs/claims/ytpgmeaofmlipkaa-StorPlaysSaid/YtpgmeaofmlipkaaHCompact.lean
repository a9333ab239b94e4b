/- slices.Compact at a struct (an aggregate of k cells, k a variable), over any program and any numbering that bears the library's body: after the kit's contract at one cell. -/
import Derived.Shelf.SlLaysE
import Derived.Shelf.SlicesE.Kit
import Derived.Shelf.SlicesE.Equal
import Derived.Shelf.SlicesQ.Load
import Derived.Shelf.SlicesQ.Reverse
import Derived.Shelf.GgSortFunc.RowK
import Derived.Shelf.RegionOpenPlain
import Derived.WalkKit
import Derived.Deep.LoopGhost
import Derived.Deep.Draws
import Derived.Lib.Walk
import Derived.Sort.WalkB12
import Derived.Lib.SliceRun
import Derived.Lib.SlicesCompact
import Derived.IntWalk
import Derived.Lib.Hide
set_option linter.unusedVariables false
set_option linter.unusedSimpArgs false
namespace Go.Proofs.YtpgmeaofmlipkaaH
open Go.Shelf Go.RowKit Go.Lib Go.Sort
variable {P : Program} {ρ : Ren} {α : Type} [Inhabited α] [DecidableEq α]

/-- The body of slices.Compact lies in P; of the element's type no fact. -/
structure CompactLays (P : Program) (ρ : Ren) : Prop where
  mixed : P.follows .mixedOrders = true
  f43 : Bears P (ρ.f 43) (SlBodyN.n43 ρ)
  t0 : P.underlying (ρ.t 0) = some (TypeDesc.tuple #[])
  a0 : ∀ w, (isAgg (ρ.t 0)).run P w = .ok false w
  z0 : ∀ w, (Go.sizeOf (ρ.t 0)).run P w = .ok 1 w
  v0 : ∀ w, (zeroValue (ρ.t 0)).run P w = .ok (Value.tuple #[]) w
  t3 : P.underlying (ρ.t 3) = some (TypeDesc.int IntKind.i64)
  a3 : ∀ w, (isAgg (ρ.t 3)).run P w = .ok false w
  z3 : ∀ w, (Go.sizeOf (ρ.t 3)).run P w = .ok 1 w
  v3 : ∀ w, (zeroValue (ρ.t 3)).run P w = .ok (Value.int IntKind.i64 0) w
  t4 : P.underlying (ρ.t 4) = some (TypeDesc.bool)
  a4 : ∀ w, (isAgg (ρ.t 4)).run P w = .ok false w
  z4 : ∀ w, (Go.sizeOf (ρ.t 4)).run P w = .ok 1 w
  v4 : ∀ w, (zeroValue (ρ.t 4)).run P w = .ok (Value.bool false) w
  t22 : P.underlying (ρ.t 22) = some (TypeDesc.slice (ρ.t 23))
  a22 : ∀ w, (isAgg (ρ.t 22)).run P w = .ok false w
  z22 : ∀ w, (Go.sizeOf (ρ.t 22)).run P w = .ok 1 w
  v22 : ∀ w, (zeroValue (ρ.t 22)).run P w = .ok (Value.slice none 0 0) w

omit [DecidableEq α] in
/-- Element i's cells laid anew. -/
theorem setMany_set (enc : α → List Value) (k : Nat) (hk : ∀ x, (enc x).length = k) (d : Array α) (i : Nat) (x : α) (hi : i < d.size) :
    setMany (flatK enc k d) (i * k) (enc x) = flatK enc k (d.setIfInBounds i x) := by
  refine ext_get! (by simp) fun t ht => ?_
  have ht' : t < d.size * k := by simpa using ht
  have k0 : 0 < k := by
    rcases Nat.eq_zero_or_pos k with h | h
    · subst h; simp at ht'
    · exact h
  rw [get_setMany _ _ _ t (by simpa using ht'), get_flatK _ _ _ t ht', get_flatK _ _ _ t (by simpa using ht'), hk]
  by_cases a : t / k = i
  · rw [if_pos ((blk_iff k i t k0).2 a)]
    have : t - i * k = t % k := by subst a; rw [Nat.mod_eq_sub_div_mul]
    rw [this]
    simp [a, hi]
  · rw [if_neg (fun h => a ((blk_iff k i t k0).1 h))]
    have e : (d.setIfInBounds i x)[t / k]! = d[t / k]! := getElem!_set_other d i (t / k) x a
    rw [e]

omit [DecidableEq α] in
theorem store_worldK (enc : α → List Value) (k : Nat) (hk : ∀ x, (enc x).length = k) {w wr : World} {n blk off : Nat} {dk : Array α} {i : Nat} (hi : i < dk.size) (hwr : wr = putRowK enc k (Sort.ahead w n) blk off dk) (x : α) (m : Nat) :
    (wr.drewN m).setCells blk (off + i * k) (enc x) = putRowK enc k (Sort.ahead w (n + m)) blk off (dk.setIfInBounds i x) := by
  subst hwr
  have b : i * k + k ≤ dk.size * k := by
    have := Nat.mul_le_mul_right k (show i + 1 ≤ dk.size from hi); rwa [Nat.add_mul, Nat.one_mul] at this
  rw [putRowK_drewN]
  unfold putRowK
  rw [setCells_putRow _ _ _ _ _ _ (by rw [hk, size_flatK]; exact b), setMany_set enc k hk dk i x hi]

theorem setMany_append : ∀ (a : List Value) (F : Array Value) (s : Nat) (b : List Value), setMany F s (a ++ b) = setMany (setMany F s a) (s + a.length) b
  | [], _, _, _ => rfl
  | v :: r, F, s, b => by
    rw [List.cons_append, setMany, setMany, setMany_append r, List.length_cons, Nat.add_assoc, Nat.add_comm 1]

omit [DecidableEq α] in
theorem setMany_lay (enc : α → List Value) (k : Nat) (hk : ∀ x, (enc x).length = k) : ∀ (xs : List α) (d : Array α) (i : Nat), i + xs.length ≤ d.size →
    setMany (flatK enc k d) (i * k) (xs.flatMap enc) = flatK enc k (lay d i xs)
  | [], _, _, _ => rfl
  | x :: r, d, i, h => by
    have hl : i + (r.length + 1) ≤ d.size := by simpa using h
    rw [List.flatMap_cons, setMany_append, hk, setMany_set enc k hk d i x (by omega), lay, show i * k + k = (i + 1) * k by rw [Nat.add_mul, Nat.one_mul]]
    exact setMany_lay enc k hk r _ (i + 1) (by simp; omega)

omit [DecidableEq α] [Inhabited α] in
theorem flat_rep (enc : α → List Value) (k : Nat) (hk : ∀ x, (enc x).length = k) (z : α) : ∀ (n t : Nat), ((List.replicate n z).flatMap enc)[t]? = if t < n * k then some (enc z)[t % k]! else none
  | 0, t => by simp
  | n + 1, t => by
    rw [List.replicate_succ, List.flatMap_cons]
    rcases Nat.lt_or_ge t k with h | h
    · rw [List.getElem?_append_left (by rw [hk]; exact h), if_pos (by rw [Nat.add_mul, Nat.one_mul]; omega), Nat.mod_eq_of_lt h, List.getElem?_eq_getElem (by rw [hk]; exact h), getElem!_pos (enc z) t (by rw [hk]; exact h)]
    · rw [List.getElem?_append_right (by rw [hk]; exact h), hk, flat_rep enc k hk z n (t - k), Nat.add_mul, Nat.one_mul, ← Nat.mod_eq_sub_mod h]
      by_cases c : t - k < n * k
      · rw [if_pos c, if_pos (by omega)]
      · rw [if_neg c, if_neg (by omega)]

omit [DecidableEq α] [Inhabited α] in
/-- n elements' zero cells. -/
theorem zero_cells (enc : α → List Value) (k : Nat) (hk : ∀ x, (enc x).length = k) (z : α) (n : Nat) : (Builtin.zeroCells (enc z).toArray n).toList = (List.replicate n z).flatMap enc := by
  refine List.ext_getElem? fun t => ?_
  rw [flat_rep enc k hk z n t]
  simp only [Builtin.zeroCells, Array.toList_map, Array.toList_range, List.getElem?_map, List.size_toArray, hk]
  by_cases c : t < n * k
  · rw [if_pos c, List.getElem?_range c]
    simp
  · rw [if_neg c, List.getElem?_eq_none (by simpa using c)]
    rfl

omit [DecidableEq α] in
/-- 'clear(s)', s a slice of n elements of k cells each. -/
theorem run_clear_sliceK (enc : α → List Value) (k : Nat) (hk : ∀ x, (enc x).length = k) (h1 : ∀ x, ∀ v ∈ enc x, v.oneCell' = true) (z : α) (w : World) (t e ty : TypeId) (ht : P.underlying t = some (.slice e)) (hv : ∀ w, (zeroValue e).run P w = .ok (.agg (enc z).toArray) w)
    (blk off i n c : Nat) (dk : Array α) (hH : HoldsK enc k w blk off dk) (hn : 0 < n) (hi : i + n ≤ dk.size) :
    (Builtin.clear_ #[t] ty #[.slice (some ⟨blk, off + i * k, none⟩) n c]).run P w = .ok (.tuple #[]) (w.setCells blk (off + i * k) ((List.replicate n z).flatMap enc)) := by
  have hz := zero_cells enc k hk z n
  have hlen : ((List.replicate n z).flatMap enc).length = n * k := by
    rw [List.length_flatMap, List.map_replicate, List.sum_replicate_nat, hk]
  have hst := stores_of_holds P hH (i * k) ((List.replicate n z).flatMap enc) (by rw [hlen, size_flatK, ← Nat.add_mul]; exact Nat.mul_le_mul_right k hi) (by
    intro v hv'
    obtain ⟨x, _, hx⟩ := List.mem_flatMap.1 hv'
    exact h1 x v hx)
  obtain ⟨m, rfl⟩ : ∃ m, n = m + 1 := ⟨n - 1, by omega⟩
  simp only [Builtin.clear_]
  simp [run_underlying ht, hv, Value.cells, hz, hst]

set_option maxHeartbeats 4000000 in
set_option maxRecDepth 1000000 in
/-- slices.Compact at a struct. -/
theorem compactK (L : CompactLays P ρ) (k : Nat) (aE : ∀ w, (isAgg (ρ.t 23)).run P w = .ok true w) (zE : ∀ w, (Go.sizeOf (ρ.t 23)).run P w = .ok k w) (enc : α → List Value) (hk : ∀ x, (enc x).length = k) (h1 : ∀ x, ∀ v ∈ enc x, v.oneCell' = true)
    (heq : EqlAt P (ρ.t 23) (fun x => .agg (enc x).toArray) (fun x y => decide (x = y))) (hne : NeqAt P (ρ.t 23) (fun x => .agg (enc x).toArray) (fun x y => decide (x = y))) (zr : α) (v23 : ∀ w, (zeroValue (ρ.t 23)).run P w = .ok (.agg (enc zr).toArray) w)
    (blk off cap : Nat) (d : Array α) (w : World) (hH : HoldsK enc k w blk off d) (hsz : d.size ≤ 9223372036854775807) (hcap : d.size ≤ cap) :
    Calls P (ρ.f 43) #[.slice (some ⟨blk, off, none⟩) d.size cap] w fun e w' => e = .returned (.slice (some ⟨blk, off, none⟩) (compactUpTo d d.size).length cap) ∧ ∃ q, w' = putRowK enc k (Sort.ahead w q) blk off (compactUpTo d d.size ++ List.replicate (d.size - (compactUpTo d d.size).length) zr).toArray := by
  have mixed := L.mixed; have t0 := L.t0; have a0 := L.a0; have z0 := L.z0; have v0 := L.v0; have t3 := L.t3; have a3 := L.a3; have z3 := L.z3; have v3 := L.v3; have t4 := L.t4; have a4 := L.a4; have z4 := L.z4; have v4 := L.v4; have t22 := L.t22; have a22 := L.a22; have z22 := L.z22; have v22 := L.v22
  have heq' : ∀ (x y : α) (w : World), Sem.run P (binOp .eql (ρ.t 23) (.agg (enc x).toArray) (.agg (enc y).toArray)) w = .ok (.bool (decide (x = y))) w := heq.1
  have hne' : ∀ (x y : α) (w : World), Sem.run P (binOp .neq (ρ.t 23) (.agg (enc x).toArray) (.agg (enc y).toArray)) w = .ok (.bool (!decide (x = y))) w := hne.1
  have hgd' : ∀ (op : BinOp) (a b : Operand) (x y : α) (w : World), Sem.run P (eqGuard op (ρ.t 23) a b (.agg (enc x).toArray) (.agg (enc y).toArray)) w = .ok () w := hne.2
  have same : ∀ q, (∀ j, j < d.size → keeps d j = true) → (compactUpTo d d.size).length = d.size ∧ w.drewN q = putRowK enc k (Sort.ahead w q) blk off (compactUpTo d d.size ++ List.replicate (d.size - (compactUpTo d d.size).length) zr).toArray := by
    intro q hall
    have e : compactUpTo d d.size = d.toList := by rw [compactUpTo_all d _ hall, range_map_get]
    rw [e]
    refine ⟨by simp, ?_⟩
    simp only [Array.length_toList, Nat.sub_self, List.replicate_zero, List.append_nil, Array.toArray_toList]
    exact (putRowK_self enc k (Sort.ahead w q) blk off d (holdsK_ahead enc k w q blk off d hH)).symm
  have HS : Aside (∀ q, (∀ j, j < d.size → keeps d j = true) → (compactUpTo d d.size).length = d.size ∧ w.drewN q = putRowK enc k (Sort.ahead w q) blk off (compactUpTo d d.size ++ List.replicate (d.size - (compactUpTo d d.size).length) zr).toArray) := same
  clear same
  have HKK : Hid (∀ x, (enc x).length = k) := hk
  have H1 : Hid (∀ x, ∀ v ∈ enc x, v.oneCell' = true) := h1
  have HH : Aside (HoldsK enc k w blk off d) := hH
  have load : ∀ (W : World) (dk : Array α) (_ : HoldsK enc k W blk off dk) (i : Nat) (_ : i < dk.size) (m : Nat), Sem.run P (loadCellsFrom ⟨blk, off + i * k, none⟩ 0 k #[]) (W.drewN m) = .ok (enc dk[i]!).toArray (W.drewN m) :=
    fun W dk hHd i hi m => run_loadCellsFrom_list P _ _ _ k (hk _) (fun c v hv => by rw [World.cell?_drewN]; exact HoldsK.cells hHd hk hi c v hv)
  have LD : Hid (∀ (W : World) (dk : Array α) (_ : HoldsK enc k W blk off dk) (i : Nat) (_ : i < dk.size) (m : Nat), Sem.run P (loadCellsFrom ⟨blk, off + i * k, none⟩ 0 k #[]) (W.drewN m) = .ok (enc dk[i]!).toArray (W.drewN m)) := load
  clear hH load hk h1
  by_cases h2 : d.size < 2
  · obtain ⟨_, _, FG⟩ := L.f43
    go_enter FG, SlBodyN.n43_ntmps ρ
    go_wp2
    go_ret
    obtain ⟨e1, e2⟩ := HS.out 0 (fun j hj => keeps_lt_one d j (by omega))
    exact ⟨by rw [e1]; rfl, 0, e2⟩
  · obtain ⟨_, _, FG⟩ := L.f43
    go_enter FG, SlBodyN.n43_ntmps ρ
    go_wp2
    go_loopg [3] d.size (fun g s3 wr => ∃ kk q : Nat, 1 ≤ kk ∧ kk ≤ d.size ∧ d.size - kk ≤ g ∧ s3 = .int .i64 kk ∧ wr = w.drewN q ∧ ∀ j, j < kk → keeps d j = true)
    case atStart => exact ⟨1, 0, Nat.le_refl _, by omega, by omega, rfl, rfl, keeps_lt_one d⟩
    case round =>
      obtain ⟨kk, q, hk1, hkd, hg, rfl, rfl, hall⟩ := hrel
      by_cases hlt : kk < d.size
      · have l1 := LD.out (w.drewN q) d (holdsK_ahead enc k w q blk off d HH.out) kk hlt
        have l0 := LD.out (w.drewN q) d (holdsK_ahead enc k w q blk off d HH.out) (kk - 1) (by omega)
        have A : Aside (∀ j, j < kk → keeps d j = true) := hall
        clear hall
        generalize hx : d[kk]! = x at l1
        generalize hy : d[kk - 1]! = y at l0
        have B : Aside (d[kk]! = x ∧ d[kk - 1]! = y) := ⟨hx, hy⟩
        clear hx hy
        obtain ⟨wq, hwq⟩ : ∃ W, W = w.drewN q := ⟨_, rfl⟩
        rw [← hwq] at l1 l0 ⊢
        have WQ : Aside (wq = w.drewN q) := hwq
        clear hwq
        have w1 : IntKind.i64.wrap ((kk : Int) - 1) = ((kk - 1 : Nat) : Int) := by rw [IntWalk.i64_in _ (by omega)]; omega
        have b1 : kk - 1 < d.size := by omega
        have b2 : ((kk - 1 : Nat) : Int) < (d.size : Int) := by omega
        by_cases hdup : x = y
        · subst hdup
          go_wp2_with fail
          go_quiet_o (fail)
          go_wp2
          have hwr0 : Aside (wq.drewN nq = putRowK enc k (Sort.ahead w (q + nq)) blk off d) := by
            show wq.drewN nq = _
            rw [WQ.out, World.drewN_drewN]
            exact (putRowK_self enc k (Sort.ahead w (q + nq)) blk off d (holdsK_ahead enc k w (q + nq) blk off d HH.out)).symm
          have hst0 : Aside (CompInv d (kk + 1) kk d) := CompInv.start A.out (keeps_neg (by omega) (by rw [B.out.1, B.out.2]))
          clear l1 l0 w1 b1 b2
          go_loopg [3, 5] d.size (fun g s3 s5 wr => ∃ (kj k2 q2 : Nat) (dk : Array α), s3 = .int .i64 kj ∧ s5 = .int .i64 k2 ∧ 1 ≤ k2 ∧ kk + k2 ≤ d.size ∧ d.size - (kk + k2) ≤ g ∧ Aside (wr = putRowK enc k (Sort.ahead w q2) blk off dk) ∧ Aside (CompInv d (kk + k2) kj dk))
          case atStart => exact ⟨kk, 1, q + nq, d, rfl, rfl, Nat.le_refl _, by omega, by omega, hwr0, hst0⟩
          case round =>
            obtain ⟨kj, k2, q2, dk, rfl, rfl, h1, hle, hg2, W2, I2⟩ := hrel
            have hkk := I2.out.lt
            have hds := I2.out.size
            have hHk : HoldsK enc k wr blk off dk := by
              rw [W2.out]
              exact holdsK_putRowK enc k _ blk off d dk (holdsK_ahead enc k w q2 blk off d HH.out) hds
            by_cases hlt2 : kk + k2 < d.size
            · have lm := LD.out wr dk hHk (kk + k2) (by omega)
              have lp := LD.out wr dk hHk (kk + k2 - 1) (by omega)
              rw [I2.out.high (kk + k2) (by omega), show off + (kk + k2) * k = off + kk * k + k2 * k by rw [Nat.add_mul]; omega] at lm
              rw [I2.out.high (kk + k2 - 1) (by omega), show off + (kk + k2 - 1) * k = off + kk * k + (k2 - 1) * k by rw [show kk + k2 - 1 = kk + (k2 - 1) by omega, Nat.add_mul]; omega] at lp
              generalize hu : d[kk + k2]! = u at lm
              generalize hv : d[kk + k2 - 1]! = v at lp
              have C : Aside (d[kk + k2]! = u ∧ d[kk + k2 - 1]! = v) := ⟨hu, hv⟩
              clear hu hv
              have hb : kj * k + k ≤ dk.size * k := by
                have := Nat.mul_le_mul_right k (show kj + 1 ≤ dk.size by omega); rwa [Nat.add_mul, Nat.one_mul] at this
              have st : ∀ m, Sem.run P (storeCells ⟨blk, off + kj * k, none⟩ (enc u) 0) (wr.drewN m) = .ok () ((wr.drewN m).setCells blk (off + kj * k) (enc u)) := fun m =>
                stores_of_holds P (W := wr.drewN m) hHk (kj * k) _ (by rw [HKK.out, size_flatK]; exact hb) (H1.out u)
              have HHk := Lib.hid hHk
              clear hHk hb
              have w2 : IntKind.i64.wrap ((k2 : Int) - 1) = ((k2 - 1 : Nat) : Int) := by rw [IntWalk.i64_in _ (by omega)]; omega
              have b3 : k2 < d.size - kk := by omega
              have b4 : (k2 : Int) < ((d.size - kk : Nat) : Int) := by omega
              have b5 : k2 - 1 < d.size - kk := by omega
              have b6 : ((k2 - 1 : Nat) : Int) < ((d.size - kk : Nat) : Int) := by omega
              have b7 : kj < d.size := by omega
              have hDS := Lib.hid hds
              clear hds
              by_cases huv : u = v
              · subst huv
                clear st
                go_wp2_with fail
                go_quiet_o (fail)
                go_wp2
                go_roundg (d.size - (kk + (k2 + 1)))
                case measure => omega
                case rel =>
                  have W3 : Aside (wr.drewN nq = putRowK enc k (Sort.ahead w (q2 + nq)) blk off dk) := by
                    show wr.drewN nq = _
                    rw [W2.out, putRowK_drewN]
                  have I3 : Aside (CompInv d (kk + (k2 + 1)) kj dk) := I2.out.skip (keeps_neg (by omega) (by rw [C.out.1, C.out.2]))
                  exact ⟨kj, k2 + 1, q2 + nq, dk, rfl, by go_num, by omega, by omega, Nat.le_refl _, W3, I3⟩
              · have hsU : (enc u).length = k := HKK.out u
                go_wp2_with fail
                go_quiet_o (fail)
                go_wp2
                go_roundg (d.size - (kk + (k2 + 1)))
                case measure => omega
                case rel =>
                  have W3 : Aside ((wr.drewN nq).setCells blk (off + kj * k) (enc u) = putRowK enc k (Sort.ahead w (q2 + nq)) blk off (dk.setIfInBounds kj u)) := store_worldK enc k HKK.out (by have := hDS.out; omega) W2.out u nq
                  have I3 : Aside (CompInv d (kk + (k2 + 1)) (kj + 1) (dk.setIfInBounds kj u)) := by
                    have := I2.out.keep hlt2 (keeps_pos (by rw [C.out.1, C.out.2]; exact huv))
                    rw [C.out.1] at this
                    exact this
                  exact ⟨kj + 1, k2 + 1, q2 + nq, dk.setIfInBounds kj u, by go_num, by go_num, by omega, by omega, Nat.le_refl _, W3, I3⟩
            · have hend : kk + k2 = d.size := by omega
              have hcl : ∀ ty, (Builtin.clear_ #[ρ.t 22] ty #[.slice (some ⟨blk, off + kj * k, none⟩) (d.size - kj) (cap - kj)]).run P wr = .ok (.tuple #[]) (wr.setCells blk (off + kj * k) ((List.replicate (d.size - kj) zr).flatMap enc)) :=
                fun ty => run_clear_sliceK enc k HKK.out H1.out zr wr _ _ ty t22 v23 blk off kj _ _ dk hHk (by omega) (by omega)
              have hfin : wr.setCells blk (off + kj * k) ((List.replicate (d.size - kj) zr).flatMap enc) = putRowK enc k (Sort.ahead w q2) blk off (compactUpTo d d.size ++ List.replicate (d.size - (compactUpTo d d.size).length) zr).toArray := by
                have hI := I2.out
                rw [hend] at hI
                have hlen : ((List.replicate (d.size - kj) zr).flatMap enc).length = (d.size - kj) * k := by
                  rw [List.length_flatMap, List.map_replicate, List.sum_replicate_nat, HKK.out]
                rw [hI.len, ← hI.done zr, W2.out]
                unfold putRowK
                rw [setCells_putRow _ _ _ _ _ _ (by rw [hlen, size_flatK, hds, ← Nat.add_mul]; exact Nat.mul_le_mul_right k (by omega)), setMany_lay enc k HKK.out _ _ _ (by simp; omega)]
              have hlen2 : (compactUpTo d d.size).length = kj := by have hI := I2.out; rw [hend] at hI; exact hI.len
              have HF := Lib.hid hfin
              have HL := Lib.hid hlen2
              have HD := Lib.hid hds
              have HE := Lib.hid hend
              clear hfin hlen2 hds hHk hend
              have b8 : kj < d.size := by omega
              go_wp2
              go_ret
              exact ⟨by rw [HL.out]; rfl, q2, HF.out⟩
        · go_wp2_with fail
          go_quiet_o (fail)
          go_wp2
          go_roundg (d.size - (kk + 1))
          case measure => omega
          case rel =>
            refine ⟨kk + 1, q + nq, by omega, by omega, Nat.le_refl _, by go_num, by rw [WQ.out, World.drewN_drewN], fun j hj => ?_⟩
            by_cases e : j = kk
            · subst e
              exact keeps_pos (by rw [B.out.1, B.out.2]; exact hdup)
            · exact A.out j (by omega)
      · have : kk = d.size := by omega
        subst this
        go_wp2
        go_ret
        obtain ⟨e1, e2⟩ := HS.out q hall
        exact ⟨by rw [e1]; rfl, q, e2⟩

end Go.Proofs.YtpgmeaofmlipkaaH
