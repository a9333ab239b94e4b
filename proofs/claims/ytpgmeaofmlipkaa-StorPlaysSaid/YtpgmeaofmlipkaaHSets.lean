/- Plain laws on sets of anything that a total comparison orders: what is left, what is in both, how many; and the bits that a mask leaves. -/
import Derived.Test.YtpgmeaofmlipkaaHOrd
import Derived.Laws.BitsLemmas
set_option linter.unusedVariables false
set_option linter.unusedSimpArgs false
namespace Go.Proofs.YtpgmeaofmlipkaaH
open Go.Lib
section
variable {α : Type} [DecidableEq α] {c : α → α → Int}

/-- What is in a and not in b. -/
def less (a b : List α) : List α := a.filter fun t => !decide (t ∈ b)
theorem mem_less (t : α) (a b : List α) : t ∈ less a b ↔ t ∈ a ∧ t ∉ b := by simp [less]
omit [DecidableEq α] in
theorem ss_filter {a : List α} (h : SS c a) (p : α → Bool) : SS c (a.filter p) := List.Pairwise.filter p h
theorem ss_less {a : List α} (h : SS c a) (b : List α) : SS c (less a b) := ss_filter h _
theorem less_length (a b : List α) : (less a b).length ≤ a.length := List.length_filter_le _ _

/-- What is in both is told from either side. -/
theorem both_eq (h : TotCmp c) {x y : List α} (hx : SS c x) (hy : SS c y) : less x (less x y) = less y (less y x) :=
  SS.ext h (ss_less hx _) (ss_less hy _) fun t => by
    simp only [mem_less]
    by_cases a : t ∈ x <;> by_cases b : t ∈ y <;> simp [a, b]
theorem sum_length (h : TotCmp c) {x y : List α} (hx : SS c x) (hy : SS c y) : (norm c (x ++ y)).length + (less x (less x y)).length = x.length + y.length := by
  have e1 : (norm c (x ++ y)).length = (x ++ less y x).length := by
    apply List.Perm.length_eq
    rw [List.perm_ext_iff_of_nodup (SS.nodup h (ss_norm h _)) (List.nodup_append.2 ⟨hx.nodup h, (ss_less hy x).nodup h, fun a ha b hb e => by subst e; exact ((mem_less a y x).1 hb).2 ha⟩)]
    intro t
    rw [mem_norm h, List.mem_append, List.mem_append, mem_less]
    by_cases a : t ∈ x <;> simp [a]
  have e2 : less x (less x y) = y.filter fun t => decide (t ∈ x) := by
    rw [both_eq h hx hy]
    unfold less
    refine List.filter_congr fun t ht => ?_
    simp [ht]
  have e3 : (less y x).length + (y.filter fun t => decide (t ∈ x)).length = y.length := by
    clear e1 e2 hx hy
    unfold less
    induction y with
    | nil => rfl
    | cons t y ih =>
      by_cases a : t ∈ x
      · simp [List.filter_cons, a] at ih ⊢; omega
      · simp [List.filter_cons, a] at ih ⊢; omega
  rw [e1, e2, List.length_append]
  omega
/-- Dropping and adding makes the one of the other. -/
theorem diff_back (h : TotCmp c) {x y : List α} (hx : SS c x) (hy : SS c y) : norm c (less x (less x y) ++ less y x) = y :=
  norm_eq h hy fun t => by
    rw [List.mem_append, mem_less, mem_less, mem_less]
    by_cases a : t ∈ x <;> by_cases b : t ∈ y <;> simp [a, b]
omit [DecidableEq α] in
theorem norm_norm (h : TotCmp c) (l : List α) : norm c (norm c l) = norm c l := norm_self h (ss_norm h l)
theorem less_norm (h : TotCmp c) (a b : List α) : less a (norm c b) = less a b := by
  unfold less
  refine List.filter_congr fun t _ => ?_
  have := mem_norm h t b
  simp [this]
end

/-- A mask of i bits. -/
theorem and_mask (i : Nat) (hi : i ≤ 62) (x : Int) : Go.bits .and .i64 x (2 ^ i - 1) = x % 2 ^ i := by
  have hpos : 0 < 2 ^ i := Nat.two_pow_pos i
  have hle : 2 ^ i ≤ 2 ^ 62 := Nat.pow_le_pow_right (by decide) hi
  have hc : ((2 : Int) ^ i - 1) = ((2 ^ i - 1 : Nat) : Int) := by rw [Int.natCast_sub hpos]; simp
  rw [hc]
  have hb : (2 ^ i - 1) % 2 ^ 64 = 2 ^ i - 1 := Nat.mod_eq_of_lt (by omega)
  show IntKind.i64.wrap (((BitVec.ofInt 64 x) &&& (BitVec.ofInt 64 ((2 ^ i - 1 : Nat) : Int))).toNat : Int) = _
  rw [BitVec.ofInt_natCast, BitVec.toNat_and, BitVec.toNat_ofNat, hb, Nat.and_two_pow_sub_one_eq_mod]
  have hd : (BitVec.ofInt 64 x).toNat % 2 ^ i = (x % 2 ^ i).toNat := by
    rw [BitVec.toNat_ofInt]
    have h1 : (((x % (2 ^ 64 : Nat)).toNat % 2 ^ i : Nat) : Int) = x % 2 ^ i := by
      rw [Int.natCast_emod, Int.toNat_of_nonneg (Int.emod_nonneg _ (by decide))]
      have : ((2 ^ i : Nat) : Int) ∣ ((2 ^ 64 : Nat) : Int) := Int.natCast_dvd_natCast.2 (Nat.pow_dvd_pow 2 (by omega))
      rw [Int.emod_emod_of_dvd _ this]
      simp
    have h2 : 0 ≤ x % 2 ^ i := Int.emod_nonneg _ (by have : (0:Int) < 2 ^ i := Int.pow_pos (by decide); omega)
    omega
  rw [hd]
  have h2 : 0 ≤ x % 2 ^ i := Int.emod_nonneg _ (by have : (0:Int) < 2 ^ i := Int.pow_pos (by decide); omega)
  have h3 : x % 2 ^ i < 2 ^ i := Int.emod_lt_of_pos _ (Int.pow_pos (by decide))
  have h4 : (2 : Int) ^ i ≤ 2 ^ 62 := by exact_mod_cast hle
  rw [Int.toNat_of_nonneg h2, IntKind.wrap_i64]
  omega
theorem and1 (x : Int) : Go.bits .and .i64 x 1 = x % 2 := and_mask 1 (by decide) x
theorem and3 (x : Int) : Go.bits .and .i64 x 3 = x % 4 := and_mask 2 (by decide) x
theorem and7 (x : Int) : Go.bits .and .i64 x 7 = x % 8 := and_mask 3 (by decide) x
theorem and15 (x : Int) : Go.bits .and .i64 x 15 = x % 16 := and_mask 4 (by decide) x
theorem and31 (x : Int) : Go.bits .and .i64 x 31 = x % 32 := and_mask 5 (by decide) x
theorem and255 (x : Int) : Go.bits .and .i64 x 255 = x % 256 := and_mask 8 (by decide) x
theorem and511 (x : Int) : Go.bits .and .i64 x 511 = x % 512 := and_mask 9 (by decide) x
section
variable {α : Type} {c : α → α → Int}
/-- Does the list rise strictly? -/
def rises (c : α → α → Int) : List α → Bool
  | x :: y :: l => decide (c x y < 0) && rises c (y :: l)
  | _ => true
theorem rises_ss (h : TotCmp c) : ∀ l : List α, rises c l = true ↔ SS c l
  | [] => by simp [rises, SS]
  | [x] => by simp [rises, SS]
  | x :: y :: l => by
    have ih := rises_ss h (y :: l)
    simp only [rises, Bool.and_eq_true, decide_eq_true_eq, ih]
    constructor
    · rintro ⟨h1, h2⟩
      refine List.pairwise_cons.2 ⟨fun z hz => ?_, h2⟩
      rcases List.mem_cons.1 hz with e | e
      · rw [e]; exact h1
      · exact h.lt_lt h1 ((List.pairwise_cons.1 h2).1 z e)
    · intro g
      obtain ⟨h1, h2⟩ := List.pairwise_cons.1 g
      exact ⟨h1 y (List.mem_cons_self ..), h2⟩
end
end Go.Proofs.YtpgmeaofmlipkaaH
