/- Plain laws, no program in sight: comparisons that are total preorders, one behind the other; sets as lists that rise strictly; sorting and striking out twins makes the one set. -/
import Derived.Lib.Bytealg
import Derived.Lib.SlicesCompact
import Derived.Sort.LotA
import Derived.Shelf.SlSortCmp.Insertion
set_option linter.unusedVariables false
set_option linter.unusedSimpArgs false
namespace Go.Proofs.YtpgmeaofmlipkaaH
open Go.Lib Go.Sort

/-- A comparison that is a total preorder. -/
structure PreCmp {α : Type} (c : α → α → Int) : Prop where
  anti : ∀ x y, c y x < 0 ↔ 0 < c x y
  trans : ∀ x y z, c x y ≤ 0 → c y z ≤ 0 → c x z ≤ 0

namespace PreCmp
variable {α : Type} {c : α → α → Int}
theorem refl (h : PreCmp c) (x : α) : c x x = 0 := by have := h.anti x x; omega
theorem symm (h : PreCmp c) {x y : α} (e : c x y = 0) : c y x = 0 := by have := h.anti x y; have := h.anti y x; omega
theorem flip (h : PreCmp c) {x y : α} : c x y < 0 ↔ 0 < c y x := h.anti y x
theorem le_of (h : PreCmp c) {x y : α} : ¬ c x y < 0 ↔ c y x ≤ 0 := by have := h.anti y x; omega
theorem lt_le (h : PreCmp c) {x y z : α} (a : c x y < 0) (b : c y z ≤ 0) : c x z < 0 := by
  have h1 := h.trans x y z (by omega) b
  have h2 := h.flip.1 a
  by_cases e : c x z = 0
  · have := h.trans y z x b (by rw [h.symm e]; exact Int.le_refl 0)
    omega
  · omega
theorem le_lt (h : PreCmp c) {x y z : α} (a : c x y ≤ 0) (b : c y z < 0) : c x z < 0 := by
  have h1 := h.trans x y z a (by omega)
  have h2 := h.flip.1 b
  by_cases e : c x z = 0
  · have := h.trans z x y (by rw [h.symm e]; exact Int.le_refl 0) a
    omega
  · omega
theorem lt_lt (h : PreCmp c) {x y z : α} (a : c x y < 0) (b : c y z < 0) : c x z < 0 := h.lt_le a (Int.le_of_lt b)
theorem lex {d : α → α → Int} (h : PreCmp c) (k : PreCmp d) : PreCmp (fun x y => if c x y = 0 then d x y else c x y) where
  anti x y := by
    have h1 := h.anti x y; have h2 := h.anti y x; have k1 := k.anti x y
    by_cases e : c x y = 0
    · rw [if_pos e, if_pos (h.symm e)]; exact k1
    · have e' : ¬ c y x = 0 := fun z => e (h.symm z)
      rw [if_neg e, if_neg e']; exact h1
  trans x y z a b := by
    by_cases e : c x y = 0
    · rw [if_pos e] at a
      by_cases f : c y z = 0
      · rw [if_pos f] at b
        have g1 := h.trans x y z (by omega) (by omega)
        have g2 := h.trans z y x (by rw [h.symm f]; exact Int.le_refl 0) (by rw [h.symm e]; exact Int.le_refl 0)
        have g3 := h.anti z x
        have : c x z = 0 := by omega
        rw [if_pos this]
        exact k.trans x y z a b
      · rw [if_neg f] at b
        have := h.le_lt (x := x) (by omega : c x y ≤ 0) (by omega : c y z < 0)
        rw [if_neg (by omega)]; omega
    · rw [if_neg e] at a
      by_cases f : c y z = 0
      · have := h.lt_le (by omega : c x y < 0) (by omega : c y z ≤ 0)
        rw [if_neg (by omega)]; omega
      · rw [if_neg f] at b
        have := h.lt_lt (by omega : c x y < 0) (by omega : c y z < 0)
        rw [if_neg (by omega)]; omega
theorem on {β : Type} {f : β → α} (h : PreCmp c) : PreCmp (fun x y => c (f x) (f y)) := ⟨fun x y => h.anti _ _, fun x y z => h.trans _ _ _⟩
theorem swo (h : PreCmp c) : SWO (ltOf c) where
  irrefl x := by simp [ltOf, h.refl x]
  trans x y z a b := by
    simp only [ltOf, decide_eq_true_eq] at *
    exact h.lt_lt a b
  ntrans x y z a b := by
    simp only [ltOf, decide_eq_false_iff_not] at *
    rw [h.le_of] at *
    exact h.trans z y x b a
end PreCmp

theorem bytes_zero : ∀ (a b : List UInt8), compareBytes a b = 0 ↔ a = b
  | [], [] => by simp [compareBytes]
  | [], _ :: _ => by simp [compareBytes]
  | _ :: _, [] => by simp [compareBytes]
  | a :: x, b :: y => by
    have ih := bytes_zero x y
    simp only [compareBytes]
    by_cases h1 : a < b
    · simp [h1]; intro e; subst e; exact absurd h1 (UInt8.lt_irrefl _)
    · by_cases h2 : b < a
      · simp [h1, h2]; intro e; subst e; exact absurd h2 (UInt8.lt_irrefl _)
      · have : a = b := by rw [UInt8.lt_iff_toNat_lt] at h1 h2; exact UInt8.toNat_inj.1 (by omega)
        subst this
        simp [ih]
theorem bytes_range : ∀ (a b : List UInt8), compareBytes a b = -1 ∨ compareBytes a b = 0 ∨ compareBytes a b = 1
  | [], [] => by simp [compareBytes]
  | [], _ :: _ => by simp [compareBytes]
  | _ :: _, [] => by simp [compareBytes]
  | a :: x, b :: y => by
    have ih := bytes_range x y
    simp only [compareBytes]
    split
    · simp
    · split
      · simp
      · exact ih
theorem bytes_flip : ∀ (a b : List UInt8), compareBytes b a = - compareBytes a b
  | [], [] => by simp [compareBytes]
  | [], _ :: _ => by simp [compareBytes]
  | _ :: _, [] => by simp [compareBytes]
  | a :: x, b :: y => by
    have ih := bytes_flip x y
    simp only [compareBytes]
    by_cases h1 : a < b
    · have h2 : ¬ b < a := by rw [UInt8.lt_iff_toNat_lt] at *; omega
      simp [h1, h2]
    · by_cases h2 : b < a
      · simp [h1, h2]
      · simp [h1, h2, ih]
theorem bytes_trans : ∀ (a b c : List UInt8), compareBytes a b ≤ 0 → compareBytes b c ≤ 0 → compareBytes a c ≤ 0
  | [], _, [] => by simp [compareBytes]
  | [], _, _ :: _ => by simp [compareBytes]
  | _ :: _, [], _ => by simp [compareBytes]
  | _ :: _, _ :: _, [] => by simp [compareBytes]
  | a :: x, b :: y, c :: z => by
    have ih := bytes_trans x y z
    simp only [compareBytes]
    simp only [UInt8.lt_iff_toNat_lt]
    intro p q
    by_cases h1 : a.toNat < b.toNat
    · by_cases h2 : b.toNat < c.toNat
      · rw [if_pos (by omega)]; omega
      · rw [if_neg h2] at q
        by_cases h3 : c.toNat < b.toNat
        · rw [if_pos h3] at q; omega
        · rw [if_pos (by omega)]; omega
    · rw [if_neg h1] at p
      by_cases h4 : b.toNat < a.toNat
      · rw [if_pos h4] at p; omega
      · rw [if_neg h4] at p
        by_cases h2 : b.toNat < c.toNat
        · rw [if_pos (by omega)]; omega
        · rw [if_neg h2] at q
          by_cases h3 : c.toNat < b.toNat
          · rw [if_pos h3] at q; omega
          · rw [if_neg h3] at q
            rw [if_neg (by omega), if_neg (by omega)]
            exact ih p q
theorem bytes_pre : PreCmp compareBytes := ⟨fun x y => by rw [bytes_flip x y]; omega, bytes_trans⟩

/-- The first that is not zero. -/
def firstNZ : List Int → Int
  | [] => 0
  | x :: l => if x = 0 then firstNZ l else x

/-! ### Sets: lists that rise strictly -/
section
variable {α : Type}
/-- A comparison that parts whatever two that are not one. -/
structure TotCmp (c : α → α → Int) : Prop extends PreCmp c where
  eq : ∀ x y, c x y = 0 → x = y
/-- The list rises strictly. -/
def SS (c : α → α → Int) (l : List α) : Prop := l.Pairwise fun x y => c x y < 0

variable {c : α → α → Int}
theorem TotCmp.zero (h : TotCmp c) {x y : α} : c x y = 0 ↔ x = y := ⟨h.eq x y, fun e => by rw [e]; exact h.refl y⟩
theorem TotCmp.ne (h : TotCmp c) {x y : α} (e : c x y < 0) : x ≠ y := fun z => by rw [z, h.refl] at e; omega

theorem SS.nodup (h : TotCmp c) {l : List α} (s : SS c l) : l.Nodup := s.imp (fun e => h.ne e)

/-- Two sets with the same members are one. -/
theorem SS.ext (h : TotCmp c) : ∀ {l m : List α}, SS c l → SS c m → (∀ t, t ∈ l ↔ t ∈ m) → l = m
  | [], [], _, _, _ => rfl
  | [], y :: m, _, _, e => absurd ((e y).2 (List.mem_cons_self ..)) (by simp)
  | x :: l, [], _, _, e => absurd ((e x).1 (List.mem_cons_self ..)) (by simp)
  | x :: l, y :: m, s, t, e => by
    obtain ⟨s1, s2⟩ := List.pairwise_cons.1 s
    obtain ⟨t1, t2⟩ := List.pairwise_cons.1 t
    have hxy : x = y := by
      rcases List.mem_cons.1 ((e x).1 (List.mem_cons_self ..)) with hx | hx
      · exact hx
      · rcases List.mem_cons.1 ((e y).2 (List.mem_cons_self ..)) with hy | hy
        · exact hy.symm
        · have a := t1 x hx
          have b := s1 y hy
          have := h.flip.1 a
          omega
    subst hxy
    congr 1
    refine SS.ext h s2 t2 fun z => ⟨fun hz => ?_, fun hz => ?_⟩
    · rcases List.mem_cons.1 ((e z).1 (List.mem_cons_of_mem _ hz)) with e1 | e1
      · exact absurd e1.symm (h.ne (s1 z hz))
      · exact e1
    · rcases List.mem_cons.1 ((e z).2 (List.mem_cons_of_mem _ hz)) with e1 | e1
      · exact absurd e1.symm (h.ne (t1 z hz))
      · exact e1

/-- One more in a set. -/
def ins (c : α → α → Int) (x : α) : List α → List α
  | [] => [x]
  | y :: l => if c x y < 0 then x :: y :: l else if c x y = 0 then y :: l else y :: ins c x l
/-- The set of a list's members. -/
def norm (c : α → α → Int) (l : List α) : List α := l.foldr (ins c) []

theorem mem_ins (h : TotCmp c) (x t : α) : ∀ l : List α, t ∈ ins c x l ↔ t = x ∨ t ∈ l
  | [] => by simp [ins]
  | y :: l => by
    have ih := mem_ins h x t l
    simp only [ins]
    split
    · simp
    · split
      · rename_i e
        have := h.eq _ _ e
        subst this
        simp
      · simp [ih]; constructor
        · rintro (a | a | a) <;> simp [a]
        · rintro (a | a | a) <;> simp [a]
theorem ss_ins (h : TotCmp c) (x : α) : ∀ {l : List α}, SS c l → SS c (ins c x l)
  | [], _ => by simp [ins, SS]
  | y :: l, s => by
    obtain ⟨s1, s2⟩ := List.pairwise_cons.1 s
    have ih := ss_ins h x s2
    simp only [ins]
    split
    · rename_i e
      refine List.pairwise_cons.2 ⟨fun z hz => ?_, s⟩
      rcases List.mem_cons.1 hz with e1 | e1
      · rw [e1]; exact e
      · exact h.lt_lt e (s1 z e1)
    · split
      · exact s
      · rename_i e f
        refine List.pairwise_cons.2 ⟨fun z hz => ?_, ih⟩
        rcases (mem_ins h x z l).1 hz with e1 | e1
        · rw [e1]; exact h.flip.2 (by omega)
        · exact s1 z e1
theorem mem_norm (h : TotCmp c) (t : α) (l : List α) : t ∈ norm c l ↔ t ∈ l := by
  induction l with
  | nil => simp [norm]
  | cons x l ih => rw [show norm c (x :: l) = ins c x (norm c l) from rfl, mem_ins h, ih, List.mem_cons]
theorem ss_norm (h : TotCmp c) (l : List α) : SS c (norm c l) := by
  induction l with
  | nil => simp [norm, SS]
  | cons x l ih => exact ss_ins h x ih
theorem norm_eq (h : TotCmp c) {l m : List α} (s : SS c m) (e : ∀ t, t ∈ m ↔ t ∈ l) : norm c l = m :=
  SS.ext h (ss_norm h l) s fun t => (mem_norm h t l).trans (e t).symm
theorem norm_self (h : TotCmp c) {l : List α} (s : SS c l) : norm c l = l := norm_eq h s fun _ => Iff.rfl
theorem norm_same (h : TotCmp c) {l m : List α} (e : ∀ t, t ∈ l ↔ t ∈ m) : norm c l = norm c m := norm_eq h (ss_norm h m) fun t => (mem_norm h t m).trans (e t).symm
theorem norm_length (c : α → α → Int) (l : List α) : (norm c l).length ≤ l.length := by
  have hi : ∀ (x : α) (m : List α), (ins c x m).length ≤ m.length + 1 := fun x m => by
    induction m with
    | nil => simp [ins]
    | cons y m ih =>
      simp only [ins]
      split
      · simp
      · split
        · simp
        · simpa using ih
  induction l with
  | nil => simp [norm]
  | cons x l ih => have := hi x (norm c l); rw [show norm c (x :: l) = ins c x (norm c l) from rfl]; simp; omega

/-- What Go's Compact leaves of a row that rises is the set. -/
theorem compact_norm [Inhabited α] [DecidableEq α] (h : TotCmp c) (d : Array α) (s : ∀ i j, i < j → j < d.size → c d[i]! d[j]! ≤ 0) : compactUpTo d d.size = norm c d.toList := by
  have key : ∀ m, m ≤ d.size → SS c (compactUpTo d m) ∧ (∀ t, t ∈ compactUpTo d m ↔ ∃ i, i < m ∧ d[i]! = t) := by
    intro m
    induction m with
    | zero => intro _; exact ⟨by simp [compactUpTo, SS], fun t => by simp [compactUpTo]⟩
    | succ m ih =>
      intro hm
      obtain ⟨i1, i2⟩ := ih (by omega)
      rw [compactUpTo_succ]
      by_cases hk : keeps d m = true
      · rw [hk, if_pos rfl]
        refine ⟨List.pairwise_append.2 ⟨i1, by simp, fun a ha b hb => ?_⟩, fun t => ?_⟩
        · obtain rfl : b = d[m]! := by simpa using hb
          obtain ⟨i, hi, rfl⟩ := (i2 a).1 ha
          have hm0 : m ≠ 0 := by omega
          have hne : d[m]! ≠ d[m - 1]! := by simpa [keeps, hm0] using hk
          have h1 : c d[m - 1]! d[m]! ≤ 0 := s (m - 1) m (by omega) (by omega)
          have h2 : c d[m - 1]! d[m]! < 0 := by
            by_cases e : c d[m - 1]! d[m]! = 0
            · exact absurd (h.eq _ _ e).symm hne
            · omega
          by_cases e : i = m - 1
          · rw [e]; exact h2
          · exact h.le_lt (s i (m - 1) (by omega) (by omega)) h2
        · rw [List.mem_append, i2]
          constructor
          · rintro (⟨i, hi, e⟩ | e)
            · exact ⟨i, by omega, e⟩
            · exact ⟨m, by omega, by simpa using (List.mem_singleton.1 e).symm⟩
          · rintro ⟨i, hi, e⟩
            by_cases f : i = m
            · subst f; exact .inr (by simp [e])
            · exact .inl ⟨i, by omega, e⟩
      · have hk' : keeps d m = false := by simpa using hk
        have hm0 : ¬ m = 0 ∧ d[m]! = d[m - 1]! := by simpa [keeps] using hk'
        rw [hk', if_neg (by simp), List.append_nil]
        refine ⟨i1, fun t => ?_⟩
        rw [i2]
        constructor
        · rintro ⟨i, hi, e⟩; exact ⟨i, by omega, e⟩
        · rintro ⟨i, hi, e⟩
          by_cases f : i = m
          · subst f; exact ⟨i - 1, by omega, by rw [← hm0.2]; exact e⟩
          · exact ⟨i, by omega, e⟩
  obtain ⟨k1, k2⟩ := key d.size (Nat.le_refl _)
  refine (norm_eq h k1 fun t => ?_).symm
  rw [k2]
  constructor
  · rintro ⟨i, hi, e⟩
    rw [← e, getElem!_pos d i hi]
    simp
  · intro ht
    obtain ⟨i, hi, e⟩ := List.getElem_of_mem ht
    exact ⟨i, by simpa using hi, by rw [getElem!_pos d i (by simpa using hi)]; simpa using e⟩
end
end Go.Proofs.YtpgmeaofmlipkaaH
