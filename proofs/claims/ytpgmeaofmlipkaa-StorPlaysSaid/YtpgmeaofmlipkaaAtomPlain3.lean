/- What the printed functions over names and ids answer, as plain laws of bytes. -/
import Derived.Test.YtpgmeaofmlipkaaPTx1060
import Derived.Test.YtpgmeaofmlipkaaPTx1053
import Derived.Test.YtpgmeaofmlipkaaRPlain2
set_option linter.unusedVariables false
set_option linter.unusedSimpArgs false
namespace Go.Proofs.Ytpgmeaofmlipkaa.PT
open Go.RowKit Go.Proofs.YtpgmeaofmlipkaaW.PrintWords Go.Proofs.YtpgmeaofmlipkaaW.PrintLast Go.Proofs.YtpgmeaofmlipkaaH
def alB (c : Int) : Bool := (decide (97 ≤ c) && decide (c ≤ 122)) || (decide (48 ≤ c) && decide (c ≤ 57))
def plB (c : Int) : Bool := alB c || (decide (c = 95) || (decide (c = 45) || decide (c = 46)))
def idcB (c : Int) : Bool := plB c || (decide (c = 47) || (decide (c = 124) || decide (c = 42)))
theorem first_some (c : Int) : atom_first.f c = some (alB c) := by
  unfold atom_first.f alB
  by_cases h1 : 97 ≤ c <;> by_cases h2 : c ≤ 122 <;> by_cases h3 : 48 ≤ c <;> by_cases h4 : c ≤ 57 <;> simp [h1, h2, h3, h4]
theorem alnum_some (c : Int) : entailref1_alnum.f c = some (alB c) := by
  unfold entailref1_alnum.f alB
  by_cases h1 : 97 ≤ c <;> by_cases h2 : c ≤ 122 <;> by_cases h3 : 48 ≤ c <;> by_cases h4 : c ≤ 57 <;> simp [h1, h2, h3, h4]
theorem plain_some (c : Int) : atom_plain.f c = some (plB c) := by
  unfold atom_plain.f plB
  rw [first_some]
  cases h : alB c <;> by_cases h1 : c = 95 <;> by_cases h2 : c = 45 <;> simp [h1, h2] <;> (first | done | rfl | (by_cases h3 : c = 46 <;> simp [h3]))
/-- p of all bytes from i on, d of them. -/
def allFrom (p : Int → Bool) (s : ByteArray) : Nat → Nat → Bool
  | 0, _ => true
  | d + 1, i => p (bt s (i : Int)) && allFrom p s d (i + 1)
def restB (p : Int → Bool) (s : ByteArray) (i : Nat) : Bool := allFrom p s (s.size - i) i
def nameB (s : ByteArray) : Bool := decide (1 ≤ s.size) && (decide (s.size ≤ 30) && (alB (bt s 0) && restB plB s 0))
def idB (s : ByteArray) : Bool := restB idcB s 0 && (decide (1 ≤ s.size) && decide (s.size ≤ 250))
def okT (t : S41) : Bool := nameB t.f0.f0 && (idB t.f0.f1 && (nameB t.f1 && (nameB t.f2.f0 && (idB t.f2.f1 && (decide (t.f2.f2.size = 0) || nameB t.f2.f2)))))
theorem empty_iff (s : ByteArray) : s.toList = ([] : List UInt8) ↔ s.size = 0 := by
  rw [Lib.toList_data]
  constructor
  · intro h; have : s.data.toList.length = 0 := by rw [h]; rfl
    simpa using this
  · intro h; exact List.eq_nil_of_length_eq_zero (by simpa using h)
theorem name_loop (s : ByteArray) (hs : s.size ≤ 9223372036854775807) : ∀ (d i : Nat), i ≤ s.size → s.size - i = d → Ev (fun k => atom_Name.l0 k s (s.size : Int) (i : Int)) (restB plB s i) := by
  intro d
  induction d with
  | zero =>
    intro i hi hd
    refine ⟨1, fun k hk => ?_⟩
    obtain ⟨k, rfl⟩ : ∃ m, k = m + 1 := ⟨k - 1, by omega⟩
    simp only [atom_Name.l0]
    rw [if_neg (by omega)]
    simp [restB, hd, allFrom]
  | succ d ih =>
    intro i hi hd
    obtain ⟨K, hK⟩ := ih (i + 1) (by omega) (by omega)
    refine ⟨K + 1, fun k hk => ?_⟩
    obtain ⟨k, rfl⟩ : ∃ m, k = m + 1 := ⟨k - 1, by omega⟩
    have h2 := hK k (by omega)
    simp only at h2
    simp only [atom_Name.l0]
    rw [if_pos (by omega), if_pos (by omega), if_pos (by omega), plain_some, Option.bind_some, wrap_succ i (by omega), h2]
    have e : restB plB s i = (plB (bt s i) && restB plB s (i + 1)) := by
      unfold restB; rw [hd, show s.size - (i + 1) = d by omega]; rfl
    rw [e]
    cases plB (bt s i) <;> simp
theorem name_ev (s : ByteArray) : Ev (fun k => atom_Name.f k s) (nameB s) := by
  by_cases h0 : s.size = 0
  · refine ⟨1, fun k hk => ?_⟩
    obtain ⟨k, rfl⟩ : ∃ m, k = m + 1 := ⟨k - 1, by omega⟩
    simp only [atom_Name.f]
    rw [if_pos ((empty_iff s).2 h0)]
    simp [atom_Name.j0, nameB, h0]
  · by_cases h1 : s.size ≤ 30
    · obtain ⟨K, hK⟩ := name_loop s (by omega) s.size 0 (by omega) (by omega)
      refine ⟨K + 1, fun k hk => ?_⟩
      obtain ⟨k, rfl⟩ : ∃ m, k = m + 1 := ⟨k - 1, by omega⟩
      have h2 := hK k (by omega)
      simp only at h2
      simp only [atom_Name.f]
      rw [if_neg (fun h => h0 ((empty_iff s).1 h)), if_neg (by omega), if_pos (by omega), first_some, Option.bind_some]
      simp only [atom_Name.j0]
      have h3 : 1 ≤ s.size := by omega
      cases h4 : alB (bt s 0)
      · simp [nameB, h4]
      · simp only [Bool.not_true, Bool.false_eq_true, if_false]
        rw [show ((0 : Int)) = ((0 : Nat) : Int) from rfl, h2]
        have h4' : alB (bt s ((0 : Nat) : Int)) = true := h4
        simp [nameB, h3, h1, h4]
    · refine ⟨1, fun k hk => ?_⟩
      obtain ⟨k, rfl⟩ : ∃ m, k = m + 1 := ⟨k - 1, by omega⟩
      simp only [atom_Name.f]
      rw [if_neg (fun h => h0 ((empty_iff s).1 h)), if_pos (by omega)]
      simp [atom_Name.j0, nameB, h1]
theorem id_loop (s : ByteArray) (hs : s.size ≤ 9223372036854775807) : ∀ (d i : Nat), i ≤ s.size → s.size - i = d → Ev (fun k => atom_ID.l0 k s (s.size : Int) (i : Int)) (restB idcB s i && (decide (1 ≤ s.size) && decide (s.size ≤ 250))) := by
  intro d
  induction d with
  | zero =>
    intro i hi hd
    refine ⟨1, fun k hk => ?_⟩
    obtain ⟨k, rfl⟩ : ∃ m, k = m + 1 := ⟨k - 1, by omega⟩
    simp only [atom_ID.l0]
    rw [if_neg (by omega)]
    by_cases h0 : s.size = 0
    · rw [if_pos ((empty_iff s).2 h0)]; simp [h0]
    · rw [if_neg (fun h => h0 ((empty_iff s).1 h))]
      have : 1 ≤ s.size := by omega
      have e : decide ((s.size : Int) ≤ 250) = decide (s.size ≤ 250) := by
        rw [decide_eq_decide]; omega
      simp [restB, hd, allFrom, this, e]
  | succ d ih =>
    intro i hi hd
    obtain ⟨K, hK⟩ := ih (i + 1) (by omega) (by omega)
    refine ⟨K + 1, fun k hk => ?_⟩
    obtain ⟨k, rfl⟩ : ∃ m, k = m + 1 := ⟨k - 1, by omega⟩
    have h2 := hK k (by omega)
    simp only at h2
    simp only [atom_ID.l0]
    rw [if_pos (by omega), if_pos (by omega), if_pos (by omega), plain_some, Option.bind_some, wrap_succ i (by omega), h2]
    have e : restB idcB s i = (idcB (bt s i) && restB idcB s (i + 1)) := by
      unfold restB; rw [hd, show s.size - (i + 1) = d by omega]; rfl
    rw [e]
    unfold idcB
    cases plB (bt s i) <;> by_cases h3 : bt s i = 47 <;> by_cases h4 : bt s i = 124 <;> by_cases h5 : bt s i = 42 <;> simp [h3, h4, h5]
theorem id_ev (s : ByteArray) (hs : s.size ≤ 9223372036854775807) : Ev (fun k => atom_ID.f k s) (idB s) := id_loop s hs s.size 0 (by omega) (by omega)
theorem bind_ev {α β : Type} {g : Nat → Option α} {f : Nat → α → Option β} {a : α} {r : β} (h : Ev g a) (e : Ev (fun k => f k a) r) : Ev (fun k => (g k).bind (f k)) r := by
  obtain ⟨K, hK⟩ := h
  obtain ⟨L, hL⟩ := e
  refine ⟨max K L, fun k hk => ?_⟩
  simp only [hK k (by omega), Option.bind_some]
  exact hL k (by omega)
theorem and_ev {g : Nat → Option Bool} {f : Nat → Option Bool} {a r : Bool} (h : Ev g a) (e : Ev f r) : Ev (fun k => (g k).bind fun t => if t = true then f k else some false) (a && r) := by
  cases a
  · exact bind_ev h ⟨0, fun k _ => by simp⟩
  · refine bind_ev h ?_
    obtain ⟨L, hL⟩ := e
    exact ⟨L, fun k hk => by simpa using hL k hk⟩
def Small (t : S41) : Prop := t.f0.f1.size ≤ 9223372036854775807 ∧ t.f2.f1.size ≤ 9223372036854775807
theorem last_ev (s : ByteArray) {g : Nat → ByteArray → Option Bool} (h : ∀ s, Ev (fun k => g k s) (nameB s)) : Ev (fun k => if s.toList = ([] : List UInt8) then some true else (g k s).bind fun t => some t) (decide (s.size = 0) || nameB s) := by
  by_cases h0 : s.size = 0
  · exact ⟨0, fun k _ => by simp only; rw [if_pos ((empty_iff s).2 h0)]; simp [h0]⟩
  · obtain ⟨K, hK⟩ := h s
    refine ⟨K, fun k hk => ?_⟩
    have h2 := hK k hk
    simp only at h2
    simp only
    rw [if_neg (fun h => h0 ((empty_iff s).1 h)), h2]
    simp [h0]
theorem ok_ev (t : S41) (hs : Small t) : Ev (fun k => tupl_Ok.f k t.f0.f0 t.f0.f1 t.f1 t.f2.f0 t.f2.f1 t.f2.f2) (okT t) :=
  and_ev (name_ev _) (and_ev (id_ev _ hs.1) (and_ev (name_ev _) (and_ev (name_ev _) (and_ev (id_ev _ hs.2) (last_ev _ name_ev)))))
theorem rname_loop (s : ByteArray) (hs : s.size ≤ 9223372036854775807) : ∀ (d i : Nat), i ≤ s.size → s.size - i = d → Ev (fun k => entailref1_Name.l0 k s (i : Int)) (restB plB s i) := by
  intro d
  induction d with
  | zero =>
    intro i hi hd
    refine ⟨1, fun k hk => ?_⟩
    obtain ⟨k, rfl⟩ : ∃ m, k = m + 1 := ⟨k - 1, by omega⟩
    simp only [entailref1_Name.l0]
    rw [if_neg (by omega)]
    simp [restB, hd, allFrom]
  | succ d ih =>
    intro i hi hd
    obtain ⟨K, hK⟩ := ih (i + 1) (by omega) (by omega)
    refine ⟨K + 1, fun k hk => ?_⟩
    obtain ⟨k, rfl⟩ : ∃ m, k = m + 1 := ⟨k - 1, by omega⟩
    have h2 := hK k (by omega)
    simp only at h2
    simp only [entailref1_Name.l0]
    rw [if_pos (by omega), if_pos (by omega), alnum_some, Option.bind_some, wrap_succ i (by omega), h2]
    have e : restB plB s i = (plB (bt s i) && restB plB s (i + 1)) := by
      unfold restB; rw [hd, show s.size - (i + 1) = d by omega]; rfl
    rw [e]
    unfold plB
    cases alB (bt s i) <;> by_cases h3 : bt s i = 95 <;> by_cases h4 : bt s i = 45 <;> by_cases h5 : bt s i = 46 <;> simp [h3, h4, h5]
theorem rname_ev (s : ByteArray) : Ev (fun k => entailref1_Name.f k s) (nameB s) := by
  by_cases h0 : s.size = 0
  · refine ⟨1, fun k hk => ?_⟩
    obtain ⟨k, rfl⟩ : ∃ m, k = m + 1 := ⟨k - 1, by omega⟩
    simp only [entailref1_Name.f]
    rw [if_pos (by omega)]
    simp [entailref1_Name.j0, nameB, h0]
  · by_cases h1 : s.size ≤ 30
    · obtain ⟨K, hK⟩ := rname_loop s (by omega) s.size 0 (by omega) (by omega)
      refine ⟨K + 1, fun k hk => ?_⟩
      obtain ⟨k, rfl⟩ : ∃ m, k = m + 1 := ⟨k - 1, by omega⟩
      have h2 := hK k (by omega)
      simp only at h2
      simp only [entailref1_Name.f]
      rw [if_neg (by omega), if_neg (by omega), if_pos (by omega), alnum_some, Option.bind_some]
      simp only [entailref1_Name.j0]
      have h3 : 1 ≤ s.size := by omega
      cases h4 : alB (bt s 0)
      · simp [nameB, h4]
      · simp only [Bool.not_true, Bool.false_eq_true, if_false]
        rw [show ((0 : Int)) = ((0 : Nat) : Int) from rfl, h2]
        simp [nameB, h3, h1, h4]
    · refine ⟨1, fun k hk => ?_⟩
      obtain ⟨k, rfl⟩ : ∃ m, k = m + 1 := ⟨k - 1, by omega⟩
      simp only [entailref1_Name.f]
      rw [if_neg (by omega), if_pos (by omega)]
      simp [entailref1_Name.j0, nameB, h1]
theorem rid_loop (s : ByteArray) (hs : s.size ≤ 9223372036854775807) : ∀ (d i : Nat), i ≤ s.size → s.size - i = d → Ev (fun k => entailref1_ID.l0 k s (i : Int)) (restB idcB s i && (decide (1 ≤ s.size) && decide (s.size ≤ 250))) := by
  intro d
  induction d with
  | zero =>
    intro i hi hd
    refine ⟨1, fun k hk => ?_⟩
    obtain ⟨k, rfl⟩ : ∃ m, k = m + 1 := ⟨k - 1, by omega⟩
    simp only [entailref1_ID.l0]
    rw [if_neg (by omega)]
    by_cases h0 : s.size = 0
    · rw [if_neg (by omega)]; simp [h0]
    · rw [if_pos (by omega)]
      have : 1 ≤ s.size := by omega
      have e : decide ((s.size : Int) ≤ 250) = decide (s.size ≤ 250) := by
        rw [decide_eq_decide]; omega
      simp [restB, hd, allFrom, this, e]
  | succ d ih =>
    intro i hi hd
    obtain ⟨K, hK⟩ := ih (i + 1) (by omega) (by omega)
    refine ⟨K + 1, fun k hk => ?_⟩
    obtain ⟨k, rfl⟩ : ∃ m, k = m + 1 := ⟨k - 1, by omega⟩
    have h2 := hK k (by omega)
    simp only at h2
    simp only [entailref1_ID.l0]
    rw [if_pos (by omega), if_pos (by omega), alnum_some, Option.bind_some, wrap_succ i (by omega), h2]
    have e : restB idcB s i = (idcB (bt s i) && restB idcB s (i + 1)) := by
      unfold restB; rw [hd, show s.size - (i + 1) = d by omega]; rfl
    rw [e]
    unfold idcB plB
    cases alB (bt s i) <;> by_cases h3 : bt s i = 47 <;> by_cases h4 : bt s i = 124 <;> by_cases h5 : bt s i = 42 <;> by_cases h6 : bt s i = 95 <;> by_cases h7 : bt s i = 45 <;> by_cases h8 : bt s i = 46 <;> simp [h3, h4, h5, h6, h7, h8]
theorem rid_ev (s : ByteArray) (hs : s.size ≤ 9223372036854775807) : Ev (fun k => entailref1_ID.f k s) (idB s) := rid_loop s hs s.size 0 (by omega) (by omega)
theorem rok_ev (t : S41) (hs : Small t) : Ev (fun k => entailref1_Ok.f k t.f0.f0 t.f0.f1 t.f1 t.f2.f0 t.f2.f1 t.f2.f2) (okT t) :=
  and_ev (rname_ev _) (and_ev (rid_ev _ hs.1) (and_ev (rname_ev _) (and_ev (rname_ev _) (and_ev (rid_ev _ hs.2) (last_ev _ rname_ev)))))
end Go.Proofs.Ytpgmeaofmlipkaa.PT
