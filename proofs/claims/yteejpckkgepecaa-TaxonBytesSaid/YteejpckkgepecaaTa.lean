/-
  Taxonomies: who inherits from whom; grids of truth values. Plain laws.
-/
import Derived.Test.YteejpckkgepecaaAbsN
namespace Go.Proofs
open Go.Pa
set_option linter.unusedSimpArgs false
set_option linter.unusedVariables false

/-- d is a parent of c. -/
def Par (p : List (List Int)) (c d : Nat) : Prop := (d : Int) ∈ p.getD c []

/-- c is d, or inherits from it. -/
inductive Rch (p : List (List Int)) : Nat → Nat → Prop
  | refl (c : Nat) : Rch p c c
  | step {c d e : Nat} (h : Par p c d) (k : Rch p d e) : Rch p c e

theorem Rch.one {p : List (List Int)} {c d : Nat} (h : Par p c d) : Rch p c d := .step h (.refl d)
theorem Rch.trans {p : List (List Int)} {c d e : Nat} (h : Rch p c d) (k : Rch p d e) : Rch p c e := by
  induction h with
  | refl => exact k
  | step h _ ih => exact .step h (ih k)

/-- c inherits from d. -/
def Inh (p : List (List Int)) (c d : Nat) : Prop := ∃ e, Par p c e ∧ Rch p e d

theorem Inh.rch {p : List (List Int)} {c d : Nat} (h : Inh p c d) : Rch p c d := let ⟨_, h1, h2⟩ := h; .step h1 h2
theorem rch_cases {p : List (List Int)} {c d : Nat} (h : Rch p c d) : c = d ∨ Inh p c d := by
  cases h with
  | refl => exact .inl rfl
  | step h k => exact .inr ⟨_, h, k⟩
theorem Inh.snoc {p : List (List Int)} {c d e : Nat} (h : Rch p c d) (k : Par p d e) : Inh p c e := by
  cases h with
  | refl => exact ⟨e, k, .refl e⟩
  | step h h' => exact ⟨_, h, h'.trans (.one k)⟩
theorem Inh.trans {p : List (List Int)} {c d e : Nat} (h : Inh p c d) (k : Rch p d e) : Inh p c e := let ⟨x, h1, h2⟩ := h; ⟨x, h1, h2.trans k⟩

/-- All parents are classes. -/
def InR (p : List (List Int)) : Prop := ∀ l ∈ p, ∀ x ∈ l, 0 ≤ x ∧ x < (p.length : Int)

theorem par_lt {p : List (List Int)} (h : InR p) {c d : Nat} (hp : Par p c d) : c < p.length ∧ d < p.length := by
  unfold Par at hp
  have hc : c < p.length := by
    rcases Nat.lt_or_ge c p.length with h1 | h1
    · exact h1
    · simp [List.getD, List.getElem?_eq_none h1] at hp
  refine ⟨hc, ?_⟩
  rw [getD_get hc] at hp
  have := (h _ (List.getElem_mem hc) _ hp).2
  omega

theorem rch_lt {p : List (List Int)} (h : InR p) {c d : Nat} (hp : Rch p c d) (hc : c < p.length) : d < p.length := by
  induction hp with
  | refl => exact hc
  | step h1 _ ih => exact ih (par_lt h h1).2

/-- No class inherits from itself. -/
def Acy (p : List (List Int)) : Prop := ∀ c, ¬ Inh p c c

/-! ### Grids -/

def gridL (f : Nat → Bool) : List AV := (List.range 4096).map fun k => .bool (f k)
theorem gridL_len (f : Nat → Bool) : (gridL f).length = 4096 := by simp [gridL]
theorem gridL_get (f : Nat → Bool) {k : Nat} (h : k < 4096) : (gridL f)[k]? = some (.bool (f k)) := by simp [gridL, h]
theorem gridL_drop (f : Nat → Bool) {k : Nat} (h : k < 4096) : (gridL f).drop k = .bool (f k) :: (gridL f).drop (k + 1) := by
  have h1 : k < (gridL f).length := by rw [gridL_len]; exact h
  have h2 : (gridL f)[k] = .bool (f k) := by
    have := gridL_get f h
    rw [List.getElem?_eq_getElem h1] at this
    exact Option.some.inj this
  rw [List.drop_eq_getElem_cons h1, h2]
theorem gridL_drop2 (f : Nat → Bool) {c d : Nat} (hc : c < 64) (hd : d < 64) : ((gridL f).drop (c * 64)).drop d = .bool (f (c * 64 + d)) :: (gridL f).drop (c * 64 + d + 1) := by
  rw [List.drop_drop]; exact gridL_drop f (by omega)
theorem gridL_all (f : Nat → Bool) : (gridL f).all AV.cell = true := by
  rw [List.all_eq_true]
  intro x hx
  obtain ⟨k, _, rfl⟩ := List.mem_map.1 hx
  rfl
theorem rep_map (n : Nat) (a : AV) : List.replicate n a = (List.range n).map fun _ => a := by
  rw [List.map_const', List.length_range]
theorem gridL_zero : List.replicate 4096 (AV.bool false) = gridL (fun _ => false) := rep_map 4096 _

def upd (f : Nat → Bool) (k : Nat) (b : Bool) : Nat → Bool := fun i => if i = k then b else f i

theorem gridL_set (f : Nat → Bool) {k : Nat} (h : k < 4096) (b : Bool) : (gridL f).take k ++ [AV.bool b] ++ (gridL f).drop (k + 1) = gridL (upd f k b) := by
  apply List.ext_getElem?
  intro i
  rcases Nat.lt_trichotomy i k with h1 | h1 | h1
  · rw [List.append_assoc, List.getElem?_append_left (by rw [List.length_take, gridL_len]; omega), List.getElem?_take, if_pos h1, gridL_get f (by omega), gridL_get _ (by omega)]
    simp only [upd]; rw [if_neg (by omega)]
  · subst h1
    rw [List.append_assoc, List.getElem?_append_right (by rw [List.length_take, gridL_len]; omega), List.length_take, gridL_len, Nat.min_eq_left (by omega), Nat.sub_self, gridL_get _ h]
    simp [upd]
  · rw [List.getElem?_append_right (by simp [gridL_len]; omega)]
    simp only [List.length_append, List.length_take, gridL_len, List.length_singleton, List.getElem?_drop]
    rw [Nat.min_eq_left (by omega), show k + 1 + (i - (k + 1)) = i by omega]
    rcases Nat.lt_or_ge i 4096 with h2 | h2
    · rw [gridL_get f h2, gridL_get _ h2]
      simp only [upd]; rw [if_neg (by omega)]
    · rw [List.getElem?_eq_none (by rw [gridL_len]; omega), List.getElem?_eq_none (by rw [gridL_len]; omega)]

/-- A whole row. -/
theorem gridL_row (f : Nat → Bool) {c : Nat} (hc : c < 64) : ((gridL f).drop (c * 64)).take 64 = (List.range 64).map fun d => AV.bool (f (c * 64 + d)) := by
  apply List.ext_getElem?
  intro i
  rw [List.getElem?_take]
  by_cases h : i < 64
  · rw [if_pos h, List.getElem?_drop, gridL_get f (by omega)]
    simp [h]
  · rw [if_neg h]
    simp [h]

open Classical in
/-- What the rows of a taxonomy hold. -/
noncomputable def relG (p : List (List Int)) (k : Nat) : Bool := decide (k / 64 < p.length ∧ Rch p (k / 64) (k % 64))

def rowI (l : List Int) : List AV := [.ints .i64 l]
theorem rowI_len (ps : List (List Int)) : ∀ r ∈ ps.map rowI, r.length = 1 := by
  intro r hr
  obtain ⟨p, _, rfl⟩ := List.mem_map.1 hr
  rfl
theorem rowI_get (ps : List (List Int)) {k : Nat} (h : k < ps.length) : (ps.map rowI).getD k [] = [.ints .i64 ps[k]] := by
  simp [List.getD, h, rowI]

/-- A taxonomy, ready. -/
noncomputable def taxA (p : List (List Int)) : AV := .iptr (.rows 1 (p.map rowI) :: gridL (relG p))

open Classical in
/-- c is d, or inherits from it; both are classes. -/
noncomputable def isI (p : List (List Int)) (c d : Int) : Bool := decide (0 ≤ c ∧ c < p.length ∧ 0 ≤ d ∧ d < p.length ∧ Rch p c.toNat d.toNat)

open Classical in
theorem relG_is (p : List (List Int)) {c d : Nat} (hd : d < 64) (hc : c < p.length) (hd' : d < p.length) : relG p (c * 64 + d) = isI p c d := by
  unfold relG isI
  have h1 : (c * 64 + d) / 64 = c := by omega
  have h2 : (c * 64 + d) % 64 = d := by omega
  rw [h1, h2, Int.toNat_natCast, Int.toNat_natCast]
  congr 1
  apply propext
  constructor
  · intro h; exact ⟨by omega, by omega, by omega, by omega, h.2⟩
  · intro h; exact ⟨hc, h.2.2.2.2⟩

open Classical in
theorem isI_out (p : List (List Int)) {c d : Int} (h : ¬ (0 ≤ c ∧ c < p.length ∧ 0 ≤ d ∧ d < p.length)) : isI p c d = false := by
  unfold isI
  exact decide_eq_false fun h' => h ⟨h'.1, h'.2.1, h'.2.2.1, h'.2.2.2.1⟩

open Classical in
theorem isI_in {p : List (List Int)} {c d : Nat} (hc : c < p.length) (hd : d < p.length) : isI p c d = true ↔ Rch p c d := by
  unfold isI
  rw [decide_eq_true_iff, Int.toNat_natCast, Int.toNat_natCast]
  constructor
  · exact fun h => h.2.2.2.2
  · exact fun h => ⟨by omega, by omega, by omega, by omega, h⟩

end Go.Proofs
