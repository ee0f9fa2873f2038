/-
  Taxonomies: those that the generator makes. Plain laws.
-/
import Derived.Test.YteejpckkgepecaaTj
import Derived.Test.YteejpckkgepecaaPk
namespace Go.Proofs
open Go.Pa
set_option linter.unusedSimpArgs false
set_option linter.unusedVariables false

/-- Whether c is made a parent of i. -/
def takeG (back : Bool) (i : Nat) (k : Int) (c : Int) : Bool := (if back then decide ((i : Int) < c) else decide (c < (i : Int))) && decide ((k.tdiv (1 + 7 * c)).tmod 3 = 0)
def rowG (n : Nat) (back : Bool) (i : Nat) (k : Int) : List Int := filtI n (takeG back i k)
def backG (l : List Int) : Bool := decide (pickI l 1 2 = 1)
def genN (l : List Int) (most : Int) : Nat := (1 + pickI l 0 most).toNat
def genI (l : List Int) (most : Int) : List (List Int) := (List.range (genN l most)).map fun i => rowG (genN l most) (backG l) i (pickI l (2 + (i : Int)) 1048576)

theorem filtI_inc (n : Nat) (h : Int → Bool) : incB (filtI n h) = true := by
  have hp : (filtI n h).Pairwise (· < ·) := by
    unfold filtI
    refine List.Pairwise.filter _ ?_
    rw [List.pairwise_map]
    refine List.Pairwise.imp ?_ List.pairwise_lt_range
    intro a b hab
    omega
  refine (incB_iff _).2 fun i hi => ?_
  rw [getD_get hi, getD_get (by omega)]
  exact List.pairwise_iff_getElem.1 hp i (i + 1) (by omega) hi (by omega)

theorem filtI_in {n : Nat} {h : Int → Bool} {x : Int} (hx : x ∈ filtI n h) : (0 ≤ x ∧ x < n) ∧ h x = true := by
  unfold filtI at hx
  obtain ⟨h1, h2⟩ := List.mem_filter.1 hx
  obtain ⟨c, hc, rfl⟩ := List.mem_map.1 h1
  have := List.mem_range.1 hc
  exact ⟨by omega, h2⟩

theorem genI_len (l : List Int) (most : Int) : (genI l most).length = genN l most := by simp [genI]

theorem genI_par {l : List Int} {most : Int} {c d : Nat} (h : Par (genI l most) c d) : if backG l then c < d else d < c := by
  unfold Par at h
  rcases Nat.lt_or_ge c (genI l most).length with hc | hc
  · rw [getD_get hc] at h
    simp only [genI, List.getElem_map, List.getElem_range] at h
    have := (filtI_in h).2
    unfold takeG at this
    rw [Bool.and_eq_true] at this
    split
    · rename_i hb; rw [if_pos hb] at this; have := of_decide_eq_true this.1; omega
    · rename_i hb; rw [if_neg hb] at this; have := of_decide_eq_true this.1; omega
  · rw [List.getD_eq_getElem?_getD, List.getElem?_eq_none hc] at h
    simp at h

theorem genI_acy (l : List Int) (most : Int) : acyB (genI l most) = true := by
  refine (acyB_iff _).2 ?_
  cases hb : backG l with
  | true => exact acy_big fun c d h => by have := genI_par h; rw [hb] at this; simpa using this
  | false => exact acy_small fun c d h => by have := genI_par h; rw [hb] at this; simpa using this

theorem genI_good (l : List Int) (most : Int) : (genI l most).any (badL (genI l most).length) = false := by
  rw [List.any_eq_false]
  intro r hr
  rw [genI_len]
  obtain ⟨i, _, rfl⟩ := List.mem_map.1 hr
  unfold badL rowG
  rw [filtI_inc]
  have : (filtI (genN l most) (takeG (backG l) i (pickI l (2 + (i : Int)) 1048576))).any (badI (genN l most)) = false := by
    rw [List.any_eq_false]
    intro x hx
    have := (filtI_in hx).1
    unfold badI
    simp; omega
  rw [this]
  decide

theorem genI_small {l : List Int} (hl : ∀ x ∈ l, Okk .i64 x) {most : Int} (hm : 0 < most) (hm' : most ≤ 64) : 1 ≤ (genI l most).length ∧ (genI l most).length ≤ most.toNat := by
  rw [genI_len]
  have := pick_bound hl 0 hm
  unfold genN
  omega

/-- New makes the taxonomy of what the generator makes. -/
theorem genI_new {l : List Int} (hl : ∀ x ∈ l, Okk .i64 x) {most : Int} (hm : 0 < most) (hm' : most ≤ 64) : newV (genI l most) = .tup [taxA (genI l most), .int .i64 0] := by
  have := genI_small hl hm hm'
  unfold newV
  rw [if_neg (by omega), genI_good, if_neg (by decide), if_pos (genI_acy l most)]

end Go.Proofs
