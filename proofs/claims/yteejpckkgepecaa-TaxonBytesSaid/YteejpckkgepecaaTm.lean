/-
  Taxonomies: the order of inheritance; the law.
-/
import Derived.Test.YteejpckkgepecaaTl
namespace Go.Proofs
open Go.Pa
set_option linter.unusedSimpArgs false
set_option linter.unusedVariables false
set_option maxRecDepth 20000
set_option maxHeartbeats 2000000

theorem awp_sub {P : Program} {N : Nat} {c : Code} {K : Exit → Env → Store → Prop} {e : Env} {s : Store} (e' : Env) (he : e'.sub e) (h : AWp P N c K e' s) : AWp P N c K e s :=
  fun G0 G a w hg hr hw => h G0 G a w hg (hr.sub he) hw

theorem isI_some {p : List (List Int)} (hI : InR p) {c d : Nat} (hc : c < p.length) (hd : d < p.length) : (decide ((c : Int) = (d : Int)) || p[c].any fun x => isI p x d) = isI p c d := by
  have hg : p[c] = p.getD c [] := (getD_get hc).symm
  rw [Bool.eq_iff_iff, isI_in hc hd]
  simp only [Bool.or_eq_true, decide_eq_true_iff, List.any_eq_true]
  constructor
  · rintro (h | ⟨x, hx, h⟩)
    · have : c = d := by omega
      subst this; exact .refl _
    · have hb := hI _ (List.getElem_mem hc) x hx
      obtain ⟨X, rfl⟩ : ∃ X : Nat, x = (X : Int) := ⟨x.toNat, by omega⟩
      have hP : Par p c X := by unfold Par; rw [← hg]; exact hx
      exact .step hP ((isI_in (par_lt hI hP).2 hd).1 h)
  · intro h
    rcases rch_cases h with h | ⟨e, h1, h2⟩
    · left; omega
    · exact .inr ⟨e, by have h3 := h1; unfold Par at h3; rw [← hg] at h3; exact h3, (isI_in (par_lt hI h1).2 hd).2 h2⟩

theorem isI_anti {p : List (List Int)} (ha : Acy p) {c d : Nat} (hc : c < p.length) (hd : d < p.length) (hne : ¬ (c : Int) = d) (h : isI p c d = true) : isI p d c = false := by
  cases hk : isI p d c with
  | false => rfl
  | true =>
    have h1 := (isI_in hc hd).1 h
    have h2 := (isI_in hd hc).1 hk
    rcases rch_cases h1 with h3 | h3
    · exact absurd (by omega) hne
    · exact absurd (h3.trans h2) (ha c)

theorem isI_trans {p : List (List Int)} {c d b : Nat} (hc : c < p.length) (hd : d < p.length) (hb : b < p.length) (h : isI p c d = true) (k : isI p d b = true) : isI p c b = true :=
  (isI_in hc hb).2 (((isI_in hc hd).1 h).trans ((isI_in hd hb).1 k))

/-- What the laws know of the taxonomy that the generator makes. -/
theorem gen_tax {l : List Int} (hl : ∀ x ∈ l, Okk .i64 x) {most : Int} (hm : 0 < most) (hm' : most ≤ 64) : ∃ p, p = genI l most ∧ 1 ≤ p.length ∧ (p.length : Int) ≤ most ∧ InR p ∧ (∀ r ∈ p, r.length ≤ p.length) ∧ Acy p ∧
    (∀ σ, ACalls Try.prog 10 [.ints .i64 l, .int .i64 most] σ (fun r s => r = .rows 1 (p.map rowI) ∧ s = σ)) ∧
    (∀ σ, ACalls Try.prog 11 [.rows 1 (p.map rowI)] σ (fun r s => r = .tup [taxA p, .int .i64 0] ∧ s = σ)) := by
  have hs := genI_small hl hm hm'
  have hinr := inr_of (genI_good l most)
  refine ⟨_, rfl, hs.1, by omega, hinr.1, hinr.2, (acyB_iff _).1 (genI_acy l most), fun σ => r_gen l hl most hm hm' σ, fun σ => ?_⟩
  have k := c_New (genI l most) (by omega) (fun r hr => by have := hinr.2 r hr; omega) σ
  rw [genI_new hl hm hm'] at k
  exact k

end Go.Proofs
