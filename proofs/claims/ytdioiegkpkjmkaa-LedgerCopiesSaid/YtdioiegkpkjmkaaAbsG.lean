/-
  A statement by what it leaves.
-/
import Derived.Test.YtdioiegkpkjmkaaAbsE
namespace Go.Pa
set_option linter.unusedSectionVars false
variable [GTab]
variable {P : Program}

theorem AWp.mono {N : Nat} {c : Code} {K K' : Exit → Env → Store → Prop} {e : Env} {s : Store} (h : AWp P N c K e s) (hk : ∀ x e s, K x e s → K' x e s) : AWp P N c K' e s := by
  intro G0 G a w hg he hw
  refine Code.wp_mono ?_ (h G0 G a w hg he hw)
  rintro ex a' w' ⟨G', e', s', h1, h2, h3, h4⟩
  exact ⟨G', e', s', h1, h2, h3, hk _ _ _ h4⟩

def onlyQ (Q : Env → Store → Prop) : Exit → Env → Store → Prop := fun x e s => x = .normal ∧ Q e s

/-- A statement by what it leaves. -/
theorem awp_cut {N : Nat} {a b : Code} {K : Exit → Env → Store → Prop} {e : Env} {s : Store} (Q : Env → Store → Prop) (h : AWp P N a (onlyQ Q) e s) (k : ∀ e' s', Q e' s' → AWp P N b K e' s') : AWp P N (.seq a b) K e s :=
  awp_seq (h.mono fun x e s ⟨hx, hq⟩ => by subst hx; exact k e s hq)
end Go.Pa
