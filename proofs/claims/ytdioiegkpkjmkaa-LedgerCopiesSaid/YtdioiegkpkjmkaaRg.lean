/-
  The rows of the laws: each law answers true for every input that can be read.
-/
import Derived.Test.YtdioiegkpkjmkaaRows
import Derived.Test.YtdioiegkpkjmkaaMn
import Derived.JoinedOf
import Derived.ProofKit
namespace Go.Proofs.Ytdioiegkpkjmkaa
open Go.Pa Go.RowKit
set_option linter.unusedVariables false

theorem own : ownKnob Try.prog.godebug = none := by kernel_rfl
theorem laidOut : laidOutB Try.prog = true := by kernel_rfl

theorem c_LedgerCopies : ∀ xs, saysAll [.ints .i64, .ints .i64, .ints .i64] xs → ACalls Try.prog 9 xs [] fun r _ => r = .bool true := by
  intro xs0 z0
  obtain ⟨_, xs1, rfl, ⟨a0, rfl, h0, g0⟩, z1⟩ := saysAll_cons z0
  obtain ⟨_, xs2, rfl, ⟨a1, rfl, h1, g1⟩, z2⟩ := saysAll_cons z1
  obtain ⟨_, xs3, rfl, ⟨a2, rfl, h2, g2⟩, z3⟩ := saysAll_cons z2
  obtain rfl := saysAll_nil z3
  exact law_LedgerCopies a0 h0 g0 a1 h1 g1 a2 h2 g2

set_option maxRecDepth 100000 in
theorem liftedLedgerCopies (os : Os) (started : os.Started) (H : Type) (enc : TypeId × Value → H) :
    ReturnsInHanded {} Try.checked os 9 .any (Rows.ledgerCopiesSpec.pre6 enc Try.prog Try.f9 Rows.ledgerCopiesRow.domain false) (Rows.ledgerCopiesSpec.post enc Try.prog Try.f9 false true false false) := by
  refine returnsInHanded_of_change (C := Try.checked) own started (by kernel_rfl) Try.func9
    (ChangeSpec.witness6 (enc := enc) (C := Try.checked) false ⟨#[], #[.slice none 0 0, .slice none 0 0, .slice none 0 0], []⟩ 8 (by kernel_rfl) (by kernel_rfl) (by kernel_rfl) (by kernel_rfl)) ?_
  intro W base args ds gs before hval hW _ _
  have hp : Try.f9.params.toList = [22, 22, 22] := by kernel_rfl
  refine law_contract (fn := Try.f9) (ks := [.ints .i64, .ints .i64, .ints .i64]) (tb := 4) laidOut (by rw [hp]; simp only [fitsAll, PK.fits]; exact ⟨⟨3, by kernel_rfl, by kernel_rfl, by kernel_rfl⟩, ⟨3, by kernel_rfl, by kernel_rfl, by kernel_rfl⟩, ⟨3, by kernel_rfl, by kernel_rfl, by kernel_rfl⟩, trivial⟩) ?_ (by kernel_rfl) (by kernel_rfl) rfl ?_ c_LedgerCopies (fun b o c h => by simp [GTab.gl] at h) hval hW
  · intro t ht
    rw [hp] at ht
    simp only [List.mem_cons, List.not_mem_nil, or_false] at ht
    rcases ht with rfl | rfl | rfl <;> exact ⟨by kernel_rfl, by decide +kernel⟩
  · intro ds hl
    rw [hp] at hl
    match ds, hl with
    | [d0, d1, d2], _ => rfl
/-- **LedgerCopies**: for every input the law answers true and leaves its arguments as they were. No condition. -/
theorem ledgerCopies_holds : Rows.LedgerCopiesSaid :=
  OpenClaim.holds_of_wide 9 Try.f9 rfl rfl rfl rfl rfl rfl rfl ⟨rfl, rfl, rfl, rfl, rfl⟩ rfl rfl rfl rfl rfl (by kernel_rfl) Try.func9 (by kernel_rfl)
    (of_decide_eq_true (by kernel_rfl)) (by unfold Func.isWrapper; first | (rw [if_pos (by decide +kernel)]; kernel_rfl) | (rw [if_neg (by decide +kernel)]; exact ⟨rfl, rfl⟩))
    (fun os started H enc _ => liftedLedgerCopies os started H enc)

end Go.Proofs.Ytdioiegkpkjmkaa
