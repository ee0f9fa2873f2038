/-
  The rows of the laws: each law answers true for every input that can be read.
-/
import Derived.Test.YtdioiegkpkjmkaaRows
import Derived.Test.YtdioiegkpkjmkaaMk
import Derived.JoinedOf
import Derived.ProofKit
namespace Go.Proofs.Ytdioiegkpkjmkaa
open Go.Pa Go.RowKit
set_option linter.unusedVariables false

theorem own : ownKnob Try.prog.godebug = none := by kernel_rfl
theorem laidOut : laidOutB Try.prog = true := by kernel_rfl

theorem c_LedgerArguments : ∀ xs, saysAll [.ints .i64, .int .i64, .int .i64, .int .i64, .int .i64, .int .i64, .int .i64] xs → ACalls Try.prog 6 xs [] fun r _ => r = .bool true := by
  intro xs0 z0
  obtain ⟨_, xs1, rfl, ⟨a0, rfl, h0, g0⟩, z1⟩ := saysAll_cons z0
  obtain ⟨_, xs2, rfl, ⟨a1, rfl, h1⟩, z2⟩ := saysAll_cons z1
  obtain ⟨_, xs3, rfl, ⟨a2, rfl, h2⟩, z3⟩ := saysAll_cons z2
  obtain ⟨_, xs4, rfl, ⟨a3, rfl, h3⟩, z4⟩ := saysAll_cons z3
  obtain ⟨_, xs5, rfl, ⟨a4, rfl, h4⟩, z5⟩ := saysAll_cons z4
  obtain ⟨_, xs6, rfl, ⟨a5, rfl, h5⟩, z6⟩ := saysAll_cons z5
  obtain ⟨_, xs7, rfl, ⟨a6, rfl, h6⟩, z7⟩ := saysAll_cons z6
  obtain rfl := saysAll_nil z7
  exact law_LedgerArguments a0 h0 g0 a1 h1 a2 h2 a3 h3 a4 h4 a5 h5 a6 h6

set_option maxRecDepth 100000 in
theorem liftedLedgerArguments (os : Os) (started : os.Started) (H : Type) (enc : TypeId × Value → H) :
    ReturnsInHanded {} Try.checked os 6 .any (Rows.ledgerArgumentsSpec.pre6 enc Try.prog Try.f6 Rows.ledgerArgumentsRow.domain false) (Rows.ledgerArgumentsSpec.post enc Try.prog Try.f6 false true false false) := by
  refine returnsInHanded_of_change (C := Try.checked) own started (by kernel_rfl) Try.func6
    (ChangeSpec.witness6 (enc := enc) (C := Try.checked) false ⟨#[], #[.slice none 0 0, .int .i64 0, .int .i64 0, .int .i64 0, .int .i64 0, .int .i64 0, .int .i64 0], []⟩ 8 (by kernel_rfl) (by kernel_rfl) (by kernel_rfl) (by kernel_rfl)) ?_
  intro W base args ds gs before hval hW _ _
  have hp : Try.f6.params.toList = [22, 3, 3, 3, 3, 3, 3] := by kernel_rfl
  refine law_contract (fn := Try.f6) (ks := [.ints .i64, .int .i64, .int .i64, .int .i64, .int .i64, .int .i64, .int .i64]) (tb := 4) laidOut (by rw [hp]; simp only [fitsAll, PK.fits]; exact ⟨⟨3, by kernel_rfl, by kernel_rfl, by kernel_rfl⟩, by kernel_rfl, by kernel_rfl, by kernel_rfl, by kernel_rfl, by kernel_rfl, by kernel_rfl, trivial⟩) ?_ (by kernel_rfl) (by kernel_rfl) rfl ?_ c_LedgerArguments (fun b o c h => by simp [GTab.gl] at h) hval hW
  · intro t ht
    rw [hp] at ht
    simp only [List.mem_cons, List.not_mem_nil, or_false] at ht
    rcases ht with rfl | rfl | rfl | rfl | rfl | rfl | rfl <;> exact ⟨by kernel_rfl, by decide +kernel⟩
  · intro ds hl
    rw [hp] at hl
    match ds, hl with
    | [d0, d1, d2, d3, d4, d5, d6], _ => rfl
/-- **LedgerArguments**: for every input the law answers true and leaves its arguments as they were. No condition. -/
theorem ledgerArguments_holds : Rows.LedgerArgumentsSaid :=
  OpenClaim.holds_of_wide 6 Try.f6 rfl rfl rfl rfl rfl rfl rfl ⟨rfl, rfl, rfl, rfl, rfl⟩ rfl rfl rfl rfl rfl (by kernel_rfl) Try.func6 (by kernel_rfl)
    (of_decide_eq_true (by kernel_rfl)) (by unfold Func.isWrapper; first | (rw [if_pos (by decide +kernel)]; kernel_rfl) | (rw [if_neg (by decide +kernel)]; exact ⟨rfl, rfl⟩))
    (fun os started H enc _ => liftedLedgerArguments os started H enc)

end Go.Proofs.Ytdioiegkpkjmkaa
