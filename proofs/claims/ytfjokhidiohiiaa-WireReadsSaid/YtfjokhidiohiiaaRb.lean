/-
  The rows of the laws: each law answers true for every input that can be read.
-/
import Derived.Test.YtfjokhidiohiiaaRows
import Derived.Test.YtfjokhidiohiiaaWr
import Derived.Test.YtfjokhidiohiiaaWs
import Derived.JoinedOf
import Derived.ProofKit
namespace Go.Proofs.Ytfjokhidiohiiaa
open Go.Pa Go.RowKit
set_option linter.unusedVariables false

theorem own : ownKnob Try.prog.godebug = none := by kernel_rfl
theorem laidOut : laidOutB Try.prog = true := by kernel_rfl

theorem c_WireHash : ∀ xs, saysAll [.int .u64, .int .u64, .int .i64, .str] xs → ACalls Try.prog 10 xs [] fun r _ => r = .bool true := by
  intro xs0 z0
  obtain ⟨_, xs1, rfl, ⟨a0, rfl, h0⟩, z1⟩ := saysAll_cons z0
  obtain ⟨_, xs2, rfl, ⟨a1, rfl, h1⟩, z2⟩ := saysAll_cons z1
  obtain ⟨_, xs3, rfl, ⟨a2, rfl, h2⟩, z3⟩ := saysAll_cons z2
  obtain ⟨_, xs4, rfl, ⟨a3, rfl, h3, g3⟩, z4⟩ := saysAll_cons z3
  obtain rfl := saysAll_nil z4
  exact law_WireHash a0 h0 a1 h1 a2 h2 a3 h3 g3

set_option maxRecDepth 100000 in
theorem liftedWireHash (os : Os) (started : os.Started) (H : Type) (enc : TypeId × Value → H) :
    ReturnsInHanded {} Try.checked os 10 .any (Rows.wireHashSpec.pre6 enc Try.prog Try.f10 Rows.wireHashRow.domain false) (Rows.wireHashSpec.post enc Try.prog Try.f10 false true false false) := by
  refine returnsInHanded_of_change (C := Try.checked) own started (by kernel_rfl) Try.func10
    (ChangeSpec.witness6 (enc := enc) (C := Try.checked) false ⟨#[], #[.int .u64 0, .int .u64 0, .int .i64 0, .string .empty], []⟩ 8 (by kernel_rfl) (by kernel_rfl) (by kernel_rfl) (by kernel_rfl)) ?_
  intro W base args ds gs before hval hW _ _
  have hp : Try.f10.params.toList = [22, 22, 3, 9] := by kernel_rfl
  refine law_contract (fn := Try.f10) (ks := [.int .u64, .int .u64, .int .i64, .str]) (tb := 4) laidOut (by rw [hp]; simp only [fitsAll, PK.fits]; exact ⟨by kernel_rfl, by kernel_rfl, by kernel_rfl, by kernel_rfl, trivial⟩) ?_ (by kernel_rfl) (by kernel_rfl) rfl ?_ c_WireHash (fun b o c h => by simp [GTab.gl] at h) hval hW
  · intro t ht
    rw [hp] at ht
    simp only [List.mem_cons, List.not_mem_nil, or_false] at ht
    rcases ht with rfl | rfl | rfl | rfl <;> exact ⟨by kernel_rfl, by decide +kernel⟩
  · intro ds hl
    rw [hp] at hl
    match ds, hl with
    | [d0, d1, d2, d3], _ => rfl
/-- **WireHash**: for every input the law answers true and leaves its arguments as they were. No condition. -/
theorem wireHash_holds : Rows.WireHashSaid :=
  OpenClaim.holds_of_wide 10 Try.f10 rfl rfl rfl rfl rfl rfl rfl ⟨rfl, rfl, rfl, rfl, rfl⟩ rfl rfl rfl rfl rfl (by kernel_rfl) Try.func10 (by kernel_rfl)
    (of_decide_eq_true (by kernel_rfl)) (by unfold Func.isWrapper; first | (rw [if_pos (by decide +kernel)]; kernel_rfl) | (rw [if_neg (by decide +kernel)]; exact ⟨rfl, rfl⟩))
    (fun os started H enc _ => liftedWireHash os started H enc)

theorem c_WireReads : ∀ xs, saysAll [.ints .u8, .ints .i64, .int .i64, .int .u8, .ints .i64] xs → ACalls Try.prog 4 xs [] fun r _ => r = .bool true := by
  intro xs0 z0
  obtain ⟨_, xs1, rfl, ⟨a0, rfl, h0, g0⟩, z1⟩ := saysAll_cons z0
  obtain ⟨_, xs2, rfl, ⟨a1, rfl, h1, g1⟩, z2⟩ := saysAll_cons z1
  obtain ⟨_, xs3, rfl, ⟨a2, rfl, h2⟩, z3⟩ := saysAll_cons z2
  obtain ⟨_, xs4, rfl, ⟨a3, rfl, h3⟩, z4⟩ := saysAll_cons z3
  obtain ⟨_, xs5, rfl, ⟨a4, rfl, h4, g4⟩, z5⟩ := saysAll_cons z4
  obtain rfl := saysAll_nil z5
  exact law_WireReads a0 h0 g0 a1 h1 g1 a2 h2 a3 h3 a4 h4 g4

set_option maxRecDepth 100000 in
theorem liftedWireReads (os : Os) (started : os.Started) (H : Type) (enc : TypeId × Value → H) :
    ReturnsInHanded {} Try.checked os 4 .any (Rows.wireReadsSpec.pre6 enc Try.prog Try.f4 Rows.wireReadsRow.domain false) (Rows.wireReadsSpec.post enc Try.prog Try.f4 false true false false) := by
  refine returnsInHanded_of_change (C := Try.checked) own started (by kernel_rfl) Try.func4
    (ChangeSpec.witness6 (enc := enc) (C := Try.checked) false ⟨#[], #[.slice none 0 0, .slice none 0 0, .int .i64 0, .int .u8 0, .slice none 0 0], []⟩ 8 (by kernel_rfl) (by kernel_rfl) (by kernel_rfl) (by kernel_rfl)) ?_
  intro W base args ds gs before hval hW _ _
  have hp : Try.f4.params.toList = [24, 33, 3, 5, 33] := by kernel_rfl
  refine law_contract (fn := Try.f4) (ks := [.ints .u8, .ints .i64, .int .i64, .int .u8, .ints .i64]) (tb := 4) laidOut (by rw [hp]; simp only [fitsAll, PK.fits]; exact ⟨⟨5, by kernel_rfl, by kernel_rfl, by kernel_rfl⟩, ⟨3, by kernel_rfl, by kernel_rfl, by kernel_rfl⟩, by kernel_rfl, by kernel_rfl, ⟨3, by kernel_rfl, by kernel_rfl, by kernel_rfl⟩, trivial⟩) ?_ (by kernel_rfl) (by kernel_rfl) rfl ?_ c_WireReads (fun b o c h => by simp [GTab.gl] at h) hval hW
  · intro t ht
    rw [hp] at ht
    simp only [List.mem_cons, List.not_mem_nil, or_false] at ht
    rcases ht with rfl | rfl | rfl | rfl | rfl <;> exact ⟨by kernel_rfl, by decide +kernel⟩
  · intro ds hl
    rw [hp] at hl
    match ds, hl with
    | [d0, d1, d2, d3, d4], _ => rfl
/-- **WireReads**: for every input the law answers true and leaves its arguments as they were. No condition. -/
theorem wireReads_holds : Rows.WireReadsSaid :=
  OpenClaim.holds_of_wide 4 Try.f4 rfl rfl rfl rfl rfl rfl rfl ⟨rfl, rfl, rfl, rfl, rfl⟩ rfl rfl rfl rfl rfl (by kernel_rfl) Try.func4 (by kernel_rfl)
    (of_decide_eq_true (by kernel_rfl)) (by unfold Func.isWrapper; first | (rw [if_pos (by decide +kernel)]; kernel_rfl) | (rw [if_neg (by decide +kernel)]; exact ⟨rfl, rfl⟩))
    (fun os started H enc _ => liftedWireReads os started H enc)

end Go.Proofs.Ytfjokhidiohiiaa
