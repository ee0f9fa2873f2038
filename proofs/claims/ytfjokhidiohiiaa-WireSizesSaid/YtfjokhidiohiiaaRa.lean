/-
  The rows of the laws: each law answers true for every input that can be read.
-/
import Derived.Test.YtfjokhidiohiiaaRows
import Derived.Test.YtfjokhidiohiiaaWm
import Derived.Test.YtfjokhidiohiiaaWq
import Derived.JoinedOf
import Derived.ProofKit
namespace Go.Proofs.Ytfjokhidiohiiaa
open Go.Pa Go.RowKit
set_option linter.unusedVariables false

theorem own : ownKnob Try.prog.godebug = none := by kernel_rfl
theorem laidOut : laidOutB Try.prog = true := by kernel_rfl

theorem c_WireSizes : ∀ xs, saysAll [.int .u64, .int .i64, .int .i64] xs → ACalls Try.prog 3 xs [] fun r _ => r = .bool true := by
  intro xs0 z0
  obtain ⟨_, xs1, rfl, ⟨a0, rfl, h0⟩, z1⟩ := saysAll_cons z0
  obtain ⟨_, xs2, rfl, ⟨a1, rfl, h1⟩, z2⟩ := saysAll_cons z1
  obtain ⟨_, xs3, rfl, ⟨a2, rfl, h2⟩, z3⟩ := saysAll_cons z2
  obtain rfl := saysAll_nil z3
  exact law_WireSizes a0 h0 a1 h1 a2 h2

set_option maxRecDepth 100000 in
theorem liftedWireSizes (os : Os) (started : os.Started) (H : Type) (enc : TypeId × Value → H) :
    ReturnsInHanded {} Try.checked os 3 .any (Rows.wireSizesSpec.pre6 enc Try.prog Try.f3 Rows.wireSizesRow.domain false) (Rows.wireSizesSpec.post enc Try.prog Try.f3 false true false false) := by
  refine returnsInHanded_of_change (C := Try.checked) own started (by kernel_rfl) Try.func3
    (ChangeSpec.witness6 (enc := enc) (C := Try.checked) false ⟨#[], #[.int .u64 0, .int .i64 0, .int .i64 0], []⟩ 8 (by kernel_rfl) (by kernel_rfl) (by kernel_rfl) (by kernel_rfl)) ?_
  intro W base args ds gs before hval hW _ _
  have hp : Try.f3.params.toList = [22, 3, 3] := by kernel_rfl
  refine law_contract (fn := Try.f3) (ks := [.int .u64, .int .i64, .int .i64]) (tb := 4) laidOut (by rw [hp]; simp only [fitsAll, PK.fits]; exact ⟨by kernel_rfl, by kernel_rfl, by kernel_rfl, trivial⟩) ?_ (by kernel_rfl) (by kernel_rfl) rfl ?_ c_WireSizes (fun b o c h => by simp [GTab.gl] at h) hval hW
  · intro t ht
    rw [hp] at ht
    simp only [List.mem_cons, List.not_mem_nil, or_false] at ht
    rcases ht with rfl | rfl | rfl <;> exact ⟨by kernel_rfl, by decide +kernel⟩
  · intro ds hl
    rw [hp] at hl
    match ds, hl with
    | [d0, d1, d2], _ => rfl
/-- **WireSizes**: for every input the law answers true and leaves its arguments as they were. No condition. -/
theorem wireSizes_holds : Rows.WireSizesSaid :=
  OpenClaim.holds_of_wide 3 Try.f3 rfl rfl rfl rfl rfl rfl rfl ⟨rfl, rfl, rfl, rfl, rfl⟩ rfl rfl rfl rfl rfl (by kernel_rfl) Try.func3 (by kernel_rfl)
    (of_decide_eq_true (by kernel_rfl)) (by unfold Func.isWrapper; first | (rw [if_pos (by decide +kernel)]; kernel_rfl) | (rw [if_neg (by decide +kernel)]; exact ⟨rfl, rfl⟩))
    (fun os started H enc _ => liftedWireSizes os started H enc)

theorem c_WireWrites : ∀ xs, saysAll [.ints .i64, .int .u64, .int .i64, .ints .u8, .ints .i64] xs → ACalls Try.prog 6 xs [] fun r _ => r = .bool true := by
  intro xs0 z0
  obtain ⟨_, xs1, rfl, ⟨a0, rfl, h0, g0⟩, z1⟩ := saysAll_cons z0
  obtain ⟨_, xs2, rfl, ⟨a1, rfl, h1⟩, z2⟩ := saysAll_cons z1
  obtain ⟨_, xs3, rfl, ⟨a2, rfl, h2⟩, z3⟩ := saysAll_cons z2
  obtain ⟨_, xs4, rfl, ⟨a3, rfl, h3, g3⟩, z4⟩ := saysAll_cons z3
  obtain ⟨_, xs5, rfl, ⟨a4, rfl, h4, g4⟩, z5⟩ := saysAll_cons z4
  obtain rfl := saysAll_nil z5
  exact law_WireWrites a0 h0 g0 a1 h1 a2 h2 a3 h3 g3 a4 h4 g4

set_option maxRecDepth 100000 in
theorem liftedWireWrites (os : Os) (started : os.Started) (H : Type) (enc : TypeId × Value → H) :
    ReturnsInHanded {} Try.checked os 6 .any (Rows.wireWritesSpec.pre6 enc Try.prog Try.f6 Rows.wireWritesRow.domain false) (Rows.wireWritesSpec.post enc Try.prog Try.f6 false true false false) := by
  refine returnsInHanded_of_change (C := Try.checked) own started (by kernel_rfl) Try.func6
    (ChangeSpec.witness6 (enc := enc) (C := Try.checked) false ⟨#[], #[.slice none 0 0, .int .u64 0, .int .i64 0, .slice none 0 0, .slice none 0 0], []⟩ 8 (by kernel_rfl) (by kernel_rfl) (by kernel_rfl) (by kernel_rfl)) ?_
  intro W base args ds gs before hval hW _ _
  have hp : Try.f6.params.toList = [33, 22, 3, 24, 33] := by kernel_rfl
  refine law_contract (fn := Try.f6) (ks := [.ints .i64, .int .u64, .int .i64, .ints .u8, .ints .i64]) (tb := 4) laidOut (by rw [hp]; simp only [fitsAll, PK.fits]; exact ⟨⟨3, by kernel_rfl, by kernel_rfl, by kernel_rfl⟩, by kernel_rfl, by kernel_rfl, ⟨5, by kernel_rfl, by kernel_rfl, by kernel_rfl⟩, ⟨3, by kernel_rfl, by kernel_rfl, by kernel_rfl⟩, trivial⟩) ?_ (by kernel_rfl) (by kernel_rfl) rfl ?_ c_WireWrites (fun b o c h => by simp [GTab.gl] at h) hval hW
  · intro t ht
    rw [hp] at ht
    simp only [List.mem_cons, List.not_mem_nil, or_false] at ht
    rcases ht with rfl | rfl | rfl | rfl | rfl <;> exact ⟨by kernel_rfl, by decide +kernel⟩
  · intro ds hl
    rw [hp] at hl
    match ds, hl with
    | [d0, d1, d2, d3, d4], _ => rfl
/-- **WireWrites**: for every input the law answers true and leaves its arguments as they were. No condition. -/
theorem wireWrites_holds : Rows.WireWritesSaid :=
  OpenClaim.holds_of_wide 6 Try.f6 rfl rfl rfl rfl rfl rfl rfl ⟨rfl, rfl, rfl, rfl, rfl⟩ rfl rfl rfl rfl rfl (by kernel_rfl) Try.func6 (by kernel_rfl)
    (of_decide_eq_true (by kernel_rfl)) (by unfold Func.isWrapper; first | (rw [if_pos (by decide +kernel)]; kernel_rfl) | (rw [if_neg (by decide +kernel)]; exact ⟨rfl, rfl⟩))
    (fun os started H enc _ => liftedWireWrites os started H enc)

theorem c_WireRound : ∀ xs, saysAll [.ints .i64, .int .u64, .int .i64] xs → ACalls Try.prog 7 xs [] fun r _ => r = .bool true := by
  intro xs0 z0
  obtain ⟨_, xs1, rfl, ⟨a0, rfl, h0, g0⟩, z1⟩ := saysAll_cons z0
  obtain ⟨_, xs2, rfl, ⟨a1, rfl, h1⟩, z2⟩ := saysAll_cons z1
  obtain ⟨_, xs3, rfl, ⟨a2, rfl, h2⟩, z3⟩ := saysAll_cons z2
  obtain rfl := saysAll_nil z3
  exact law_WireRound a0 h0 g0 a1 h1 a2 h2

set_option maxRecDepth 100000 in
theorem liftedWireRound (os : Os) (started : os.Started) (H : Type) (enc : TypeId × Value → H) :
    ReturnsInHanded {} Try.checked os 7 .any (Rows.wireRoundSpec.pre6 enc Try.prog Try.f7 Rows.wireRoundRow.domain false) (Rows.wireRoundSpec.post enc Try.prog Try.f7 false true false false) := by
  refine returnsInHanded_of_change (C := Try.checked) own started (by kernel_rfl) Try.func7
    (ChangeSpec.witness6 (enc := enc) (C := Try.checked) false ⟨#[], #[.slice none 0 0, .int .u64 0, .int .i64 0], []⟩ 8 (by kernel_rfl) (by kernel_rfl) (by kernel_rfl) (by kernel_rfl)) ?_
  intro W base args ds gs before hval hW _ _
  have hp : Try.f7.params.toList = [33, 22, 3] := by kernel_rfl
  refine law_contract (fn := Try.f7) (ks := [.ints .i64, .int .u64, .int .i64]) (tb := 4) laidOut (by rw [hp]; simp only [fitsAll, PK.fits]; exact ⟨⟨3, by kernel_rfl, by kernel_rfl, by kernel_rfl⟩, by kernel_rfl, by kernel_rfl, trivial⟩) ?_ (by kernel_rfl) (by kernel_rfl) rfl ?_ c_WireRound (fun b o c h => by simp [GTab.gl] at h) hval hW
  · intro t ht
    rw [hp] at ht
    simp only [List.mem_cons, List.not_mem_nil, or_false] at ht
    rcases ht with rfl | rfl | rfl <;> exact ⟨by kernel_rfl, by decide +kernel⟩
  · intro ds hl
    rw [hp] at hl
    match ds, hl with
    | [d0, d1, d2], _ => rfl
/-- **WireRound**: for every input the law answers true and leaves its arguments as they were. No condition. -/
theorem wireRound_holds : Rows.WireRoundSaid :=
  OpenClaim.holds_of_wide 7 Try.f7 rfl rfl rfl rfl rfl rfl rfl ⟨rfl, rfl, rfl, rfl, rfl⟩ rfl rfl rfl rfl rfl (by kernel_rfl) Try.func7 (by kernel_rfl)
    (of_decide_eq_true (by kernel_rfl)) (by unfold Func.isWrapper; first | (rw [if_pos (by decide +kernel)]; kernel_rfl) | (rw [if_neg (by decide +kernel)]; exact ⟨rfl, rfl⟩))
    (fun os started H enc _ => liftedWireRound os started H enc)

end Go.Proofs.Ytfjokhidiohiiaa
