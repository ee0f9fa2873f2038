/-
  The rows of the laws: each law answers true for every input that can be read.
-/
import Derived.Test.YthodfbkngdnihaaRows
import Derived.Test.YthodfbkngdnihaaHo
import Derived.JoinedOf
import Derived.ProofKit
namespace Go.Proofs.Ythodfbkngdnihaa
open Go.Pa Go.RowKit
set_option linter.unusedVariables false

theorem own : ownKnob Try.prog.godebug = none := by kernel_rfl
theorem laidOut : laidOutB Try.prog = true := by kernel_rfl

theorem c_HashSum : ∀ xs, saysAll [.str, .ints .i64] xs → ACalls Try.prog 3 xs [] fun r _ => r = .bool true := by
  intro xs0 z0
  obtain ⟨_, xs1, rfl, ⟨a0, rfl, h0, g0⟩, z1⟩ := saysAll_cons z0
  obtain ⟨_, xs2, rfl, ⟨a1, rfl, h1, g1⟩, z2⟩ := saysAll_cons z1
  obtain rfl := saysAll_nil z2
  exact law_HashSum a0 h0 g0 a1 h1 g1

set_option maxRecDepth 100000 in
theorem liftedHashSum (os : Os) (started : os.Started) (H : Type) (enc : TypeId × Value → H) :
    ReturnsInHanded {} Try.checked os 3 .any (Rows.hashSumSpec.pre6 enc Try.prog Try.f3 Rows.hashSumRow.domain false) (Rows.hashSumSpec.post enc Try.prog Try.f3 false true false false) := by
  refine returnsInHanded_of_change (C := Try.checked) own started (by kernel_rfl) Try.func3
    (ChangeSpec.witness6 (enc := enc) (C := Try.checked) false ⟨#[], #[.string .empty, .slice none 0 0], []⟩ 8 (by kernel_rfl) (by kernel_rfl) (by kernel_rfl) (by kernel_rfl)) ?_
  intro W base args ds gs before hval hW _ _
  have hp : Try.f3.params.toList = [9, 22] := by kernel_rfl
  refine law_contract (fn := Try.f3) (ks := [.str, .ints .i64]) (tb := 4) laidOut (by rw [hp]; simp only [fitsAll, PK.fits]; exact ⟨by kernel_rfl, ⟨3, by kernel_rfl, by kernel_rfl, by kernel_rfl⟩, trivial⟩) ?_ (by kernel_rfl) (by kernel_rfl) rfl ?_ c_HashSum (fun b o c h => by simp [GTab.gl] at h) hval hW
  · intro t ht
    rw [hp] at ht
    simp only [List.mem_cons, List.not_mem_nil, or_false] at ht
    rcases ht with rfl | rfl <;> exact ⟨by kernel_rfl, by decide +kernel⟩
  · intro ds hl
    rw [hp] at hl
    match ds, hl with
    | [d0, d1], _ => rfl
/-- **HashSum**: for every input the law answers true and leaves its arguments as they were. No condition. -/
theorem hashSum_holds : Rows.HashSumSaid :=
  OpenClaim.holds_of_wide 3 Try.f3 rfl rfl rfl rfl rfl rfl rfl ⟨rfl, rfl, rfl, rfl, rfl⟩ rfl rfl rfl rfl rfl (by kernel_rfl) Try.func3 (by kernel_rfl)
    (of_decide_eq_true (by kernel_rfl)) (by unfold Func.isWrapper; first | (rw [if_pos (by decide +kernel)]; kernel_rfl) | (rw [if_neg (by decide +kernel)]; exact ⟨rfl, rfl⟩))
    (fun os started H enc _ => liftedHashSum os started H enc)

theorem c_HashBytes : ∀ xs, saysAll [.str, .ints .u8, .int .u64, .int .u64] xs → ACalls Try.prog 4 xs [] fun r _ => r = .bool true := by
  intro xs0 z0
  obtain ⟨_, xs1, rfl, ⟨a0, rfl, h0, g0⟩, z1⟩ := saysAll_cons z0
  obtain ⟨_, xs2, rfl, ⟨a1, rfl, h1, g1⟩, z2⟩ := saysAll_cons z1
  obtain ⟨_, xs3, rfl, ⟨a2, rfl, h2⟩, z3⟩ := saysAll_cons z2
  obtain ⟨_, xs4, rfl, ⟨a3, rfl, h3⟩, z4⟩ := saysAll_cons z3
  obtain rfl := saysAll_nil z4
  exact law_HashBytes a0 h0 g0 a1 h1 g1 a2 h2 a3 h3

set_option maxRecDepth 100000 in
theorem liftedHashBytes (os : Os) (started : os.Started) (H : Type) (enc : TypeId × Value → H) :
    ReturnsInHanded {} Try.checked os 4 .any (Rows.hashBytesSpec.pre6 enc Try.prog Try.f4 Rows.hashBytesRow.domain false) (Rows.hashBytesSpec.post enc Try.prog Try.f4 false true false false) := by
  refine returnsInHanded_of_change (C := Try.checked) own started (by kernel_rfl) Try.func4
    (ChangeSpec.witness6 (enc := enc) (C := Try.checked) false ⟨#[], #[.string .empty, .slice none 0 0, .int .u64 0, .int .u64 0], []⟩ 8 (by kernel_rfl) (by kernel_rfl) (by kernel_rfl) (by kernel_rfl)) ?_
  intro W base args ds gs before hval hW _ _
  have hp : Try.f4.params.toList = [9, 30, 25, 25] := by kernel_rfl
  refine law_contract (fn := Try.f4) (ks := [.str, .ints .u8, .int .u64, .int .u64]) (tb := 4) laidOut (by rw [hp]; simp only [fitsAll, PK.fits]; exact ⟨by kernel_rfl, ⟨5, by kernel_rfl, by kernel_rfl, by kernel_rfl⟩, by kernel_rfl, by kernel_rfl, trivial⟩) ?_ (by kernel_rfl) (by kernel_rfl) rfl ?_ c_HashBytes (fun b o c h => by simp [GTab.gl] at h) hval hW
  · intro t ht
    rw [hp] at ht
    simp only [List.mem_cons, List.not_mem_nil, or_false] at ht
    rcases ht with rfl | rfl | rfl | rfl <;> exact ⟨by kernel_rfl, by decide +kernel⟩
  · intro ds hl
    rw [hp] at hl
    match ds, hl with
    | [d0, d1, d2, d3], _ => rfl
/-- **HashBytes**: for every input the law answers true and leaves its arguments as they were. No condition. -/
theorem hashBytes_holds : Rows.HashBytesSaid :=
  OpenClaim.holds_of_wide 4 Try.f4 rfl rfl rfl rfl rfl rfl rfl ⟨rfl, rfl, rfl, rfl, rfl⟩ rfl rfl rfl rfl rfl (by kernel_rfl) Try.func4 (by kernel_rfl)
    (of_decide_eq_true (by kernel_rfl)) (by unfold Func.isWrapper; first | (rw [if_pos (by decide +kernel)]; kernel_rfl) | (rw [if_neg (by decide +kernel)]; exact ⟨rfl, rfl⟩))
    (fun os started H enc _ => liftedHashBytes os started H enc)

theorem c_HashOneWord : ∀ xs, saysAll [.str, .ints .i64, .int .i64, .int .i64] xs → ACalls Try.prog 5 xs [] fun r _ => r = .bool true := by
  intro xs0 z0
  obtain ⟨_, xs1, rfl, ⟨a0, rfl, h0, g0⟩, z1⟩ := saysAll_cons z0
  obtain ⟨_, xs2, rfl, ⟨a1, rfl, h1, g1⟩, z2⟩ := saysAll_cons z1
  obtain ⟨_, xs3, rfl, ⟨a2, rfl, h2⟩, z3⟩ := saysAll_cons z2
  obtain ⟨_, xs4, rfl, ⟨a3, rfl, h3⟩, z4⟩ := saysAll_cons z3
  obtain rfl := saysAll_nil z4
  exact law_HashOneWord a0 h0 g0 a1 h1 g1 a2 h2 a3 h3

set_option maxRecDepth 100000 in
theorem liftedHashOneWord (os : Os) (started : os.Started) (H : Type) (enc : TypeId × Value → H) :
    ReturnsInHanded {} Try.checked os 5 .any (Rows.hashOneWordSpec.pre6 enc Try.prog Try.f5 Rows.hashOneWordRow.domain false) (Rows.hashOneWordSpec.post enc Try.prog Try.f5 false true false false) := by
  refine returnsInHanded_of_change (C := Try.checked) own started (by kernel_rfl) Try.func5
    (ChangeSpec.witness6 (enc := enc) (C := Try.checked) false ⟨#[], #[.string .empty, .slice none 0 0, .int .i64 0, .int .i64 0], []⟩ 8 (by kernel_rfl) (by kernel_rfl) (by kernel_rfl) (by kernel_rfl)) ?_
  intro W base args ds gs before hval hW _ _
  have hp : Try.f5.params.toList = [9, 22, 3, 3] := by kernel_rfl
  refine law_contract (fn := Try.f5) (ks := [.str, .ints .i64, .int .i64, .int .i64]) (tb := 4) laidOut (by rw [hp]; simp only [fitsAll, PK.fits]; exact ⟨by kernel_rfl, ⟨3, by kernel_rfl, by kernel_rfl, by kernel_rfl⟩, by kernel_rfl, by kernel_rfl, trivial⟩) ?_ (by kernel_rfl) (by kernel_rfl) rfl ?_ c_HashOneWord (fun b o c h => by simp [GTab.gl] at h) hval hW
  · intro t ht
    rw [hp] at ht
    simp only [List.mem_cons, List.not_mem_nil, or_false] at ht
    rcases ht with rfl | rfl | rfl | rfl <;> exact ⟨by kernel_rfl, by decide +kernel⟩
  · intro ds hl
    rw [hp] at hl
    match ds, hl with
    | [d0, d1, d2, d3], _ => rfl
/-- **HashOneWord**: for every input the law answers true and leaves its arguments as they were. No condition. -/
theorem hashOneWord_holds : Rows.HashOneWordSaid :=
  OpenClaim.holds_of_wide 5 Try.f5 rfl rfl rfl rfl rfl rfl rfl ⟨rfl, rfl, rfl, rfl, rfl⟩ rfl rfl rfl rfl rfl (by kernel_rfl) Try.func5 (by kernel_rfl)
    (of_decide_eq_true (by kernel_rfl)) (by unfold Func.isWrapper; first | (rw [if_pos (by decide +kernel)]; kernel_rfl) | (rw [if_neg (by decide +kernel)]; exact ⟨rfl, rfl⟩))
    (fun os started H enc _ => liftedHashOneWord os started H enc)

theorem c_HashOneGroup : ∀ xs, saysAll [.str, .ints .u8, .int .i64, .int .u8, .int .u8] xs → ACalls Try.prog 6 xs [] fun r _ => r = .bool true := by
  intro xs0 z0
  obtain ⟨_, xs1, rfl, ⟨a0, rfl, h0, g0⟩, z1⟩ := saysAll_cons z0
  obtain ⟨_, xs2, rfl, ⟨a1, rfl, h1, g1⟩, z2⟩ := saysAll_cons z1
  obtain ⟨_, xs3, rfl, ⟨a2, rfl, h2⟩, z3⟩ := saysAll_cons z2
  obtain ⟨_, xs4, rfl, ⟨a3, rfl, h3⟩, z4⟩ := saysAll_cons z3
  obtain ⟨_, xs5, rfl, ⟨a4, rfl, h4⟩, z5⟩ := saysAll_cons z4
  obtain rfl := saysAll_nil z5
  exact law_HashOneGroup a0 h0 g0 a1 h1 g1 a2 h2 a3 h3 a4 h4

set_option maxRecDepth 100000 in
theorem liftedHashOneGroup (os : Os) (started : os.Started) (H : Type) (enc : TypeId × Value → H) :
    ReturnsInHanded {} Try.checked os 6 .any (Rows.hashOneGroupSpec.pre6 enc Try.prog Try.f6 Rows.hashOneGroupRow.domain false) (Rows.hashOneGroupSpec.post enc Try.prog Try.f6 false true false false) := by
  refine returnsInHanded_of_change (C := Try.checked) own started (by kernel_rfl) Try.func6
    (ChangeSpec.witness6 (enc := enc) (C := Try.checked) false ⟨#[], #[.string .empty, .slice none 0 0, .int .i64 0, .int .u8 0, .int .u8 0], []⟩ 8 (by kernel_rfl) (by kernel_rfl) (by kernel_rfl) (by kernel_rfl)) ?_
  intro W base args ds gs before hval hW _ _
  have hp : Try.f6.params.toList = [9, 30, 3, 5, 5] := by kernel_rfl
  refine law_contract (fn := Try.f6) (ks := [.str, .ints .u8, .int .i64, .int .u8, .int .u8]) (tb := 4) laidOut (by rw [hp]; simp only [fitsAll, PK.fits]; exact ⟨by kernel_rfl, ⟨5, by kernel_rfl, by kernel_rfl, by kernel_rfl⟩, by kernel_rfl, by kernel_rfl, by kernel_rfl, trivial⟩) ?_ (by kernel_rfl) (by kernel_rfl) rfl ?_ c_HashOneGroup (fun b o c h => by simp [GTab.gl] at h) hval hW
  · intro t ht
    rw [hp] at ht
    simp only [List.mem_cons, List.not_mem_nil, or_false] at ht
    rcases ht with rfl | rfl | rfl | rfl | rfl <;> exact ⟨by kernel_rfl, by decide +kernel⟩
  · intro ds hl
    rw [hp] at hl
    match ds, hl with
    | [d0, d1, d2, d3, d4], _ => rfl
/-- **HashOneGroup**: for every input the law answers true and leaves its arguments as they were. No condition. -/
theorem hashOneGroup_holds : Rows.HashOneGroupSaid :=
  OpenClaim.holds_of_wide 6 Try.f6 rfl rfl rfl rfl rfl rfl rfl ⟨rfl, rfl, rfl, rfl, rfl⟩ rfl rfl rfl rfl rfl (by kernel_rfl) Try.func6 (by kernel_rfl)
    (of_decide_eq_true (by kernel_rfl)) (by unfold Func.isWrapper; first | (rw [if_pos (by decide +kernel)]; kernel_rfl) | (rw [if_neg (by decide +kernel)]; exact ⟨rfl, rfl⟩))
    (fun os started H enc _ => liftedHashOneGroup os started H enc)

theorem c_HashOneLabel : ∀ xs, saysAll [.str, .ints .i64, .int .i64, .int .u8] xs → ACalls Try.prog 7 xs [] fun r _ => r = .bool true := by
  intro xs0 z0
  obtain ⟨_, xs1, rfl, ⟨a0, rfl, h0, g0⟩, z1⟩ := saysAll_cons z0
  obtain ⟨_, xs2, rfl, ⟨a1, rfl, h1, g1⟩, z2⟩ := saysAll_cons z1
  obtain ⟨_, xs3, rfl, ⟨a2, rfl, h2⟩, z3⟩ := saysAll_cons z2
  obtain ⟨_, xs4, rfl, ⟨a3, rfl, h3⟩, z4⟩ := saysAll_cons z3
  obtain rfl := saysAll_nil z4
  exact law_HashOneLabel a0 h0 g0 a1 h1 g1 a2 h2 a3 h3

set_option maxRecDepth 100000 in
theorem liftedHashOneLabel (os : Os) (started : os.Started) (H : Type) (enc : TypeId × Value → H) :
    ReturnsInHanded {} Try.checked os 7 .any (Rows.hashOneLabelSpec.pre6 enc Try.prog Try.f7 Rows.hashOneLabelRow.domain false) (Rows.hashOneLabelSpec.post enc Try.prog Try.f7 false true false false) := by
  refine returnsInHanded_of_change (C := Try.checked) own started (by kernel_rfl) Try.func7
    (ChangeSpec.witness6 (enc := enc) (C := Try.checked) false ⟨#[], #[.string .empty, .slice none 0 0, .int .i64 0, .int .u8 0], []⟩ 8 (by kernel_rfl) (by kernel_rfl) (by kernel_rfl) (by kernel_rfl)) ?_
  intro W base args ds gs before hval hW _ _
  have hp : Try.f7.params.toList = [9, 22, 3, 5] := by kernel_rfl
  refine law_contract (fn := Try.f7) (ks := [.str, .ints .i64, .int .i64, .int .u8]) (tb := 4) laidOut (by rw [hp]; simp only [fitsAll, PK.fits]; exact ⟨by kernel_rfl, ⟨3, by kernel_rfl, by kernel_rfl, by kernel_rfl⟩, by kernel_rfl, by kernel_rfl, trivial⟩) ?_ (by kernel_rfl) (by kernel_rfl) rfl ?_ c_HashOneLabel (fun b o c h => by simp [GTab.gl] at h) hval hW
  · intro t ht
    rw [hp] at ht
    simp only [List.mem_cons, List.not_mem_nil, or_false] at ht
    rcases ht with rfl | rfl | rfl | rfl <;> exact ⟨by kernel_rfl, by decide +kernel⟩
  · intro ds hl
    rw [hp] at hl
    match ds, hl with
    | [d0, d1, d2, d3], _ => rfl
/-- **HashOneLabel**: for every input the law answers true and leaves its arguments as they were. No condition. -/
theorem hashOneLabel_holds : Rows.HashOneLabelSaid :=
  OpenClaim.holds_of_wide 7 Try.f7 rfl rfl rfl rfl rfl rfl rfl ⟨rfl, rfl, rfl, rfl, rfl⟩ rfl rfl rfl rfl rfl (by kernel_rfl) Try.func7 (by kernel_rfl)
    (of_decide_eq_true (by kernel_rfl)) (by unfold Func.isWrapper; first | (rw [if_pos (by decide +kernel)]; kernel_rfl) | (rw [if_neg (by decide +kernel)]; exact ⟨rfl, rfl⟩))
    (fun os started H enc _ => liftedHashOneLabel os started H enc)

theorem c_HashGroups : ∀ xs, saysAll [.str, .ints .u8] xs → ACalls Try.prog 8 xs [] fun r _ => r = .bool true := by
  intro xs0 z0
  obtain ⟨_, xs1, rfl, ⟨a0, rfl, h0, g0⟩, z1⟩ := saysAll_cons z0
  obtain ⟨_, xs2, rfl, ⟨a1, rfl, h1, g1⟩, z2⟩ := saysAll_cons z1
  obtain rfl := saysAll_nil z2
  exact law_HashGroups a0 h0 g0 a1 h1 g1

set_option maxRecDepth 100000 in
theorem liftedHashGroups (os : Os) (started : os.Started) (H : Type) (enc : TypeId × Value → H) :
    ReturnsInHanded {} Try.checked os 8 .any (Rows.hashGroupsSpec.pre6 enc Try.prog Try.f8 Rows.hashGroupsRow.domain false) (Rows.hashGroupsSpec.post enc Try.prog Try.f8 false true false false) := by
  refine returnsInHanded_of_change (C := Try.checked) own started (by kernel_rfl) Try.func8
    (ChangeSpec.witness6 (enc := enc) (C := Try.checked) false ⟨#[], #[.string .empty, .slice none 0 0], []⟩ 8 (by kernel_rfl) (by kernel_rfl) (by kernel_rfl) (by kernel_rfl)) ?_
  intro W base args ds gs before hval hW _ _
  have hp : Try.f8.params.toList = [9, 30] := by kernel_rfl
  refine law_contract (fn := Try.f8) (ks := [.str, .ints .u8]) (tb := 4) laidOut (by rw [hp]; simp only [fitsAll, PK.fits]; exact ⟨by kernel_rfl, ⟨5, by kernel_rfl, by kernel_rfl, by kernel_rfl⟩, trivial⟩) ?_ (by kernel_rfl) (by kernel_rfl) rfl ?_ c_HashGroups (fun b o c h => by simp [GTab.gl] at h) hval hW
  · intro t ht
    rw [hp] at ht
    simp only [List.mem_cons, List.not_mem_nil, or_false] at ht
    rcases ht with rfl | rfl <;> exact ⟨by kernel_rfl, by decide +kernel⟩
  · intro ds hl
    rw [hp] at hl
    match ds, hl with
    | [d0, d1], _ => rfl
/-- **HashGroups**: for every input the law answers true and leaves its arguments as they were. No condition. -/
theorem hashGroups_holds : Rows.HashGroupsSaid :=
  OpenClaim.holds_of_wide 8 Try.f8 rfl rfl rfl rfl rfl rfl rfl ⟨rfl, rfl, rfl, rfl, rfl⟩ rfl rfl rfl rfl rfl (by kernel_rfl) Try.func8 (by kernel_rfl)
    (of_decide_eq_true (by kernel_rfl)) (by unfold Func.isWrapper; first | (rw [if_pos (by decide +kernel)]; kernel_rfl) | (rw [if_neg (by decide +kernel)]; exact ⟨rfl, rfl⟩))
    (fun os started H enc _ => liftedHashGroups os started H enc)

theorem c_HashPairs : ∀ xs, saysAll [.int .u64, .int .u64, .int .u64] xs → ACalls Try.prog 9 xs [] fun r _ => r = .bool true := by
  intro xs0 z0
  obtain ⟨_, xs1, rfl, ⟨a0, rfl, h0⟩, z1⟩ := saysAll_cons z0
  obtain ⟨_, xs2, rfl, ⟨a1, rfl, h1⟩, z2⟩ := saysAll_cons z1
  obtain ⟨_, xs3, rfl, ⟨a2, rfl, h2⟩, z3⟩ := saysAll_cons z2
  obtain rfl := saysAll_nil z3
  exact law_HashPairs a0 h0 a1 h1 a2 h2

set_option maxRecDepth 100000 in
theorem liftedHashPairs (os : Os) (started : os.Started) (H : Type) (enc : TypeId × Value → H) :
    ReturnsInHanded {} Try.checked os 9 .any (Rows.hashPairsSpec.pre6 enc Try.prog Try.f9 Rows.hashPairsRow.domain false) (Rows.hashPairsSpec.post enc Try.prog Try.f9 false true false false) := by
  refine returnsInHanded_of_change (C := Try.checked) own started (by kernel_rfl) Try.func9
    (ChangeSpec.witness6 (enc := enc) (C := Try.checked) false ⟨#[], #[.int .u64 0, .int .u64 0, .int .u64 0], []⟩ 8 (by kernel_rfl) (by kernel_rfl) (by kernel_rfl) (by kernel_rfl)) ?_
  intro W base args ds gs before hval hW _ _
  have hp : Try.f9.params.toList = [25, 25, 25] := by kernel_rfl
  refine law_contract (fn := Try.f9) (ks := [.int .u64, .int .u64, .int .u64]) (tb := 4) laidOut (by rw [hp]; simp only [fitsAll, PK.fits]; exact ⟨by kernel_rfl, by kernel_rfl, by kernel_rfl, trivial⟩) ?_ (by kernel_rfl) (by kernel_rfl) rfl ?_ c_HashPairs (fun b o c h => by simp [GTab.gl] at h) hval hW
  · intro t ht
    rw [hp] at ht
    simp only [List.mem_cons, List.not_mem_nil, or_false] at ht
    rcases ht with rfl | rfl | rfl <;> exact ⟨by kernel_rfl, by decide +kernel⟩
  · intro ds hl
    rw [hp] at hl
    match ds, hl with
    | [d0, d1, d2], _ => rfl
/-- **HashPairs**: for every input the law answers true and leaves its arguments as they were. No condition. -/
theorem hashPairs_holds : Rows.HashPairsSaid :=
  OpenClaim.holds_of_wide 9 Try.f9 rfl rfl rfl rfl rfl rfl rfl ⟨rfl, rfl, rfl, rfl, rfl⟩ rfl rfl rfl rfl rfl (by kernel_rfl) Try.func9 (by kernel_rfl)
    (of_decide_eq_true (by kernel_rfl)) (by unfold Func.isWrapper; first | (rw [if_pos (by decide +kernel)]; kernel_rfl) | (rw [if_neg (by decide +kernel)]; exact ⟨rfl, rfl⟩))
    (fun os started H enc _ => liftedHashPairs os started H enc)

theorem c_HashArguments : ∀ xs, saysAll [.ints .i64, .ints .u8] xs → ACalls Try.prog 10 xs [] fun r _ => r = .bool true := by
  intro xs0 z0
  obtain ⟨_, xs1, rfl, ⟨a0, rfl, h0, g0⟩, z1⟩ := saysAll_cons z0
  obtain ⟨_, xs2, rfl, ⟨a1, rfl, h1, g1⟩, z2⟩ := saysAll_cons z1
  obtain rfl := saysAll_nil z2
  exact law_HashArguments a0 h0 g0 a1 h1 g1

set_option maxRecDepth 100000 in
theorem liftedHashArguments (os : Os) (started : os.Started) (H : Type) (enc : TypeId × Value → H) :
    ReturnsInHanded {} Try.checked os 10 .any (Rows.hashArgumentsSpec.pre6 enc Try.prog Try.f10 Rows.hashArgumentsRow.domain false) (Rows.hashArgumentsSpec.post enc Try.prog Try.f10 false true false false) := by
  refine returnsInHanded_of_change (C := Try.checked) own started (by kernel_rfl) Try.func10
    (ChangeSpec.witness6 (enc := enc) (C := Try.checked) false ⟨#[], #[.slice none 0 0, .slice none 0 0], []⟩ 8 (by kernel_rfl) (by kernel_rfl) (by kernel_rfl) (by kernel_rfl)) ?_
  intro W base args ds gs before hval hW _ _
  have hp : Try.f10.params.toList = [22, 30] := by kernel_rfl
  refine law_contract (fn := Try.f10) (ks := [.ints .i64, .ints .u8]) (tb := 4) laidOut (by rw [hp]; simp only [fitsAll, PK.fits]; exact ⟨⟨3, by kernel_rfl, by kernel_rfl, by kernel_rfl⟩, ⟨5, by kernel_rfl, by kernel_rfl, by kernel_rfl⟩, trivial⟩) ?_ (by kernel_rfl) (by kernel_rfl) rfl ?_ c_HashArguments (fun b o c h => by simp [GTab.gl] at h) hval hW
  · intro t ht
    rw [hp] at ht
    simp only [List.mem_cons, List.not_mem_nil, or_false] at ht
    rcases ht with rfl | rfl <;> exact ⟨by kernel_rfl, by decide +kernel⟩
  · intro ds hl
    rw [hp] at hl
    match ds, hl with
    | [d0, d1], _ => rfl
/-- **HashArguments**: for every input the law answers true and leaves its arguments as they were. No condition. -/
theorem hashArguments_holds : Rows.HashArgumentsSaid :=
  OpenClaim.holds_of_wide 10 Try.f10 rfl rfl rfl rfl rfl rfl rfl ⟨rfl, rfl, rfl, rfl, rfl⟩ rfl rfl rfl rfl rfl (by kernel_rfl) Try.func10 (by kernel_rfl)
    (of_decide_eq_true (by kernel_rfl)) (by unfold Func.isWrapper; first | (rw [if_pos (by decide +kernel)]; kernel_rfl) | (rw [if_neg (by decide +kernel)]; exact ⟨rfl, rfl⟩))
    (fun os started H enc _ => liftedHashArguments os started H enc)

end Go.Proofs.Ythodfbkngdnihaa
