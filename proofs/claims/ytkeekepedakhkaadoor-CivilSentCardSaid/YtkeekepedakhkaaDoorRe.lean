/-
  The rows of the laws: each law answers true for every input that can be read.
-/
import Derived.Test.YtkeekepedakhkaaDoorCards
import Derived.Test.YtkeekepedakhkaaDoorTie
import Derived.Test.YtkeekepedakhkaaDoorCs
import Derived.JoinedOf
import Derived.ProofKit
import Derived.OpenShut
import Derived.Deep.DeepHandedRow
import Derived.Lib.LaidTab
namespace Go.Proofs.YtkeekepedakhkaaDoor
open Go.Pa Go.RowKit
set_option linter.unusedVariables false

theorem own : ownKnob Tryd.prog.godebug = none := by kernel_rfl
theorem laidOut : laidOutB Tryd.prog = true := by kernel_rfl

theorem gTab : Tryd.prog.globalNamed "priorart/civil.lengths" = some 0 := by kernel_rfl
theorem gTabType : (Tryd.prog.globals[0]?).map (·.type) = some 60 := by kernel_rfl
theorem cellsT : Tryd.prog.cellsOf 60 = 12 := by kernel_rfl
theorem cellsE : Tryd.prog.cellsOf 3 = 1 := by kernel_rfl
/-- The listed variable's numbers. -/
def tab : List Int := [31, 28, 31, 30, 31, 30, 31, 31, 30, 31, 30, 31]
theorem tab_gl : GTab.gl 0 = tab.map (fun z => Value.int .i64 z) := by rfl
theorem tab_no (b : Nat) (h : b ≠ 0) : GTab.gl b = [] := by
  match b with
  | 0 => exact absurd rfl h
  | n + 1 => rfl
theorem globOk {W : World} (h : Lib.TabIs Tryd.prog W "priorart/civil.lengths" .i64 tab) : GlobOk (Gh.now W) := by
  intro b o c hc
  by_cases hb : b = 0
  · subst hb
    rw [tab_gl, List.getElem?_map, Option.map_eq_some_iff] at hc
    obtain ⟨z, hz, rfl⟩ := hc
    have hlt := (List.getElem?_eq_some_iff.1 hz).1
    have hcell := h.cell gTab o hlt
    have hzz : tab.getD o 0 = z := by simp [List.getD, hz]
    rw [hzz] at hcell
    simp only [Gh.now, hcell]
    rfl
  · rw [tab_no b hb] at hc
    simp at hc
/-- A world for the witness: the table holds what its initialiser lays. -/
noncomputable def laidWorld (os : Os) : World :=
  { World.holding Tryd.prog os ⟨#[], #[], []⟩ with heap := (World.holding Tryd.prog os ⟨#[], #[], []⟩).heap.modify 0 fun
      | .cells _ t frozen => .cells #[Value.int .i64 31, Value.int .i64 28, Value.int .i64 31, Value.int .i64 30, Value.int .i64 31, Value.int .i64 30, Value.int .i64 31, Value.int .i64 31, Value.int .i64 30, Value.int .i64 31, Value.int .i64 30, Value.int .i64 31] t frozen
      | o => o }

theorem c_CivilSent : ∀ xs, saysAll [.ints .i64, .int .i64, .int .i64] xs → ACalls Tryd.prog 9 xs [] fun r _ => r = .bool true := by
  intro xs0 z0
  obtain ⟨_, xs1, rfl, ⟨a0, rfl, h0, g0⟩, z1⟩ := saysAll_cons z0
  obtain ⟨_, xs2, rfl, ⟨a1, rfl, h1⟩, z2⟩ := saysAll_cons z1
  obtain ⟨_, xs3, rfl, ⟨a2, rfl, h2⟩, z3⟩ := saysAll_cons z2
  obtain rfl := saysAll_nil z3
  exact law_CivilSent a0 h0 g0 a1 h1 a2 h2

theorem laid_CivilSent (os : Os) : laidMet Tryd.prog Rows.civilSentRow.laid ((laidWorld os).forCall (fun _ _ => 0) ⟨#[], #[.slice none 0 0, .int .i64 0, .int .i64 0], []⟩).memory :=
  laidMet_of_run' 8 (by kernel_rfl) (by kernel_rfl)
theorem reads_CivilSent (os : Os) {H : Type} (enc : TypeId × Value → H) : ∃ places, DataW.whole enc Tryd.prog ((laidWorld os).forCall (fun _ _ => 0) ⟨#[], #[.slice none 0 0, .int .i64 0, .int .i64 0], []⟩).memory Tryd.f9.params.toList Rows.civilSentSpec.vars false (#[.slice none 0 0, .int .i64 0, .int .i64 0] : Array Value).toList 8 = some ([.nil, .lit (.int .i64 0), .lit (.int .i64 0)], [], places) :=
  ⟨[], by kernel_rfl⟩
set_option maxRecDepth 100000 in
theorem liftedCivilSent (os : Os) (started : os.Started) (H : Type) (enc : TypeId × Value → H) (F : Stop.Interp) :
    ReturnsInHanded {} Tryd.checked os 9 .any ((OpenSpec.ofChange Rows.civilSentSpec).preRow enc Tryd.prog Tryd.f9 Rows.civilSentRow.domain false Rows.civilSentRow.laid) (((OpenSpec.ofChange Rows.civilSentSpec).at F).post enc Tryd.prog Tryd.f9 false true false false) := by
  obtain ⟨places, hx⟩ := reads_CivilSent os enc
  refine returnsInHanded_of_row (C := Tryd.checked) (s := OpenSpec.ofChange Rows.civilSentSpec) own started (by kernel_rfl) Tryd.func9
    (witness_row_at (enc := enc) (C := Tryd.checked) false (laidWorld os) #[.slice none 0 0, .int .i64 0, .int .i64 0] rfl (by kernel_rfl) (by kernel_rfl) (by kernel_rfl)
      (OpenSpec.preRow_of_cond 8 hx (by kernel_rfl) (fun k hk => by cases hk) (by kernel_rfl) (laid_CivilSent os))) ?_
  intro W base args ds gs before hval hW _ _ _ hL _ _
  have hp : Tryd.f9.params.toList = [22, 3, 3] := by kernel_rfl
  have hg : GlobOk (Gh.now W) := globOk (Lib.tabIs_of_head (rest := []) gTab gTabType Tryd.underlying60 Tryd.underlying3 cellsE cellsT hL)
  refine law_contract (fn := Tryd.f9) (ks := [.ints .i64, .int .i64, .int .i64]) (tb := 4) laidOut (by rw [hp]; simp only [fitsAll, PK.fits]; exact ⟨⟨3, by kernel_rfl, by kernel_rfl, by kernel_rfl⟩, by kernel_rfl, by kernel_rfl, trivial⟩) ?_ (by kernel_rfl) (by kernel_rfl) rfl ?_ c_CivilSent hg hval hW
  · intro t ht
    rw [hp] at ht
    simp only [List.mem_cons, List.not_mem_nil, or_false] at ht
    rcases ht with rfl | rfl | rfl <;> exact ⟨by kernel_rfl, by decide +kernel⟩
  · intro ds hl
    rw [hp] at hl
    match ds, hl with
    | [d0, d1, d2], _ => rfl
theorem saidCivilSent : Rows.CivilSentSaid :=
  OpenClaim.holds_of_cond 9 Tryd.f9 rfl rfl rfl rfl rfl rfl rfl ⟨rfl, rfl, rfl, rfl, rfl⟩ rfl rfl rfl rfl rfl (by kernel_rfl) Tryd.func9 (by kernel_rfl)
    (of_decide_eq_true (by kernel_rfl)) (by unfold Func.isWrapper; first | (rw [if_pos (by decide +kernel)]; kernel_rfl) | (rw [if_neg (by decide +kernel)]; exact ⟨rfl, rfl⟩))
    (fun os started H enc _ F => by rw [OpenClaim.pre_eq_preRow]; exact liftedCivilSent os started H enc F)
theorem plainCivilSent (f : FuncId) (fn : Func) (hf : Tryd.pinned.checked.prog.funcNamed "priorart/priorartlaw13.CivilSent" = some f) (hfn : Tryd.pinned.checked.prog.funcs[f]? = some fn) :
    false = Tryd.pinned.checked.prog.looks [] ∧ ∀ (j : Nat) t, fn.params[j]? = some t → Tryd.pinned.checked.prog.wantsStandIn t = false := by
  obtain rfl : f = 9 := Option.some.inj ((show Tryd.prog.funcNamed "priorart/priorartlaw13.CivilSent" = some 9 by kernel_rfl).symm.trans hf) |>.symm
  obtain rfl : fn = Tryd.f9 := (Option.some.inj (Tryd.func9.symm.trans hfn)).symm
  refine ⟨by kernel_rfl, fun j t ht => ?_⟩
  have hm := List.mem_of_getElem? (l := Tryd.f9.params.toList) (by simpa using ht)
  have hp : Tryd.f9.params.toList = [22, 3, 3] := by kernel_rfl
  rw [hp] at hm
  simp only [List.mem_cons, List.not_mem_nil, or_false] at hm
  rcases hm with rfl | rfl | rfl
  · exact (show Tryd.prog.wantsStandIn 22 = false by kernel_rfl)
  · exact (show Tryd.prog.wantsStandIn 3 = false by kernel_rfl)
  · exact (show Tryd.prog.wantsStandIn 3 = false by kernel_rfl)
/-- **CivilSent**: for every input the law answers true and leaves its arguments as they were; the listed table is tied to the program's text. No condition. -/
theorem civilSent_holds : Rows.CivilSentCardSaid :=
  Claim7.holds_tied_plain_at .later [] _ _ _ _ saidCivilSent (fun _ h => by cases h) (by kernel_rfl) (fun _ h => by cases h) civilSent_row_tie rfl ⟨rfl, rfl⟩ (by kernel_rfl) rfl plainCivilSent (by kernel_rfl)

end Go.Proofs.YtkeekepedakhkaaDoor
