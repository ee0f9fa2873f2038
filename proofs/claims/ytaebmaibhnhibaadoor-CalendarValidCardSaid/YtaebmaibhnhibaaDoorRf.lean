/-
  The rows of the laws: each law answers true for every input that can be read.
-/
import Derived.Test.YtaebmaibhnhibaaDoorCards
import Derived.Test.YtaebmaibhnhibaaDoorTie
import Derived.Test.YtaebmaibhnhibaaDoorKv
import Derived.JoinedOf
import Derived.ProofKit
import Derived.OpenShut
import Derived.Deep.DeepHandedRow
import Derived.Lib.LaidTab
namespace Go.Proofs.YtaebmaibhnhibaaDoor
open Go.Pa Go.RowKit
set_option linter.unusedVariables false

theorem own : ownKnob Tryd.prog.godebug = none := by kernel_rfl
theorem laidOut : laidOutB Tryd.prog = true := by kernel_rfl

theorem gTab : Tryd.prog.globalNamed "priorart/civil.lengths" = some 0 := by kernel_rfl
theorem gTabType : (Tryd.prog.globals[0]?).map (·.type) = some 91 := by kernel_rfl
theorem cellsT : Tryd.prog.cellsOf 91 = 12 := by kernel_rfl
theorem cellsE : Tryd.prog.cellsOf 3 = 1 := by kernel_rfl
/-- The listed variable's numbers. -/
def tab : List Int := [31, 28, 31, 30, 31, 30, 31, 31, 30, 31, 30, 31]
theorem tab_gl : GTab.gl 0 = tab.map (fun z => Value.int .i64 z) := by rfl
theorem tab_no (b : Nat) (h : b ≠ 0) : GTab.gl b = [] := by
  match b with
  | 0 => exact absurd rfl h
  | n + 1 => rfl
theorem globOk {W : World} (h : Lib.TabIs Tryd.prog W "priorart/civil.lengths" .i64 tab) : GlobOk (Gh.now W) := by
  intro b o c hc
  by_cases hb : b = 0
  · subst hb
    rw [tab_gl, List.getElem?_map, Option.map_eq_some_iff] at hc
    obtain ⟨z, hz, rfl⟩ := hc
    have hlt := (List.getElem?_eq_some_iff.1 hz).1
    have hcell := h.cell gTab o hlt
    have hzz : tab.getD o 0 = z := by simp [List.getD, hz]
    rw [hzz] at hcell
    simp only [Gh.now, hcell]
    rfl
  · rw [tab_no b hb] at hc
    simp at hc
/-- A world for the witness: the table holds what its initialiser lays. -/
noncomputable def laidWorld (os : Os) : World :=
  { World.holding Tryd.prog os ⟨#[], #[], []⟩ with heap := (World.holding Tryd.prog os ⟨#[], #[], []⟩).heap.modify 0 fun
      | .cells _ t frozen => .cells #[Value.int .i64 31, Value.int .i64 28, Value.int .i64 31, Value.int .i64 30, Value.int .i64 31, Value.int .i64 30, Value.int .i64 31, Value.int .i64 31, Value.int .i64 30, Value.int .i64 31, Value.int .i64 30, Value.int .i64 31] t frozen
      | o => o }

theorem c_CalendarValid : ∀ xs, saysAll [.ints .i64, .int .i64, .int .i64, .ints .i64, .int .i64, .int .i64, .int .i64] xs → ACalls Tryd.prog 7 xs [] fun r _ => r = .bool true := by
  intro xs0 z0
  obtain ⟨_, xs1, rfl, ⟨a0, rfl, h0, g0⟩, z1⟩ := saysAll_cons z0
  obtain ⟨_, xs2, rfl, ⟨a1, rfl, h1⟩, z2⟩ := saysAll_cons z1
  obtain ⟨_, xs3, rfl, ⟨a2, rfl, h2⟩, z3⟩ := saysAll_cons z2
  obtain ⟨_, xs4, rfl, ⟨a3, rfl, h3, g3⟩, z4⟩ := saysAll_cons z3
  obtain ⟨_, xs5, rfl, ⟨a4, rfl, h4⟩, z5⟩ := saysAll_cons z4
  obtain ⟨_, xs6, rfl, ⟨a5, rfl, h5⟩, z6⟩ := saysAll_cons z5
  obtain ⟨_, xs7, rfl, ⟨a6, rfl, h6⟩, z7⟩ := saysAll_cons z6
  obtain rfl := saysAll_nil z7
  exact law_CalendarValid a0 h0 g0 a1 h1 a2 h2 a3 h3 g3 a4 h4 a5 h5 a6 h6

theorem laid_CalendarValid (os : Os) : laidMet Tryd.prog Rows.calendarValidRow.laid ((laidWorld os).forCall (fun _ _ => 0) ⟨#[], #[.slice none 0 0, .int .i64 0, .int .i64 0, .slice none 0 0, .int .i64 0, .int .i64 0, .int .i64 0], []⟩).memory :=
  laidMet_of_run' 8 (by kernel_rfl) (by kernel_rfl)
theorem reads_CalendarValid (os : Os) {H : Type} (enc : TypeId × Value → H) : ∃ places, DataW.whole enc Tryd.prog ((laidWorld os).forCall (fun _ _ => 0) ⟨#[], #[.slice none 0 0, .int .i64 0, .int .i64 0, .slice none 0 0, .int .i64 0, .int .i64 0, .int .i64 0], []⟩).memory Tryd.f7.params.toList Rows.calendarValidSpec.vars false (#[.slice none 0 0, .int .i64 0, .int .i64 0, .slice none 0 0, .int .i64 0, .int .i64 0, .int .i64 0] : Array Value).toList 8 = some ([.nil, .lit (.int .i64 0), .lit (.int .i64 0), .nil, .lit (.int .i64 0), .lit (.int .i64 0), .lit (.int .i64 0)], [], places) :=
  ⟨[], by kernel_rfl⟩
set_option maxRecDepth 100000 in
theorem liftedCalendarValid (os : Os) (started : os.Started) (H : Type) (enc : TypeId × Value → H) (F : Stop.Interp) :
    ReturnsInHanded {} Tryd.checked os 7 .any ((OpenSpec.ofChange Rows.calendarValidSpec).preRow enc Tryd.prog Tryd.f7 Rows.calendarValidRow.domain false Rows.calendarValidRow.laid) (((OpenSpec.ofChange Rows.calendarValidSpec).at F).post enc Tryd.prog Tryd.f7 false true false false) := by
  obtain ⟨places, hx⟩ := reads_CalendarValid os enc
  refine returnsInHanded_of_row (C := Tryd.checked) (s := OpenSpec.ofChange Rows.calendarValidSpec) own started (by kernel_rfl) Tryd.func7
    (witness_row_at (enc := enc) (C := Tryd.checked) false (laidWorld os) #[.slice none 0 0, .int .i64 0, .int .i64 0, .slice none 0 0, .int .i64 0, .int .i64 0, .int .i64 0] rfl (by kernel_rfl) (by kernel_rfl) (by kernel_rfl)
      (OpenSpec.preRow_of_cond 8 hx (by kernel_rfl) (fun k hk => by cases hk) (by kernel_rfl) (laid_CalendarValid os))) ?_
  intro W base args ds gs before hval hW _ _ _ hL _ _
  have hp : Tryd.f7.params.toList = [22, 3, 3, 22, 3, 3, 3] := by kernel_rfl
  have hg : GlobOk (Gh.now W) := globOk (Lib.tabIs_of_head (rest := []) gTab gTabType Tryd.underlying91 Tryd.underlying3 cellsE cellsT hL)
  refine law_contract (fn := Tryd.f7) (ks := [.ints .i64, .int .i64, .int .i64, .ints .i64, .int .i64, .int .i64, .int .i64]) (tb := 4) laidOut (by rw [hp]; simp only [fitsAll, PK.fits]; exact ⟨⟨3, by kernel_rfl, by kernel_rfl, by kernel_rfl⟩, by kernel_rfl, by kernel_rfl, ⟨3, by kernel_rfl, by kernel_rfl, by kernel_rfl⟩, by kernel_rfl, by kernel_rfl, by kernel_rfl, trivial⟩) ?_ (by kernel_rfl) (by kernel_rfl) rfl ?_ c_CalendarValid hg hval hW
  · intro t ht
    rw [hp] at ht
    simp only [List.mem_cons, List.not_mem_nil, or_false] at ht
    rcases ht with rfl | rfl | rfl | rfl | rfl | rfl | rfl <;> exact ⟨by kernel_rfl, by decide +kernel⟩
  · intro ds hl
    rw [hp] at hl
    match ds, hl with
    | [d0, d1, d2, d3, d4, d5, d6], _ => rfl
theorem saidCalendarValid : Rows.CalendarValidSaid :=
  OpenClaim.holds_of_cond 7 Tryd.f7 rfl rfl rfl rfl rfl rfl rfl ⟨rfl, rfl, rfl, rfl, rfl⟩ rfl rfl rfl rfl rfl (by kernel_rfl) Tryd.func7 (by kernel_rfl)
    (of_decide_eq_true (by kernel_rfl)) (by unfold Func.isWrapper; first | (rw [if_pos (by decide +kernel)]; kernel_rfl) | (rw [if_neg (by decide +kernel)]; exact ⟨rfl, rfl⟩))
    (fun os started H enc _ F => by rw [OpenClaim.pre_eq_preRow]; exact liftedCalendarValid os started H enc F)
theorem plainCalendarValid (f : FuncId) (fn : Func) (hf : Tryd.pinned.checked.prog.funcNamed "priorart/priorartlaw14.CalendarValid" = some f) (hfn : Tryd.pinned.checked.prog.funcs[f]? = some fn) :
    false = Tryd.pinned.checked.prog.looks [] ∧ ∀ (j : Nat) t, fn.params[j]? = some t → Tryd.pinned.checked.prog.wantsStandIn t = false := by
  obtain rfl : f = 7 := Option.some.inj ((show Tryd.prog.funcNamed "priorart/priorartlaw14.CalendarValid" = some 7 by kernel_rfl).symm.trans hf) |>.symm
  obtain rfl : fn = Tryd.f7 := (Option.some.inj (Tryd.func7.symm.trans hfn)).symm
  refine ⟨by kernel_rfl, fun j t ht => ?_⟩
  have hm := List.mem_of_getElem? (l := Tryd.f7.params.toList) (by simpa using ht)
  have hp : Tryd.f7.params.toList = [22, 3, 3, 22, 3, 3, 3] := by kernel_rfl
  rw [hp] at hm
  simp only [List.mem_cons, List.not_mem_nil, or_false] at hm
  rcases hm with rfl | rfl | rfl | rfl | rfl | rfl | rfl
  · exact (show Tryd.prog.wantsStandIn 22 = false by kernel_rfl)
  · exact (show Tryd.prog.wantsStandIn 3 = false by kernel_rfl)
  · exact (show Tryd.prog.wantsStandIn 3 = false by kernel_rfl)
  · exact (show Tryd.prog.wantsStandIn 22 = false by kernel_rfl)
  · exact (show Tryd.prog.wantsStandIn 3 = false by kernel_rfl)
  · exact (show Tryd.prog.wantsStandIn 3 = false by kernel_rfl)
  · exact (show Tryd.prog.wantsStandIn 3 = false by kernel_rfl)
/-- **CalendarValid**: for every input the law answers true and leaves its arguments as they were; the listed table is tied to the program's text. No condition. -/
theorem calendarValid_holds : Rows.CalendarValidCardSaid :=
  Claim7.holds_tied_plain_at .later [] _ _ _ _ saidCalendarValid (fun _ h => by cases h) (by kernel_rfl) (fun _ h => by cases h) calendarValid_row_tie rfl ⟨rfl, rfl⟩ (by kernel_rfl) rfl plainCalendarValid (by kernel_rfl)

end Go.Proofs.YtaebmaibhnhibaaDoor
