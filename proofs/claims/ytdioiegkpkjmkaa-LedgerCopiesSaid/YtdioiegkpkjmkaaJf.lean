/-
  The ledger: room for entries; contract.
-/
import Derived.Test.YtdioiegkpkjmkaaJe
import Derived.Lib.Walk
import Derived.Lib.SliceRun
import Derived.Lib.AppendZerosOnto
namespace Go.Proofs
open Go.Pa Go.RowKit Go.Lib
set_option linter.unusedSimpArgs false
set_option linter.unusedVariables false
set_option maxRecDepth 100000
set_option maxHeartbeats 4000000

theorem opt_get {α : Type} {o : Option α} (h : o.isSome = true) : o = some (o.get h) := by
  cases o with
  | none => cases h
  | some a => rfl

theorem infoE : ∃ i : TypeInfo, ∃ z : Value, Try.prog.info? 37 = some i ∧ i.zero = some z ∧ i.size = 6 ∧ i.bytes = 48 ∧ z.cells.size = 6 ∧ (∀ c ∈ z.cells.toList, c.oneCell' = true) := by
  have h1 : (Try.prog.info? 37).isSome = true := by kernel_rfl
  have h2 : ((Try.prog.info? 37).get h1).zero.isSome = true := by kernel_rfl
  have h3 : (((Try.prog.info? 37).get h1).zero.get h2).cells.toList.all (fun c => c.oneCell') = true := by kernel_rfl
  exact ⟨_, _, opt_get h1, opt_get h2, by kernel_rfl, by kernel_rfl, by kernel_rfl, fun c hc => List.all_eq_true.1 h3 c hc⟩

theorem grow_run (n : Nat) (hn0 : 0 < n) (hn : n ≤ 1000000) (w : World) :
    ∃ z : Array Value, (∀ c ∈ z.toList, c.oneCell' = true) ∧ Calls Try.prog 59 #[.slice none 0 0, .int .i64 n] w fun e w' =>
      e = .returned (.slice (some ⟨w.heap.size, 0, none⟩) 0 (grownCap w n 0 37)) ∧ w' = w.drew.alloc (.cells z 37) ∧ z.size = grownCap w n 0 37 * 6 ∧ n ≤ grownCap w n 0 37 := by
  obtain ⟨i, z, hi, hz, hs, hb, hzc, hz1⟩ := infoE
  have hrz : ∀ ty, (Builtin.append_ #[29, 3] ty #[.slice none 0 0, .int .i64 n]).run Try.prog w =
      .ok (.slice (some ⟨w.heap.size, 0, none⟩) (0 + n) (grownCap w (0 + n) 0 37)) (w.drew.alloc (.cells (#[] ++ Builtin.zeroCells z.cells n ++ Builtin.zeroCells z.cells (grownCap w (0 + n) 0 37 - (0 + n))) 37)) := fun ty => by
    exact Lib.run_append_grow_zeros w _ _ ty 37 i z .i64 .i64 (by kernel_rfl) (by kernel_rfl) hi hz none 0 0 [] (run_firstCells_none w.drew i.size 0 0 0) n hn0 (by omega) (by omega) (by omega) (by rw [hb]; omega)
      (growslice_fits (by omega) (by rw [hb]; omega))
  simp only [Nat.zero_add] at hrz
  have hGn : n ≤ grownCap w n 0 37 := grownCap_ge w _ _ _
  have hG63 : grownCap w n 0 37 ≤ maxLen := grownCap_le_maxLen w n 0 37 (by unfold maxLen; omega)
  obtain ⟨G, hG⟩ : ∃ G, G = grownCap w n 0 37 := ⟨_, rfl⟩
  rw [← hG] at hrz hGn hG63 ⊢
  refine ⟨#[] ++ Builtin.zeroCells z.cells n ++ Builtin.zeroCells z.cells (G - n), ?_, ?_⟩
  · intro c hcc
    simp only [Array.toList_append, List.mem_append] at hcc
    have key : ∀ k, c ∈ (Builtin.zeroCells z.cells k).toList → c.oneCell' = true := by
      intro k hcc
      unfold Builtin.zeroCells at hcc
      simp only [Array.toList_map, List.mem_map] at hcc
      obtain ⟨i, hi, rfl⟩ := hcc
      have hlt : i % z.cells.size < z.cells.size := Nat.mod_lt _ (by omega)
      rw [getElem!_pos z.cells _ hlt]
      exact hz1 _ (Array.getElem_mem_toList hlt)
    rcases hcc with (hcc | hcc) | hcc
    · simp at hcc
    · exact key _ hcc
    · exact key _ hcc
  have hsz : (#[] ++ Builtin.zeroCells z.cells n ++ Builtin.zeroCells z.cells (G - n)).size = G * 6 := by
    simp only [Array.size_append, size_zeroCells, hzc]
    show 0 + n * 6 + (G - n) * 6 = G * 6
    omega
  have h1 : ¬ ((n : Int) < 0) := by omega
  have h2 : wrap64 ((0 : Int) - (0 : Int)) = 0 := by unfold wrap64; omega
  have h3 : wrap64 ((n : Int) - 0) = (n : Int) := by unfold wrap64; omega
  have h4 : (n : Int) > 0 := by omega
  have hG63' : G ≤ 9223372036854775807 := hG63
  generalize #[] ++ Builtin.zeroCells z.cells n ++ Builtin.zeroCells z.cells (G - n) = Z at *
  clear hG hi hz hs hb hzc hz1
  go_enter Try.func59, Try.ntmps59
  go_wp2_with (at_builtin; refine Lib.wpList_append_run _ rfl _ _ _ _ rfl _ _ rfl rfl _ _ (hrz _) ?_)
  all_goals (go_ret; exact ⟨rfl, rfl⟩)

theorem grow_run0 (w : World) : Calls Try.prog 59 #[.slice none 0 0, .int .i64 0] w fun e w' => e = .returned (.slice none 0 0) ∧ w' = w := by
  have h2 : wrap64 ((0 : Int) - (0 : Int)) = 0 := by unfold wrap64; omega
  go_enter Try.func59, Try.ntmps59
  go_wp2
  all_goals (go_ret; exact ⟨rfl, rfl⟩)

theorem c_grow (n : Nat) (hn : n ≤ 1000000) (σ : Store) : ACalls Try.prog 59 [.nils, .int .i64 n] σ (fun r s => Ext σ s ∧ BufR s σ.length r 6 []) := by
  refine ⟨Try.call59, fun G w vs hw hl => ?_⟩
  obtain ⟨l, rfl⟩ : ∃ l : List Value, vs = l.toArray := ⟨vs.toList, by simp⟩
  rw [List.toList_toArray] at hl
  cases hl with
  | cons h1 h2 =>
  cases h2 with
  | cons h3 h4 =>
  cases h4
  cases h1
  cases h3
  by_cases h0 : n = 0
  · subst h0
    refine (grow_run0 w).mono ?_
    rintro e w' ⟨rfl, rfl⟩
    exact ⟨_, .nils, σ, G, rfl, Gh.le.refl G, hw, .nils, .refl _, .inl ⟨.inl rfl, rfl⟩⟩
  · obtain ⟨z, hz, hr⟩ := grow_run n (by omega) hn w
    refine hr.mono ?_
    rintro e w' ⟨rfl, rfl, hs, hG⟩
    have hp := hw.push (w1 := w.drew) rfl rfl rfl rfl (arr := z) (ty := 37) (ob := .vecR 6 []) (cs := []) rfl [] .nil (fun i c h => by simp at h) hz
    have hobj : (G.add w.heap.size z.size).obj[σ.length]? = some (w.heap.size, z.size) := by
      simp only [Gh.add]; rw [← hw.len]; simp
    have hr2 := Rep.mvec (G := G.add w.heap.size z.size) σ.length 0 0 6 _ _ _ hobj (Nat.zero_le (grownCap w n 0 37)) (by rw [hs]; simp)
    exact ⟨_, .mvec σ.length 0 0 6, _, _, rfl, Gh.le_add G _ _, hp, by simpa using hr2, (Ext.refl σ).push _, .inr ⟨σ.length, rfl, by simp, Nat.le_refl _⟩⟩

end Go.Proofs
