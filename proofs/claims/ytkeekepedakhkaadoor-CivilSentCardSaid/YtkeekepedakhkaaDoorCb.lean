/-
  The months of a year: the iterator.
-/
import Derived.Test.YtkeekepedakhkaaDoorCa
import Derived.RangeFuncNested
import Derived.RangeFuncBound
import Derived.Shelf.Abstract
import Derived.Shelf.RegionOpen
import Derived.OwnWalkIn
import Derived.TacticsInMore
import Derived.LoopNIn
namespace Go.Proofs
open Go.Pa Go.RowKit Go.Shelf
set_option linter.unusedSimpArgs false
set_option maxRecDepth 20000
set_option maxHeartbeats 2000000

/-- The months with the days in front of them. -/
def monthsL (y : Int) : List (Int × Int) := (List.range 12).map fun k : Nat => (((k : Int) + 1), cumI y k)

theorem monthsL_get {y : Int} {j : Nat} (h : j < 12) : (monthsL y)[j]? = some ((j : Int) + 1, cumI y j) := by
  unfold monthsL
  rw [List.getElem?_map, List.getElem?_range h]; rfl

theorem monthsL_take {y : Int} {j : Nat} (h : j < 12) : (monthsL y).take (j + 1) = (monthsL y).take j ++ [((j : Int) + 1, cumI y j)] := by
  rw [List.take_add_one, monthsL_get h]; rfl

theorem goodW_after {G G2 : Gh} {B : Nat} {Keep : Store → Prop} {τ : Store} {w w' : World} (h : GoodW G B Keep w) (hle : (Gh.now w).le G2) (hw2 : WRel G2 τ w') : GoodW G B Keep w' := by
  obtain ⟨G', σ', g1, hw, g3, g4, g5⟩ := h
  have hb : G2.base = w.heap.size := hle.base
  have h0 : G2.w0 = w := hle.w0
  have hfr : ∀ b, b < w.heap.size → w'.heap[b]? = w.heap[b]? := fun b hb' => by
    have := hw2.frame b (by omega)
    rw [h0] at this; exact this
  have hG : G'.le { G' with imm := fun b o => if b < w.heap.size then G'.imm b o else G2.imm b o } := by
    refine ⟨rfl, rfl, fun b o c h => ?_, fun _ _ h => h, rfl, fun _ _ h => h⟩
    have hlt := World.block_lt_of_cell? w _ (hw.imm b o c h).1
    simp only at hlt
    simp [hlt, h]
  refine ⟨{ G' with imm := fun b o => if b < w.heap.size then G'.imm b o else G2.imm b o }, σ', g1.trans hG, ?_, g3, g4, g5⟩
  refine hw.grow hG rfl rfl hfr (by have := hw2.sz; omega) (by rw [hw2.os, h0]) (by rw [hw2.tape, h0]) (by rw [hw2.output, h0]) (fun b o hb' => by simp [hb']) (fun b o c hb' h => ?_)
  simp only at h
  rw [if_neg (Nat.not_lt.2 hb')] at h
  exact hw2.imm b o c h

/-- Behind a call that looks at flat arguments alone. -/
theorem flat_call {f : FuncId} {args : List AV} {v : AV} {G : Gh} {B : Nat} {Keep : Store → Prop} {W : World} {vs : Array Value} (h : ACalls Tryd.prog f args [] fun r s => r = v ∧ s = []) (hg : GoodW G B Keep W) (hl : ∀ G, RepL G args vs.toList) :
    Calls Tryd.prog f vs W fun e W' => ∃ c, e = .returned c ∧ (∃ G2, Rep G2 v c) ∧ GoodW G B Keep W' ∧ W.grownBy W' none := by
  have hglob : GlobOk (Gh.now W) := by
    obtain ⟨G', σ', _, hw, _⟩ := hg
    exact hw.globs.mono (Gh.now_imm hw)
  refine (h.2 (Gh.now W) W vs (WRel.now hglob) (hl _)).mono ?_
  rintro e W' ⟨c, r, σ', G', rfl, hle, hw', hr, rfl, rfl⟩
  refine ⟨c, rfl, ⟨G', hr⟩, goodW_after hg hle hw', ?_⟩
  have hb : G'.base = W.heap.size := hle.base
  have h0 : G'.w0 = W := hle.w0
  have e1 := hw'.os
  have e2 := hw'.tape
  have e3 := hw'.output
  rw [h0] at e1 e2 e3
  exact ⟨e1, e2, e3, by have := hw'.sz; omega, fun k hk _ => by have := hw'.frame k (by omega); rw [h0] at this; exact this⟩

theorem iter_months (y : Int) (id : Nat) :
    IterC Tryd.prog 48 [.ptr id 0] (fun s => s[id]? = some (.box [.int .i64 y])) (fun x : Int × Int => #[.int .i64 x.1, .int .i64 x.2]) (monthsL y) := by
  refine ⟨Tryd.call48, fun G σ w hs hw hn hk hcs l J Jx W hB hJ hJx hY h0 => ?_⟩
  obtain ⟨b, n, hho, rfl⟩ : ∃ b n, G.obj[id]? = some (b, n) ∧ hs = #[.pointer (some ⟨b, 0, none⟩)] := by
    obtain ⟨hl⟩ := hs
    simp only at hcs
    cases hcs with
    | cons h1 h2 =>
      cases h2
      obtain ⟨b, n, rfl, ho⟩ := ptr_inv h1
      exact ⟨b, n, ho, rfl⟩
  have cell : ∀ W, GoodW G w.heap.size (fun s => s[id]? = some (.box [.int .i64 y])) W → W.cell? ⟨b, 0, none⟩ = some (.int .i64 y) := by
    intro W hg
    obtain ⟨c, G', σ', h1, _, _, h4⟩ := goodW_box hg hho
    cases h4
    exact h1
  have hgw := goodW_start (Keep := fun s => s[id]? = some (.box [.int .i64 y])) hw hn hk hB
  refine callsIn_of_wp Tryd.func48 rfl trivial ?_ rfl
  simp only [Tryd.ntmps48, List.size_toArray, List.length_cons, List.length_nil, Nat.reduceAdd, Nat.reduceSub, Array.replicate_succ, Array.replicate_zero, List.push_toArray, List.append_toArray, List.nil_append, List.cons_append]
  gi_wp2
  gi_loopw [4, 3] (fun p q wr => ∃ j : Nat, p = .int .i64 (((j : Nat) : Int) + 1) ∧ q = .int .i64 (cumI y j) ∧ j ≤ 12 ∧ J ((monthsL y).take j) wr ∧ GoodW G w.heap.size (fun s => s[id]? = some (.box [.int .i64 y])) wr)
    (fun p _ _ => 13 - (intOf p).toNat)
  case atStart => exact ⟨0, rfl, rfl, by omega, by simpa using h0, hgw⟩
  case round =>
    obtain ⟨j, rfl, rfl, hj, hJj, hgj⟩ := hrel
    have hc := cell _ hgj
    by_cases hlt : j < 12
    · have d : decide ((j : Int) + 1 ≤ 12) = true := decide_eq_true (by omega)
      obtain ⟨fn, tmps, assign, body, hy, hR⟩ := hY ((monthsL y).take j) ((j : Int) + 1, cumI y j) wr hJj (by simp [monthsL]; omega)
      gi_wp2
      refine hR.mono ?_
      rintro e W3 (⟨rfl, hJ3, hg3⟩ | ⟨rfl, hJx3⟩)
      · have hg4 := hg3 hgj
        have hc3 := cell _ hg4
        gi_wp2
        have hlen := c_length y ((j : Int) + 1) []
        have e1 : lengthI y ((j : Int) + 1) = (lenI y ((j : Int) + 1), 0) := if_pos (by omega)
        rw [e1] at hlen
        refine ⟨trivial, callsIn_wide.2 ((flat_call hlen hg4 (vs := #[.int .i64 y, .int .i64 ((j : Int) + 1)]) (fun G => .cons (.int _ _) (.cons (.int _ _) .nil))).mono ?_)⟩
        rintro e W4 ⟨c, rfl, ⟨G2, hr2⟩, hg5, hgr⟩
        obtain ⟨vs2, rfl, hvs⟩ := hr2.tup_inv
        have hJ4 := hJ _ _ _ _ hJ3 hgr (by simp)
        obtain ⟨vl⟩ := vs2
        simp only at hvs
        cases hvs with
        | cons h1 h2 =>
          cases h1
          cases h2 with
          | cons h3 h4 =>
            cases h3
            cases h4
            have hlb := len_bounds y ((j : Int) + 1)
            have hcm := cum_mono y (show j ≤ 12 by omega)
            have hc0 := cum_mono y (Nat.zero_le j)
            have hc12 := cum12 y
            have hcz : cumI y 0 = 0 := rfl
            have hlpc := lp_cases y
            gi_wp2
            go_roundw
            case rel =>
              exact ⟨j + 1, by congr 1, by rw [cum_step], by omega, by rw [monthsL_take hlt]; exact hJ4, hg5⟩
            case measure => simp [intOf]; omega
      · gi_wp2
        refine bodyPost_ret (results_none rfl _ _ _) rfl ?_
        exact ⟨⟨_, rfl⟩, .inr ⟨_, trivial, hJx3⟩⟩
    · have d : decide ((j : Int) + 1 ≤ 12) = false := decide_eq_false (by omega)
      have hj' : j = 12 := by omega
      subst hj'
      gi_wp2
      go_end0
      refine ⟨⟨_, rfl⟩, .inl ⟨_, rfl, ?_⟩⟩
      rw [List.take_of_length_le (by simp [monthsL])] at hJj
      exact hJj

end Go.Proofs
