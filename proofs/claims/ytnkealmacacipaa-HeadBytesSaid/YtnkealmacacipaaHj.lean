/-
  The iterator over the words of a slice of bytes.
-/
import Derived.Test.YtnkealmacacipaaHi
namespace Go.Proofs
open Go.Pa Go.RowKit Go.Shelf
attribute [local go_sem] Oper.semAt_some

theorem iter_bytes (a : List Int) (id : Nat) (hb : U8s a) (ha : a.length < 140737488351233) :
    IterC Try.prog 61 [.ptr id 0] (fun s => s[id]? = some (.box [.ints .u8 a])) (fun x : Int => #[.int .u64 x]) (wordsI a) := by
  refine ⟨Try.call61, fun G σ w hs hw hn hk hcs l J Jx W hB hJ hJx hY h0 => ?_⟩
  obtain ⟨b, n, hho, rfl⟩ : ∃ b n, G.obj[id]? = some (b, n) ∧ hs = #[.pointer (some ⟨b, 0, none⟩)] := by
    obtain ⟨hl⟩ := hs
    simp only at hcs
    cases hcs with
    | cons h1 h2 =>
      cases h2
      obtain ⟨b, n, rfl, ho⟩ := ptr_inv h1
      exact ⟨b, n, ho, rfl⟩
  have cell : ∀ W, GoodW G w.heap.size (fun s => s[id]? = some (.box [.ints .u8 a])) W → ∃ (q : Option Addr) (cap : Nat), W.cell? ⟨b, 0, none⟩ = some (.slice q a.length cap) ∧
      ∀ (i : Nat) x, a[i]? = some x → ∃ b' o, q = some ⟨b', o, none⟩ ∧ ∀ (i : Nat) x, a[i]? = some x → W.cell? ⟨b', o + i, none⟩ = some (.int .u8 x) := by
    intro W hg
    obtain ⟨c, G', σ', h1, _, h3, h4⟩ := goodW_box hg hho
    cases h4 with
    | ints0 _ q cap => exact ⟨q, cap, h1, fun i x hx => by simp at hx⟩
    | ints _ _ b' o cap hc hm => exact ⟨_, cap, h1, fun i x _ => ⟨b', o, rfl, fun i x hx => (h3.imm _ _ _ (hm i x hx)).1⟩⟩
  have hgw := goodW_start (Keep := fun s => s[id]? = some (.box [.ints .u8 a])) hw hn hk hB
  obtain ⟨q0, cap0, hs2, _⟩ := cell _ hgw
  refine callsIn_of_wp Try.func61 rfl trivial ?_ rfl
  simp only [Try.ntmps61, List.size_toArray, List.length_cons, List.length_nil, Nat.reduceAdd, Nat.reduceSub, Array.replicate_succ, Array.replicate_zero, List.push_toArray, List.append_toArray, List.nil_append, List.cons_append]
  gi_wp2
  gi_loopw [3] (fun p wr => ∃ j : Nat, p = .int .i64 ((8 * j : Nat) : Int) ∧ j ≤ (wordsI a).length ∧ J ((wordsI a).take j) wr ∧ GoodW G w.heap.size (fun s => s[id]? = some (.box [.ints .u8 a])) wr)
    (fun p _ => 8 * (wordsI a).length - (intOf p).toNat)
  case atStart => exact ⟨0, rfl, by omega, by simpa using h0, hgw⟩
  case round =>
    obtain ⟨j, rfl, hj, hJj, hgj⟩ := hrel
    obtain ⟨q, cap, hc, hq⟩ := cell _ hgj
    have hjlt : (8 * j < a.length) → j < (wordsI a).length := fun h => by rw [wordsI_length]; omega
    have hword : ∀ d, d ≤ 8 → a.length - 8 * j ≤ d ∨ d = 8 → leI ((a.drop (8 * j)).take d) = wordAt a j := fun d h1 h2 => by
      unfold wordAt; congr 1
      rw [List.take_eq_take_iff, List.length_drop]; omega
    have hY' : 8 * j < a.length → YieldAt Fence.wide (3 - 1) Try.prog l #[Value.int IntKind.u64 (wordAt a j)] wr fun e W' =>
          (e = Ending.returned (Value.bool true) ∧ J ((wordsI a).take (j + 1)) W' ∧ GoodW G w.heap.size (fun s => s[id]? = some (AObj.box [AV.ints IntKind.u8 a])) W') ∨
            (e = Ending.returned (Value.bool false) ∧ Jx ((wordsI a).take (j + 1)) W') := fun h => by
      have h1 := hjlt h
      have hget : (wordsI a).take (j + 1) = (wordsI a).take j ++ [wordAt a j] := by
        rw [List.take_add_one, List.getElem?_eq_getElem h1]; simp [wordsI]
      rw [hget]
      obtain ⟨fn, tmps, assign, body, hy, hR⟩ := hY ((wordsI a).take j) (wordAt a j) wr hJj (by rw [List.length_take]; omega)
      refine ⟨fn, tmps, assign, body, hy, hR.mono ?_⟩
      rintro e W' (⟨q1, q2, q3⟩ | ⟨q1, q2⟩)
      · exact .inl ⟨q1, q2, q3 hgj⟩
      · exact .inr ⟨q1, q2⟩
    gi_wp2
    · have hltj : (8 * (j : Int) < a.length) := by assumption
      simp only [hltj, decide_true]
      obtain ⟨b', o, rfl, hcells⟩ := hq (8 * j) _ (List.getElem?_eq_getElem (by omega))
      gi_loopw [5, 4] (fun k acc wr' => wr' = wr ∧ ∃ d : Nat, k = .int .i64 ((8 * j + d : Nat) : Int) ∧ d ≤ min (8 * j + 8) a.length - 8 * j ∧ acc = .int .u64 (leI ((a.drop (8 * j)).take d)))
        (fun k _ _ => a.length - (intOf k).toNat)
      case atStart => exact ⟨rfl, 0, rfl, by omega, rfl⟩
      case round =>
        obtain ⟨rfl, d, rfl, hd, rfl⟩ := hrel
        obtain ⟨fn, tmps, assign, body, hy, hR⟩ := hY' (by omega)
        have hw1 : min (8 * j + 8) a.length - 8 * j ≤ d → leI ((a.drop (8 * j)).take d) = wordAt a j := fun h => hword d (by omega) (by omega)
        by_cases hend : min (8 * j + 8) a.length - 8 * j ≤ d
        · rw [hw1 hend]
          gi_wp2
          all_goals
            refine hR.mono ?_
            rintro e W3 (⟨rfl, hJ3, hg3⟩ | ⟨rfl, hJx3⟩)
            · gi_wp2
              go_roundw
              case rel => exact ⟨j + 1, by congr 1, hjlt (by omega), hJ3, hg3⟩
              case measure => simp [intOf]; omega
            · gi_wp2
              refine bodyPost_ret (results_none rfl _ _ _) rfl ?_
              exact ⟨⟨_, rfl⟩, .inr ⟨_, trivial, hJx3⟩⟩
        · have hlt : 8 * j + d < a.length := by omega
          obtain ⟨x, hx⟩ : ∃ x, a[8 * j + d]? = some x := ⟨_, List.getElem?_eq_getElem hlt⟩
          have hcx := hcells _ x hx
          gi_wp2
          all_goals
            go_roundw
            case rel =>
              exact ⟨trivial, d + 1, by congr 1, by omega, by congr 1; exact word_step a hb (by omega) (by omega) (List.getElem?_eq_getElem hlt)⟩
            case measure => simp [intOf]; omega
    · go_end0
      refine ⟨⟨_, rfl⟩, .inl ⟨_, rfl, ?_⟩⟩
      rw [List.take_of_length_le (by rw [wordsI_length] at hj ⊢; omega)] at hJj
      exact hJj
end Go.Proofs
