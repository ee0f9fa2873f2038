/-
  The iterator over the words of a string.
-/
import Derived.Test.YtdioiegkpkjmkaaHa
import Derived.Test.YtdioiegkpkjmkaaAbsAll
import Derived.RangeFuncNested
import Derived.RangeFuncBound
import Derived.Shelf.Abstract
import Derived.Shelf.RegionOpen
import Derived.OwnWalkIn
import Derived.TacticsInMore
import Derived.LoopNIn
namespace Go.Proofs
open Go.Pa Go.RowKit Go.Shelf
attribute [local go_sem] Oper.semAt_some
theorem leI_snoc (x : Int) : ∀ l : List Int, leI (l ++ [x]) = leI l + 256 ^ l.length * x
  | [] => by simp [leI]
  | y :: l => by
    simp only [List.cons_append, leI, leI_snoc x l, List.length_cons, Int.pow_succ]
    have : 256 * (256 ^ l.length * x) = 256 ^ l.length * 256 * x := by rw [← Int.mul_assoc, Int.mul_comm 256]
    omega

theorem word_step (a : List Int) (hb : U8s a) {j d : Nat} (h : 8 * j + d < a.length) (hd : d < 8) {x : Int} (hx : a[8 * j + d]? = some x) :
    bits BinOp.or IntKind.u64 (leI ((a.drop (8 * j)).take d)) (IntKind.u64.wrap (IntKind.u64.wrap x * 2 ^ (8 * d))) = leI ((a.drop (8 * j)).take (d + 1)) := by
  have hxm : x ∈ a := List.mem_of_getElem? hx
  have hx8 := hb x hxm
  have hlen : ((a.drop (8 * j)).take d).length = d := by rw [List.length_take, List.length_drop]; omega
  have hbd := leI_bound _ (U8s_part hb (8 * j) d)
  have hbd2 := leI_small (U8s_part hb (8 * j) (d + 1)) (by rw [List.length_take]; omega)
  have hsn : leI ((a.drop (8 * j)).take (d + 1)) = leI ((a.drop (8 * j)).take d) + 256 ^ d * x := by
    rw [List.take_add_one, List.getElem?_drop, hx, Option.toList_some, leI_snoc, hlen]
  rw [hlen] at hbd
  have hp : (256 : Int) ^ d = 2 ^ (8 * d) := by rw [Int.pow_mul]; rfl
  rw [hp] at hbd hsn
  rw [hsn] at hbd2 ⊢
  rw [Int.mul_comm (2 ^ (8 * d)) x] at hbd2 ⊢
  have hnn : 0 ≤ x * 2 ^ (8 * d) := Int.mul_nonneg hx8.1 (Int.le_of_lt (Int.pow_pos (by decide)))
  rw [wrap_u64 (n := x) (by omega) (by omega), wrap_u64 (n := x * 2 ^ (8 * d)) hnn (by omega)]
  have := ior_add (x := leI ((a.drop (8 * j)).take d)) (y := x) (e := 8 * d) hbd.1 hbd.2 hx8.1 (by omega)
  rw [Int.add_comm]
  exact this

theorem iter_str (a : List Int) (id : Nat) (hb : U8s a) (ha : a.length < 140737488351233) :
    IterC Try.prog 58 [.ptr id 0] (fun s => s[id]? = some (.box [.str a])) (fun x : Int => #[.int .u64 x]) (wordsI a) := by
  refine ⟨Try.call58, fun G σ w hs hw hn hk hcs l J Jx W hB hJ hJx hY h0 => ?_⟩
  obtain ⟨b, n, hho, rfl⟩ : ∃ b n, G.obj[id]? = some (b, n) ∧ hs = #[.pointer (some ⟨b, 0, none⟩)] := by
    obtain ⟨hl⟩ := hs
    simp only at hcs
    cases hcs with
    | cons h1 h2 =>
      cases h2
      obtain ⟨b, n, rfl, ho⟩ := ptr_inv h1
      exact ⟨b, n, ho, rfl⟩
  have cell0 : ∀ W, GoodW G w.heap.size (fun s => s[id]? = some (.box [.str a])) W → ∃ s : ByteArray, s.data.toList.map (fun b => (b.toNat : Int)) = a ∧ W.cell? ⟨b, 0, none⟩ = some (.string s) := by
    intro W hg
    obtain ⟨c, G', σ', h1, _, _, h4⟩ := goodW_box hg hho
    cases h4 with
    | str _ s h => exact ⟨s, h, h1⟩
  have hgw := goodW_start (Keep := fun s => s[id]? = some (.box [.str a])) hw hn hk hB
  obtain ⟨s, hs1, hs2⟩ := cell0 _ hgw
  have cell : ∀ W, GoodW G w.heap.size (fun s => s[id]? = some (.box [.str a])) W → W.cell? ⟨b, 0, none⟩ = some (.string s) := by
    intro W hg
    obtain ⟨s', q1, q2⟩ := cell0 W hg
    rw [q2, bytes_eq_of_map (q1.trans hs1.symm)]
  have hlen : s.size = a.length := by rw [← hs1]; simp
  refine callsIn_of_wp Try.func58 rfl trivial ?_ rfl
  simp only [Try.ntmps58, List.size_toArray, List.length_cons, List.length_nil, Nat.reduceAdd, Nat.reduceSub, Array.replicate_succ, Array.replicate_zero, List.push_toArray, List.append_toArray, List.nil_append, List.cons_append]
  gi_wp2
  gi_loopw [3] (fun p wr => ∃ j : Nat, p = .int .i64 ((8 * j : Nat) : Int) ∧ j ≤ (wordsI a).length ∧ J ((wordsI a).take j) wr ∧ GoodW G w.heap.size (fun s => s[id]? = some (.box [.str a])) wr)
    (fun p _ => 8 * (wordsI a).length - (intOf p).toNat)
  case atStart => exact ⟨0, rfl, by omega, by simpa using h0, hgw⟩
  case round =>
    obtain ⟨j, rfl, hj, hJj, hgj⟩ := hrel
    have hc := cell _ hgj
    have hjlt : (8 * j < a.length) → j < (wordsI a).length := fun h => by rw [wordsI_length]; omega
    have hword : ∀ d, d ≤ 8 → a.length - 8 * j ≤ d ∨ d = 8 → leI ((a.drop (8 * j)).take d) = wordAt a j := fun d h1 h2 => by
      unfold wordAt; congr 1
      rw [List.take_eq_take_iff, List.length_drop]; omega
    have hY' : 8 * j < a.length → YieldAt Fence.wide (3 - 1) Try.prog l #[Value.int IntKind.u64 (wordAt a j)] wr fun e W' =>
          (e = Ending.returned (Value.bool true) ∧ J ((wordsI a).take (j + 1)) W' ∧ GoodW G w.heap.size (fun s => s[id]? = some (AObj.box [AV.str a])) W') ∨
            (e = Ending.returned (Value.bool false) ∧ Jx ((wordsI a).take (j + 1)) W') := fun h => by
      have h1 := hjlt h
      have hget : (wordsI a).take (j + 1) = (wordsI a).take j ++ [wordAt a j] := by
        rw [List.take_add_one, List.getElem?_eq_getElem h1]; simp [wordsI]
      rw [hget]
      obtain ⟨fn, tmps, assign, body, hy, hR⟩ := hY ((wordsI a).take j) (wordAt a j) wr hJj (by rw [List.length_take]; omega)
      refine ⟨fn, tmps, assign, body, hy, hR.mono ?_⟩
      rintro e W' (⟨q1, q2, q3⟩ | ⟨q1, q2⟩)
      · exact .inl ⟨q1, q2, q3 hgj⟩
      · exact .inr ⟨q1, q2⟩
    gi_wp2
    · have hltj : (8 * (j : Int) < a.length) := by assumption
      simp only [hltj, decide_true]
      gi_loopw [5, 4] (fun k acc wr' => wr' = wr ∧ ∃ d : Nat, k = .int .i64 ((8 * j + d : Nat) : Int) ∧ d ≤ min (8 * j + 8) a.length - 8 * j ∧ acc = .int .u64 (leI ((a.drop (8 * j)).take d)))
        (fun k _ _ => a.length - (intOf k).toNat)
      case atStart => exact ⟨rfl, 0, rfl, by omega, rfl⟩
      case round =>
        obtain ⟨rfl, d, rfl, hd, rfl⟩ := hrel
        obtain ⟨fn, tmps, assign, body, hy, hR⟩ := hY' (by omega)
        have hw1 : min (8 * j + 8) a.length - 8 * j ≤ d → leI ((a.drop (8 * j)).take d) = wordAt a j := fun h => hword d (by omega) (by omega)
        by_cases hend : min (8 * j + 8) a.length - 8 * j ≤ d
        · rw [hw1 hend]
          gi_wp2
          all_goals
            refine hR.mono ?_
            rintro e W3 (⟨rfl, hJ3, hg3⟩ | ⟨rfl, hJx3⟩)
            · gi_wp2
              go_roundw
              case rel => exact ⟨j + 1, by congr 1, hjlt (by omega), hJ3, hg3⟩
              case measure => simp [intOf]; omega
            · gi_wp2
              refine bodyPost_ret (results_none rfl _ _ _) rfl ?_
              exact ⟨⟨_, rfl⟩, .inr ⟨_, trivial, hJx3⟩⟩
        · have hsx : ∀ h : 8 * j + d < s.size, a[8 * j + d]? = some ((s[8 * j + d].toNat : Nat) : Int) := fun h => by
            rw [← hs1, List.getElem?_map]
            have h2 : 8 * j + d < s.data.toList.length := by simpa using h
            rw [List.getElem?_eq_getElem h2]
            rfl
          gi_wp2
          all_goals
            go_roundw
            case rel =>
              repeat apply Exists.intro
              refine ⟨?_, rfl⟩
              exact ⟨trivial, d + 1, by congr 1, by omega, by congr 1; exact word_step a hb (by omega) (by omega) (hsx (by omega))⟩
            case measure => simp [intOf]; omega
    · go_end0
      refine ⟨⟨_, rfl⟩, .inl ⟨_, rfl, ?_⟩⟩
      rw [List.take_of_length_le (by rw [wordsI_length] at hj ⊢; omega)] at hJj
      exact hJj
end Go.Proofs
