/-
  The log of hashes: LogtreeSound; contract of the law.
-/
import Derived.Test.YthcbnjmmeejcjaaLn
import Derived.Test.YthcbnjmmeejcjaaLi
import Derived.Test.YthcbnjmmeejcjaaLp
namespace Go.Proofs
open Go.Pa
set_option linter.unusedSectionVars false
set_option linter.unusedSimpArgs false
set_option linter.unusedVariables false
set_option maxRecDepth 20000
set_option maxHeartbeats 4000000

theorem check_eval {root h : Int} {i n : Nat} {p : List Int} (h1 : 1 ≤ n) (h2 : n ≤ 65536) (h3 : i < n) : checkI32 root i n h p = if (climbR 0 h i n p.reverse).2 = true ∧ (climbR 0 h i n p.reverse).1 = root then 0 else 10 := by
  unfold checkI32
  rw [if_pos (by omega), Int.toNat_natCast, Int.toNat_natCast]

theorem link_eval {f t : Int} {a b : Nat} {p : List Int} (h1 : 1 ≤ a) (h2 : a ≤ b) (h3 : b ≤ 65536) : linkE f t a b p = if (bothR false f a b true p.reverse).2.2 = true ∧ (bothR false f a b true p.reverse).1 = f ∧ (bothR false f a b true p.reverse).2.1 = t then 0 else 10 := by
  unfold linkE
  rw [if_pos (by omega), if_neg (by omega), Int.toNat_natCast, Int.toNat_natCast]

section
variable {x : List Int} {i : Nat} (hx : AllIn x) (hl : x.length ≤ 65536) (hi : i < x.length)
include hx hl hi

theorem s_entry {o : Int} (ho : In64 o) (hne : o ≠ x.getD i 0) : checkI32 (rootI x) i x.length o (pathI x i) = 10 := by
  rw [check_eval (by omega) hl hi]
  have hc := climb_path 0 x.length x i (Nat.le_refl _) hi
  have := climb_h in_zero (allIn_getD hx i) ho (Ne.symm hne) (pathI x i).reverse i x.length (by rw [hc])
  rw [hc] at this
  rw [if_neg (fun h => this h.2.symm)]

omit hx in
theorem s_root {o : Int} (hne : o ≠ rootI x) : checkI32 o i x.length (x.getD i 0) (pathI x i) = 10 := by
  rw [check_eval (by omega) hl hi, climb_path 0 x.length x i (Nat.le_refl _) hi]
  rw [if_neg (fun h => hne h.2.symm)]

theorem s_path {k : Nat} (hk : k < (pathI x i).length) {v : Int} (hv : In64 v) (hne : (pathI x i).getD k 0 ≠ v) : checkI32 (rootI x) i x.length (x.getD i 0) ((pathI x i).set k v) = 10 := by
  rw [check_eval (by omega) hl hi, rev_set _ hk]
  have hc := climb_path 0 x.length x i (Nat.le_refl _) hi
  have hin := path_in x.length x i (Nat.le_refl _)
  generalize pathI x i = p at *
  have hk' : p.length - 1 - k < p.reverse.length := by simp; omega
  have hg : p.reverse[p.length - 1 - k] = p[k] := by rw [List.getElem_reverse]; congr 1; omega
  rw [getD_get hk] at hne
  have := climb_q in_zero p.reverse (p.length - 1 - k) i x.length v hk' (by rw [hg]; exact hin _ (List.getElem_mem hk)) hv (by rw [hg]; exact hne) (h := x.getD i 0) (by rw [hc])
  rw [hc] at this
  rw [if_neg (fun h => this h.2)]
end

section
variable {x : List Int} {a : Nat} (hl : x.length ≤ 65536) (h1 : 1 ≤ a) (h2 : a ≤ x.length)
include hl h1 h2

theorem s_old {o : Int} (ho : In64 o) (hne : o ≠ rootI (x.take a)) : linkE o (rootI x) a x.length (linkI x a true) = 10 := by
  rw [link_eval h1 h2 hl]
  have hc := both_link false (rootI (x.take a)) x.length x a true (Nat.le_refl _) h1 h2 (fun _ => rfl)
  have hq : AllIn (linkI x a true).reverse := fun y hy => link_in x.length x a true (Nat.le_refl _) y (List.mem_reverse.1 hy)
  have := both_f false (root_in (x.take a)) ho (Ne.symm hne) (linkI x a true).reverse a x.length hq (by rw [hc])
  rw [hc] at this
  rcases this with ⟨_, q2, q3⟩ | h
  · rw [if_neg (fun h => q3 h.2.2.symm)]
  · rw [← h, if_neg (fun h => hne h.2.1.symm)]

theorem s_new {o : Int} (hne : o ≠ rootI x) : linkE (rootI (x.take a)) o a x.length (linkI x a true) = 10 := by
  rw [link_eval h1 h2 hl, both_link false (rootI (x.take a)) x.length x a true (Nat.le_refl _) h1 h2 (fun _ => rfl)]
  rw [if_neg (fun h => hne h.2.2.symm)]

theorem s_link {k : Nat} (hk : k < (linkI x a true).length) {v : Int} (hv : In64 v) (hne : (linkI x a true).getD k 0 ≠ v) : linkE (rootI (x.take a)) (rootI x) a x.length ((linkI x a true).set k v) = 10 := by
  rw [link_eval h1 h2 hl, rev_set _ hk]
  have hc := both_link false (rootI (x.take a)) x.length x a true (Nat.le_refl _) h1 h2 (fun _ => rfl)
  have hin := link_in x.length x a true (Nat.le_refl _)
  generalize linkI x a true = p at *
  have hk' : p.length - 1 - k < p.reverse.length := by simp; omega
  have hg : p.reverse[p.length - 1 - k] = p[k] := by rw [List.getElem_reverse]; congr 1; omega
  rw [getD_get hk] at hne
  have hq : AllIn p.reverse := fun y hy => hin y (List.mem_reverse.1 hy)
  have := both_q false (root_in (x.take a)) p.reverse (p.length - 1 - k) a x.length true v hq hk' hv (by rw [hg]; exact hne) (by rw [hc])
  rw [hc] at this
  rw [if_neg (fun h => this h.2.2)]
end

theorem other_one {p a : Int} (hp : In64 p) (h0 : 0 ≤ a) (h1 : a < 1073741824) : In64 (IntKind.u64.wrap (IntKind.u64.wrap (p + 1) + IntKind.u64.wrap a)) ∧ p ≠ IntKind.u64.wrap (IntKind.u64.wrap (p + 1) + IntKind.u64.wrap a) := by
  simp only [IntKind.wrap, IntKind.bits, IntKind.signed, Bool.false_and, Bool.false_eq_true, if_false]
  omega

theorem ent_in (l : List Int) (m : Nat) : AllIn ((l.take m).map IntKind.u64.wrap) := by
  intro y hy
  obtain ⟨z, _, rfl⟩ := List.mem_map.1 hy
  exact wrap_u64_bound z

end Go.Proofs
