/-
  Plain laws of heads: who signed, what was changed.
-/
import Derived.Test.YtnkealmacacipaaGf
namespace Go.Proofs
open Go.Pa
set_option linter.unusedSimpArgs false

theorem sumR_in (a l : List Int) : In64 (sumR a l) := by rw [sumR_eq]; exact mixR_in _ _

theorem key_inj {x y : Int} (hx : In64 x) (hy : In64 y) : keyI x = keyI y ↔ x = y := by
  refine ⟨fun h => ?_, fun h => by rw [h]⟩
  have h1 := (sum_one [107, 101, 121] [IntKind.i64.wrap x] (k := 0) (v := IntKind.i64.wrap y) (by simp)).1 h
  simp only [List.getElem_cons_zero] at h1
  rw [B64_wrapI, B64_wrapI] at h1
  exact B64_inj hx hy h1

theorem sig_inj {k l : Int} (h : Hd) (hk : In64 k) (hl : In64 l) : sigI k h = sigI l h ↔ k = l := by
  refine ⟨fun e => ?_, fun e => by rw [e]⟩
  have h1 := (sum_one [115, 105, 103, 110] [IntKind.i64.wrap k, h.o, h.t, h.d, h.s, IntKind.i64.wrap h.l, IntKind.i64.wrap h.m, h.e] (k := 0) (v := IntKind.i64.wrap l) (by simp)).1 e
  simp only [List.getElem_cons_zero] at h1
  rw [B64_wrapI, B64_wrapI] at h1
  exact B64_inj hk hl h1

theorem check_key {k x : Int} {h : Hd} (ho : okI h = true) (hk : In64 k) : checkI k (signI x h) = 0 ↔ k = keyI x := by
  unfold checkI
  rw [ok_sign, if_pos ho, sig_sign]
  have hg : (signI x h).g = sigI (keyI x) h := rfl
  rw [hg]
  constructor
  · intro e
    split at e
    · rename_i e2; exact ((sig_inj h (sumR_in _ _) hk).1 e2).symm
    · cases e
  · rintro rfl
    rw [if_pos rfl]

theorem check_zero {k : Int} {h : Hd} : checkI k h = 0 ↔ okI h = true ∧ h.g = sigI k h := by
  unfold checkI
  constructor
  · intro e
    split at e
    · rename_i h1
      split at e
      · rename_i h2; exact ⟨h1, h2⟩
      · cases e
    · cases e
  · rintro ⟨h1, h2⟩
    rw [if_pos h1, if_pos h2]

theorem ok_iff {h : Hd} : okI h = true ↔ 0 ≤ h.o ∧ h.o ≤ 11 ∧ 0 ≤ h.t ∧ h.t ≤ 1099511627776 ∧ 0 ≤ h.d ∧ h.d ≤ 131072 ∧ 0 ≤ h.s ∧ h.s ≤ 4096 ∧ 0 ≤ h.e ∧ h.e ≤ h.s := by
  unfold okI
  rw [decide_eq_true_eq]

/-- **A signed head with one field changed is accepted only if it is the same.** -/
theorem check_bent {k j v : Int} {S : Hd} (hj : 0 ≤ j ∧ j < 8) (hS : checkI k S = 0) (hl : In64 S.l) (hm : In64 S.m) : checkI k (bentK S j v) = 0 ↔ bentK S j v = S := by
  obtain ⟨h1, h2⟩ := check_zero.1 hS
  refine ⟨fun h => ?_, fun h => by rw [h]; exact hS⟩
  obtain ⟨h3, h4⟩ := check_zero.1 h
  have o1 := ok_iff.1 h1
  have key := fun (p : Nat) (w : Int) (hp : p < 8) => sum_one [115, 105, 103, 110] [IntKind.i64.wrap k, S.o, S.t, S.d, S.s, IntKind.i64.wrap S.l, IntKind.i64.wrap S.m, S.e] (k := p) (v := w) hp
  have hc : j = 0 ∨ j = 1 ∨ j = 2 ∨ j = 3 ∨ j = 4 ∨ j = 5 ∨ j = 6 ∨ j = 7 := by omega
  rcases hc with rfl | rfl | rfl | rfl | rfl | rfl | rfl | rfl
  · have e : bentK S 0 v = { S with o := v } := rfl
    rw [e] at h3 h4 ⊢
    have o2 := ok_iff.1 h3
    have q : sigI k S = sigI k { S with o := v } := by rw [← h2]; exact h4
    simp only at o2
    have q2 : B64 S.o = B64 v := (key 1 v (by omega)).1 q
    have q3 : S.o = v := B64_inj ⟨by omega, by omega⟩ ⟨by omega, by omega⟩ q2
    rw [← q3]
  · have e : bentK S 1 v = { S with t := v } := rfl
    rw [e] at h3 h4 ⊢
    have o2 := ok_iff.1 h3
    have q : sigI k S = sigI k { S with t := v } := by rw [← h2]; exact h4
    simp only at o2
    have q2 : B64 S.t = B64 v := (key 2 v (by omega)).1 q
    have q3 : S.t = v := B64_inj ⟨by omega, by omega⟩ ⟨by omega, by omega⟩ q2
    rw [← q3]
  · have e : bentK S 2 v = { S with d := v } := rfl
    rw [e] at h3 h4 ⊢
    have o2 := ok_iff.1 h3
    have q : sigI k S = sigI k { S with d := v } := by rw [← h2]; exact h4
    simp only at o2
    have q2 : B64 S.d = B64 v := (key 3 v (by omega)).1 q
    have q3 : S.d = v := B64_inj ⟨by omega, by omega⟩ ⟨by omega, by omega⟩ q2
    rw [← q3]
  · have e : bentK S 3 v = { S with s := v } := rfl
    rw [e] at h3 h4 ⊢
    have o2 := ok_iff.1 h3
    have q : sigI k S = sigI k { S with s := v } := by rw [← h2]; exact h4
    simp only at o2
    have q2 : B64 S.s = B64 v := (key 4 v (by omega)).1 q
    have q3 : S.s = v := B64_inj ⟨by omega, by omega⟩ ⟨by omega, by omega⟩ q2
    rw [← q3]
  · have e : bentK S 4 v = { S with l := IntKind.u64.wrap v } := rfl
    rw [e] at h3 h4 ⊢
    have q : sigI k S = sigI k { S with l := IntKind.u64.wrap v } := by rw [← h2]; exact h4
    have := (key 5 (IntKind.i64.wrap (IntKind.u64.wrap v)) (by omega)).1 q
    simp only [List.getElem_cons_succ, List.getElem_cons_zero] at this
    rw [B64_wrapI, B64_wrapI] at this
    rw [← B64_inj hl (wrap_u64_bound v) this]
  · have e : bentK S 5 v = { S with m := IntKind.u64.wrap v } := rfl
    rw [e] at h3 h4 ⊢
    have q : sigI k S = sigI k { S with m := IntKind.u64.wrap v } := by rw [← h2]; exact h4
    have := (key 6 (IntKind.i64.wrap (IntKind.u64.wrap v)) (by omega)).1 q
    simp only [List.getElem_cons_succ, List.getElem_cons_zero] at this
    rw [B64_wrapI, B64_wrapI] at this
    rw [← B64_inj hm (wrap_u64_bound v) this]
  · have e : bentK S 6 v = { S with e := v } := rfl
    rw [e] at h3 h4 ⊢
    have o2 := ok_iff.1 h3
    have q : sigI k S = sigI k { S with e := v } := by rw [← h2]; exact h4
    simp only at o2
    have q2 : B64 S.e = B64 v := (key 7 v (by omega)).1 q
    have q3 : S.e = v := B64_inj ⟨by omega, by omega⟩ ⟨by omega, by omega⟩ q2
    rw [← q3]
  · have e : bentK S 7 v = { S with g := IntKind.u64.wrap v } := rfl
    rw [e] at h4 ⊢
    have q : IntKind.u64.wrap v = S.g := by rw [h2]; exact h4
    rw [q]

theorem someI_in {n : Int} (hn : Okk .i64 n) : In64 (someI n).l ∧ In64 (someI n).m := by
  have hk := aroundI_bound hn (m := 1048576) (by omega)
  unfold someI someK In64
  generalize aroundI n 1048576 = k at hk
  simp only
  omega

theorem hd_eq (a b : Hd) : (decide (a.o = b.o) && (decide (a.t = b.t) && (decide (a.d = b.d) && (decide (a.s = b.s) && (decide (a.l = b.l) && (decide (a.m = b.m) && (decide (a.e = b.e) && decide (a.g = b.g)))))))) = decide (a = b) := by
  cases a; cases b
  simp [Hd.mk.injEq, Bool.decide_and]

end Go.Proofs
