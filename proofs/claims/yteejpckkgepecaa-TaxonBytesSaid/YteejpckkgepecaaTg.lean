/-
  Taxonomies: fill; contract.
-/
import Derived.Test.YteejpckkgepecaaTf
namespace Go.Proofs
open Go.Pa
open Go.Pa renaming VB0 → Q0, VB1 → Q1, VB2 → Q2, VB3 → Q3, VB4 → Q4, VB5 → Q5, VB6 → Q6, VB7 → Q7, VB8 → Q8, VB9 → Q9, condV_bool → Qa, guardV_bool → Qb, vcS → Qc, evA → Qd, evBin → Qe, nilA → Qf, nilOf → Qg, intOp → Qh, strOp → Qi, evUn → Qj, evConv → Qk, evField → Ql, evFieldAddr → Qm, evIndexAddr → Qn, evIndex → Qo, evIndexA → Qp, bnd → Qq, evSlice → Qr, evLen → Qs, evPick → Qt, evExtract → Qu, evNilCheck → Qv, evMin → Qw, evMax → Qx, evLoadI → Qy, partsOne → QA, intsOf → QB, rowsAV → QC, evBuildSlice → QD, evBuild → QE, fillA → QF, splice → QG, evBuiltin → QH, guardD_bool → QI, dOp → QJ, cl → QK, vcLoad → QL, vcStore → QM, vcMake → QN, convA → QO, evIndexArr → QP, retA → QQ, ressA → QR, resA → QS, envOf → QT, condR_bool → QX, asgEnv → QY, parEnv → QZ, dstAt → XI, vcLook → XT, vcPut → XU, vcEnt → XV, vcESt → XW, vcMLen → XX, vcDel → XY, vcClear → XZ, vcLookD → Y0
open Go.Pa.AV renaming cell → Qz
open Go.Pa.Env renaming put → QU
open List renaming set_cons_zero → QV, set_cons_succ → QW, foldl_cons → X0, foldl_nil → X1, map_cons → X2, map_nil → X3, toList_toArray → X4, getElem?_cons_zero → X5, getElem?_cons_succ → X6, nil_append → Xa, append_nil → Xb, cons_append → Xc, singleton_append → Xd, length_cons → Xe, length_nil → Xf, all_cons → Xg, all_nil → Xh, take_succ_cons → Xi, take_zero → Xj, take_nil → Xk, drop_zero → Xl, drop_succ_cons → Xm, drop_nil → Xn, contains_nil → Xo, contains_cons → Xp
open Option renaming bind_some → X7, map_some → X8, map_none → X9
open Bool renaming or_false → Xq, false_or → Xr, or_true → Xs, true_or → Xt, false_eq_true → XC, not_true → XD, not_false → XE, and_true → XF, true_and → XG, and_self → XH
open Nat renaming reduceEqDiff → Xu, reduceAdd → Xv, reduceSub → Xw, reduceMul → Xx, reduceLT → Xy, reduceLeDiff → Xz, reduceBNe → XA, reduceBEq → XB, zero_add → XL, add_zero → XM
open UInt8 renaming reduceToNat → XJ
open Int renaming cast_ofNat_Int → XK, reduceToNat → XN, reduceLT → XO, reduceLE → XP, reduceNeg → XQ, reduceEq → XR, reduceNe → XS
set_option linter.unusedSimpArgs false
set_option linter.unusedVariables false
set_option maxRecDepth 20000
set_option maxHeartbeats 2000000

theorem grid_eq {f g : Nat → Bool} (h : ∀ k, k < 4096 → f k = g k) : gridL f = gridL g := by
  unfold gridL
  apply List.map_congr_left
  intro k hk
  rw [h k (List.mem_range.1 hk)]

theorem vinv_start (p : List (List Int)) : VInv p (fun _ => false) (fun _ => false) (fun _ => false) :=
  ⟨fun _ h => (by cases h), fun _ _ _ _ h => (by cases h), fun _ _ _ _ _ => rfl, fun _ _ h => (by cases h), fun _ h => (by cases h), fun _ h => (by cases h)⟩

open Classical in
noncomputable def acyB (p : List (List Int)) : Bool := decide (Acy p)
open Classical in
theorem acyB_iff (p : List (List Int)) : acyB p = true ↔ Acy p := by unfold acyB; exact decide_eq_true_iff

def tmpF (j : Nat) : Nat := if j ≤ 11 then j + 7 else j - 9
theorem tmpF_inj {i j : Nat} (hi : i ≤ 13) (hj : j ≤ 13) (h : tmpF i = tmpF j) : i = j := by
  unfold tmpF at h
  split at h <;> split at h <;> omega
theorem tmpF_ne {j : Nat} (hj : j ≤ 13) : tmpF j ≠ 1 := by
  unfold tmpF
  split <;> omega

def valF (p : List (List Int)) (T D O db ob j : Nat) : AV := match j with
  | 0 => .ptr T 0 | 1 => .ptr T 0 | 2 => .ptr T 0 | 3 => .rows 1 (p.map rowI) | 4 => .int .i64 p.length | 5 => .mvec D 0 p.length 1
  | 6 => .ptr T 0 | 7 => .ptr T 0 | 8 => .ptr T 0 | 9 => .rows 1 (p.map rowI) | 10 => .int .i64 p.length | 11 => .mvec O 0 p.length 1
  | 12 => .ptr db 0 | 13 => .ptr ob 0 | _ => .nils

/-- What is told of the operations that have come. -/
structure FInv (p : List (List Int)) (T m : Nat) (σ1 : Store) (D O db ob : Nat) (L : Nat → Bool) (e : Env) (s : Store) : Prop where
  ext : Ext σ1 s
  t1 : lookA e 1 = .ptr m 0
  val : ∀ j, j ≤ 13 → L j = true → lookA e (tmpF j) = valF p T D O db ob j
  o5 : L 5 = true → σ1.length ≤ D ∧ s[D]? = some (.vecR 1 (bl p.length fun _ => false))
  o11 : L 11 = true → σ1.length ≤ O ∧ s[O]? = some (.vecR 1 (bl p.length fun _ => false))
  ne : L 5 = true → L 11 = true → D ≠ O
  o12 : L 12 = true → σ1.length ≤ db ∧ s[db]? = some (.box [if L 14 = true then .mvec D 0 p.length 1 else .nils])
  o13 : L 13 = true → σ1.length ≤ ob ∧ s[ob]? = some (.box [if L 15 = true then .mvec O 0 p.length 1 else .nils])
  nb : L 12 = true → L 13 = true → db ≠ ob
  a14 : L 14 = true → L 5 = true ∧ L 12 = true
  a15 : L 15 = true → L 11 = true ∧ L 13 = true

section
variable {p : List (List Int)} {T m : Nat} {σ1 : Store} {D O db ob : Nat} {L L' : Nat → Bool} {e : Env} {s : Store}

theorem lookA_ne {e : Env} {t u : Tmp} {v : AV} (h : t ≠ u) : lookA ((t, v) :: e) u = lookA e u := by
  rw [lookA_cons, if_neg h]
theorem lookA_eq {e : Env} {t : Tmp} {v : AV} : lookA ((t, v) :: e) t = v := by
  rw [lookA_cons, if_pos rfl]

theorem FInv.tmp (h : FInv p T m σ1 D O db ob L e s) {i : Nat} (hL : ∀ j, L' j = true ↔ j = i ∨ L j = true) (hi : i ≤ 10) (h5 : i ≠ 5) : FInv p T m σ1 D O db ob L' ((tmpF i, valF p T D O db ob i) :: e) s := by
  have go : ∀ j, 11 ≤ j → (L' j = true ↔ L j = true) := fun j hj => by rw [hL]; constructor <;> intro h <;> first | exact .inr h | (rcases h with h | h <;> first | exact h | omega)
  have g5 : L' 5 = true ↔ L 5 = true := by rw [hL]; constructor <;> intro h <;> first | exact .inr h | (rcases h with h | h <;> first | exact h | omega)
  have e14 : (L' 14 = true) = (L 14 = true) := propext (go 14 (by omega))
  have e15 : (L' 15 = true) = (L 15 = true) := propext (go 15 (by omega))
  refine ⟨h.ext, ?_, fun j hj hl => ?_, fun hl => h.o5 (g5.1 hl), fun hl => h.o11 ((go 11 (by omega)).1 hl), fun h1 h2 => h.ne (g5.1 h1) ((go 11 (by omega)).1 h2), fun hl => ?_, fun hl => ?_, fun h1 h2 => h.nb ((go 12 (by omega)).1 h1) ((go 13 (by omega)).1 h2), fun hl => ?_, fun hl => ?_⟩
  · rw [lookA_ne (tmpF_ne (by omega))]; exact h.t1
  · by_cases hji : j = i
    · subst hji; exact lookA_eq
    · rw [lookA_ne (fun e => hji (tmpF_inj hj (by omega) e.symm))]
      rcases (hL j).1 hl with h1 | h1
      · exact absurd h1 hji
      · exact h.val j hj h1
  · simp only [e14]; exact h.o12 ((go 12 (by omega)).1 hl)
  · simp only [e15]; exact h.o13 ((go 13 (by omega)).1 hl)
  · have := h.a14 ((go 14 (by omega)).1 hl); exact ⟨g5.2 this.1, (go 12 (by omega)).2 this.2⟩
  · have := h.a15 ((go 15 (by omega)).1 hl); exact ⟨(go 11 (by omega)).2 this.1, (go 13 (by omega)).2 this.2⟩
/-- A new object. -/
theorem FInv.new (h : FInv p T m σ1 D O db ob L e s) (x : AObj) : Ext σ1 (s ++ [x]) ∧ σ1.length ≤ s.length ∧ (s ++ [x])[s.length]? = some x ∧ (∀ k y, s[k]? = some y → (s ++ [x])[k]? = some y ∧ k ≠ s.length) :=
  ⟨h.ext.push x, h.ext.len, by simp, fun k y hk => ⟨Ext.app s [x] k y hk, fun e => by have := (List.getElem?_eq_some_iff.1 hk).1; omega⟩⟩

theorem FInv.old {i : Nat} (hL : ∀ j, L' j = true ↔ j = i ∨ L j = true) {j : Nat} (hj : j ≠ i) (hl : L' j = true) : L j = true := by
  rcases (hL j).1 hl with h | h
  · exact absurd h hj
  · exact h

theorem FInv.new5 (h : FInv p T m σ1 D O db ob L e s) (hL : ∀ j, L' j = true ↔ j = 5 ∨ L j = true) (hun : L 5 = false) : FInv p T m σ1 s.length O db ob L' ((12, .mvec s.length 0 p.length 1) :: e) (s ++ [.vecR 1 (bl p.length fun _ => false)]) := by
  obtain ⟨n1, n2, n3, n4⟩ := h.new (.vecR 1 (bl p.length fun _ => false))
  have old := @FInv.old L L' 5 hL
  have e15 : (L' 15 = true) = (L 15 = true) := propext ⟨fun h => old (by decide) h, fun h => (hL 15).2 (.inr h)⟩
  have n14 : ¬ L 14 = true := fun h14 => by have := (h.a14 h14).1; rw [hun] at this; cases this
  have n14' : ¬ L' 14 = true := fun h14 => n14 (old (by decide) h14)
  refine ⟨n1, ?_, fun j hj hl => ?_, fun _ => ⟨n2, n3⟩, fun hl => ?_, fun _ h2 => ?_, fun hl => ?_, fun hl => ?_, fun h1 h2 => h.nb (old (by decide) h1) (old (by decide) h2), fun hl => absurd hl n14', fun hl => ?_⟩
  · rw [lookA_ne (by decide)]; exact h.t1
  · by_cases e : j = 5
    · subst e; exact lookA_eq
    · rw [lookA_ne (t := 12) (show (12 : Nat) ≠ tmpF j from fun e2 => e (tmpF_inj (i := j) (j := 5) hj (by omega) e2.symm)), h.val j hj (old e hl)]
      unfold valF
      split <;> first | rfl | exact absurd rfl e
  · obtain ⟨q1, q2⟩ := h.o11 (old (by decide) hl)
    exact ⟨q1, (n4 _ _ q2).1⟩
  · obtain ⟨q1, q2⟩ := h.o11 (old (by decide) h2)
    exact (n4 _ _ q2).2.symm
  · obtain ⟨q1, q2⟩ := h.o12 (old (by decide) hl)
    rw [if_neg n14'] 
    rw [if_neg n14] at q2
    exact ⟨q1, (n4 _ _ q2).1⟩
  · obtain ⟨q1, q2⟩ := h.o13 (old (by decide) hl)
    simp only [e15]
    exact ⟨q1, (n4 _ _ q2).1⟩
  · have := h.a15 (old (by decide) hl)
    exact ⟨(hL _).2 (.inr this.1), (hL _).2 (.inr this.2)⟩

theorem FInv.new11 (h : FInv p T m σ1 D O db ob L e s) (hL : ∀ j, L' j = true ↔ j = 11 ∨ L j = true) (hun : L 11 = false) : FInv p T m σ1 D s.length db ob L' ((18, .mvec s.length 0 p.length 1) :: e) (s ++ [.vecR 1 (bl p.length fun _ => false)]) := by
  obtain ⟨n1, n2, n3, n4⟩ := h.new (.vecR 1 (bl p.length fun _ => false))
  have old := @FInv.old L L' 11 hL
  have e14 : (L' 14 = true) = (L 14 = true) := propext ⟨fun h => old (by decide) h, fun h => (hL 14).2 (.inr h)⟩
  have n15 : ¬ L 15 = true := fun h15 => by have := (h.a15 h15).1; rw [hun] at this; cases this
  have n15' : ¬ L' 15 = true := fun h15 => n15 (old (by decide) h15)
  refine ⟨n1, ?_, fun j hj hl => ?_, fun hl => ?_, fun _ => ⟨n2, n3⟩, fun h1 _ => ?_, fun hl => ?_, fun hl => ?_, fun h1 h2 => h.nb (old (by decide) h1) (old (by decide) h2), fun hl => ?_, fun hl => absurd hl n15'⟩
  · rw [lookA_ne (by decide)]; exact h.t1
  · by_cases e : j = 11
    · subst e; exact lookA_eq
    · rw [lookA_ne (t := 18) (show (18 : Nat) ≠ tmpF j from fun e2 => e (tmpF_inj (i := j) (j := 11) hj (by omega) e2.symm)), h.val j hj (old e hl)]
      unfold valF
      split <;> first | rfl | exact absurd rfl e
  · obtain ⟨q1, q2⟩ := h.o5 (old (by decide) hl)
    exact ⟨q1, (n4 _ _ q2).1⟩
  · obtain ⟨q1, q2⟩ := h.o5 (old (by decide) h1)
    exact (n4 _ _ q2).2
  · obtain ⟨q1, q2⟩ := h.o12 (old (by decide) hl)
    simp only [e14]
    exact ⟨q1, (n4 _ _ q2).1⟩
  · obtain ⟨q1, q2⟩ := h.o13 (old (by decide) hl)
    rw [if_neg n15']
    rw [if_neg n15] at q2
    exact ⟨q1, (n4 _ _ q2).1⟩
  · have := h.a14 (old (by decide) hl)
    exact ⟨(hL _).2 (.inr this.1), (hL _).2 (.inr this.2)⟩

theorem FInv.new12 (h : FInv p T m σ1 D O db ob L e s) (hL : ∀ j, L' j = true ↔ j = 12 ∨ L j = true) (hun : L 12 = false) : FInv p T m σ1 D O s.length ob L' ((3, .ptr s.length 0) :: e) (s ++ [.box [.nils]]) := by
  obtain ⟨n1, n2, n3, n4⟩ := h.new (.box [.nils])
  have old := @FInv.old L L' 12 hL
  have e15 : (L' 15 = true) = (L 15 = true) := propext ⟨fun h => old (by decide) h, fun h => (hL 15).2 (.inr h)⟩
  have n14 : ¬ L 14 = true := fun h14 => by have := (h.a14 h14).2; rw [hun] at this; cases this
  have n14' : ¬ L' 14 = true := fun h14 => n14 (old (by decide) h14)
  refine ⟨n1, ?_, fun j hj hl => ?_, fun hl => ?_, fun hl => ?_, fun h1 h2 => h.ne (old (by decide) h1) (old (by decide) h2), fun _ => ⟨n2, by rw [if_neg n14']; exact n3⟩, fun hl => ?_, fun _ h2 => ?_, fun hl => absurd hl n14', fun hl => ?_⟩
  · rw [lookA_ne (by decide)]; exact h.t1
  · by_cases e : j = 12
    · subst e; exact lookA_eq
    · rw [lookA_ne (t := 3) (show (3 : Nat) ≠ tmpF j from fun e2 => e (tmpF_inj (i := j) (j := 12) hj (by omega) e2.symm)), h.val j hj (old e hl)]
      unfold valF
      split <;> first | rfl | exact absurd rfl e
  · obtain ⟨q1, q2⟩ := h.o5 (old (by decide) hl)
    exact ⟨q1, (n4 _ _ q2).1⟩
  · obtain ⟨q1, q2⟩ := h.o11 (old (by decide) hl)
    exact ⟨q1, (n4 _ _ q2).1⟩
  · obtain ⟨q1, q2⟩ := h.o13 (old (by decide) hl)
    simp only [e15]
    exact ⟨q1, (n4 _ _ q2).1⟩
  · obtain ⟨q1, q2⟩ := h.o13 (old (by decide) h2)
    exact (n4 _ _ q2).2.symm
  · have := h.a15 (old (by decide) hl)
    exact ⟨(hL _).2 (.inr this.1), (hL _).2 (.inr this.2)⟩

theorem FInv.new13 (h : FInv p T m σ1 D O db ob L e s) (hL : ∀ j, L' j = true ↔ j = 13 ∨ L j = true) (hun : L 13 = false) : FInv p T m σ1 D O db s.length L' ((4, .ptr s.length 0) :: e) (s ++ [.box [.nils]]) := by
  obtain ⟨n1, n2, n3, n4⟩ := h.new (.box [.nils])
  have old := @FInv.old L L' 13 hL
  have e14 : (L' 14 = true) = (L 14 = true) := propext ⟨fun h => old (by decide) h, fun h => (hL 14).2 (.inr h)⟩
  have n15 : ¬ L 15 = true := fun h15 => by have := (h.a15 h15).2; rw [hun] at this; cases this
  have n15' : ¬ L' 15 = true := fun h15 => n15 (old (by decide) h15)
  refine ⟨n1, ?_, fun j hj hl => ?_, fun hl => ?_, fun hl => ?_, fun h1 h2 => h.ne (old (by decide) h1) (old (by decide) h2), fun hl => ?_, fun _ => ⟨n2, by rw [if_neg n15']; exact n3⟩, fun h1 _ => ?_, fun hl => ?_, fun hl => absurd hl n15'⟩
  · rw [lookA_ne (by decide)]; exact h.t1
  · by_cases e : j = 13
    · subst e; exact lookA_eq
    · rw [lookA_ne (t := 4) (show (4 : Nat) ≠ tmpF j from fun e2 => e (tmpF_inj (i := j) (j := 13) hj (by omega) e2.symm)), h.val j hj (old e hl)]
      unfold valF
      split <;> first | rfl | exact absurd rfl e
  · obtain ⟨q1, q2⟩ := h.o5 (old (by decide) hl)
    exact ⟨q1, (n4 _ _ q2).1⟩
  · obtain ⟨q1, q2⟩ := h.o11 (old (by decide) hl)
    exact ⟨q1, (n4 _ _ q2).1⟩
  · obtain ⟨q1, q2⟩ := h.o12 (old (by decide) hl)
    simp only [e14]
    exact ⟨q1, (n4 _ _ q2).1⟩
  · obtain ⟨q1, q2⟩ := h.o12 (old (by decide) h1)
    exact (n4 _ _ q2).2
  · have := h.a14 (old (by decide) hl)
    exact ⟨(hL _).2 (.inr this.1), (hL _).2 (.inr this.2)⟩

theorem FInv.sto14 (h : FInv p T m σ1 D O db ob L e s) (hL : ∀ j, L' j = true ↔ j = 14 ∨ L j = true) (h5 : L 5 = true) (h12 : L 12 = true) : FInv p T m σ1 D O db ob L' e (s.set db (.box [.mvec D 0 p.length 1])) := by
  have old := @FInv.old L L' 14 hL
  have e15 : (L' 15 = true) = (L 15 = true) := propext ⟨fun h => old (by decide) h, fun h => (hL 15).2 (.inr h)⟩
  have l14 : L' 14 = true := (hL 14).2 (.inl rfl)
  obtain ⟨d1, d2⟩ := h.o12 h12
  have hlt := (List.getElem?_eq_some_iff.1 d2).1
  have vec : ∀ {k : Nat} {f}, s[k]? = some (.vecR 1 f) → (s.set db (.box [.mvec D 0 p.length 1]))[k]? = some (.vecR 1 f) := by
    intro k f hk
    rw [List.getElem?_set_ne (fun e => by subst e; rw [hk] at d2; cases d2)]
    exact hk
  refine ⟨h.ext.set d1 _, h.t1, fun j hj hl => h.val j hj (old (by omega) hl), fun hl => ?_, fun hl => ?_, fun h1 h2 => h.ne (old (by decide) h1) (old (by decide) h2), fun _ => ⟨d1, by rw [if_pos l14, List.getElem?_set_self hlt]⟩, fun hl => ?_, fun h1 h2 => h.nb (old (by decide) h1) (old (by decide) h2), fun _ => ⟨(hL _).2 (.inr h5), (hL _).2 (.inr h12)⟩, fun hl => ?_⟩
  · obtain ⟨q1, q2⟩ := h.o5 (old (by decide) hl)
    exact ⟨q1, vec q2⟩
  · obtain ⟨q1, q2⟩ := h.o11 (old (by decide) hl)
    exact ⟨q1, vec q2⟩
  · obtain ⟨q1, q2⟩ := h.o13 (old (by decide) hl)
    simp only [e15]
    rw [List.getElem?_set_ne (h.nb h12 (old (by decide) hl))]
    exact ⟨q1, q2⟩
  · have := h.a15 (old (by decide) hl)
    exact ⟨(hL _).2 (.inr this.1), (hL _).2 (.inr this.2)⟩

theorem FInv.sto15 (h : FInv p T m σ1 D O db ob L e s) (hL : ∀ j, L' j = true ↔ j = 15 ∨ L j = true) (h5 : L 11 = true) (h12 : L 13 = true) : FInv p T m σ1 D O db ob L' e (s.set ob (.box [.mvec O 0 p.length 1])) := by
  have old := @FInv.old L L' 15 hL
  have e14 : (L' 14 = true) = (L 14 = true) := propext ⟨fun h => old (by decide) h, fun h => (hL 14).2 (.inr h)⟩
  have l15 : L' 15 = true := (hL 15).2 (.inl rfl)
  obtain ⟨d1, d2⟩ := h.o13 h12
  have hlt := (List.getElem?_eq_some_iff.1 d2).1
  have vec : ∀ {k : Nat} {f}, s[k]? = some (.vecR 1 f) → (s.set ob (.box [.mvec O 0 p.length 1]))[k]? = some (.vecR 1 f) := by
    intro k f hk
    rw [List.getElem?_set_ne (fun e => by subst e; rw [hk] at d2; cases d2)]
    exact hk
  refine ⟨h.ext.set d1 _, h.t1, fun j hj hl => h.val j hj (old (by omega) hl), fun hl => ?_, fun hl => ?_, fun h1 h2 => h.ne (old (by decide) h1) (old (by decide) h2), fun hl => ?_, fun _ => ⟨d1, by rw [if_pos l15, List.getElem?_set_self hlt]⟩, fun h1 h2 => h.nb (old (by decide) h1) (old (by decide) h2), fun hl => ?_, fun _ => ⟨(hL _).2 (.inr h5), (hL _).2 (.inr h12)⟩⟩
  · obtain ⟨q1, q2⟩ := h.o5 (old (by decide) hl)
    exact ⟨q1, vec q2⟩
  · obtain ⟨q1, q2⟩ := h.o11 (old (by decide) hl)
    exact ⟨q1, vec q2⟩
  · obtain ⟨q1, q2⟩ := h.o12 (old (by decide) hl)
    simp only [e14]
    rw [List.getElem?_set_ne (h.nb (old (by decide) hl) h12).symm]
    exact ⟨q1, q2⟩
  · have := h.a14 (old (by decide) hl)
    exact ⟨(hL _).2 (.inr this.1), (hL _).2 (.inr this.2)⟩
end

theorem st_self {p : List (List Int)} {σ : Store} {T D O tb db ob vb : Nat} {dn op g : Nat → Bool} (h : VB p σ T D O tb db ob vb) (h1 : σ[T]? = some (.box (.rows 1 (p.map rowI) :: gridL g))) (h2 : σ[D]? = some (.vecR 1 (bl p.length dn))) (h3 : σ[O]? = some (.vecR 1 (bl p.length op))) : ST p σ T D O dn op g = σ := by
  unfold ST
  rw [set_same h1, set_same h2, set_same h3]

theorem st_ext {p : List (List Int)} {σ0 σ : Store} {T D O tb db ob vb : Nat} {dn op g : Nat → Bool} (h : VB p σ T D O tb db ob vb) (hx : Ext σ0 σ) (hT : T < σ0.length) (hD : σ0.length ≤ D) (hO : σ0.length ≤ O) : Ext (σ0.set T (.box (.rows 1 (p.map rowI) :: gridL g))) (ST p σ T D O dn op g) := by
  intro i x hi
  have hlt : i < σ0.length := by have := (List.getElem?_eq_some_iff.1 hi).1; simpa using this
  by_cases e : T = i
  · subst e
    rw [List.getElem?_set_self hT] at hi
    rw [st_T h, hi]
  · rw [List.getElem?_set_ne e] at hi
    unfold ST
    rw [List.getElem?_set_ne (by omega), List.getElem?_set_ne (by omega), List.getElem?_set_ne e]
    exact hx i x hi

theorem c_fill (p : List (List Int)) (hI : InR p) (hp : p.length ≤ 64) (hs : ∀ l ∈ p, l.length ≤ 64) (σ : Store) (T : Nat) (hT : T < σ.length) (h0 : σ[T]? = some (.box (.rows 1 (p.map rowI) :: gridL fun _ => false))) :
    ACalls Try.prog 41 [.ptr T 0] σ (fun r s => ∃ g, r = .bool (acyB p) ∧ Ext (σ.set T (.box (.rows 1 (p.map rowI) :: gridL g))) s ∧ (acyB p = true → gridL g = gridL (relG p))) := by
  have hml : (p.map rowI).length = p.length := by simp
  have hzb := bl_zero p.length
  refine acalls_of_vc (fn := Try.f41) Try.call41 Try.func41 rfl (by kernel_rfl) (by simp [Try.ntmps41]) ?_; simp -implicitDefEqProofs only [hml,Try.ntmps41,Try.results41,Q0,Q1,Q2,Q3,Q4,Q5,Q6,Q7,Q8,Q9,Qa,Qb,Qc,Qd,Qe,Qf,Qg,Qh,Qi,Qj,Qk,Ql,Qm,Qn,Qo,Qp,Qq,Qr,Qs,Qt,Qu,Qv,Qw,Qx,Qy,Qz,QA,QB,QC,QD,QE,QF,QG,QH,QI,QJ,QK,QL,QM,QN,QO,QP,QQ,QR,QS,QT,QU,QV,QW,QX,QY,QZ,X0,X1,X2,X3,X4,X5,X6,X7,X8,X9,Xa,Xb,Xc,Xd,Xe,Xf,Xg,Xh,Xi,Xj,Xk,Xl,Xm,Xn,Xo,Xp,Xq,Xr,Xs,Xt,Xu,Xv,Xw,Xx,Xy,Xz,XA,XB,reduceIte,reduceCtorEq,XC,XD,XE,XF,XG,XH,XI,XJ,XK,XL,XM,XN,XO,XP,XQ,XR,XS,XT,XU,XV,XW,XX,XY,XZ,Y0,Try.q3,Try.q4,Try.q22,Try.q23,Try.q25,Try.underlying63,Try.q63,Try.underlying65,Try.q65,Try.underlying69,Try.q69,Try.q89]
  refine awp_any (fun L e s => ∃ D O db ob, FInv p T σ.length (σ ++ [.box [.ptr T 0]]) D O db ob L e s) Try.mixed (by kernel_rfl) ?_ ?_ ?_
  · exact ⟨0, 0, 0, 0, Ext.refl _, rfl, fun j _ h => (by cases h), fun h => (by cases h), fun h => (by cases h), fun h => (by cases h), fun h => (by cases h), fun h => (by cases h), fun h => (by cases h), fun h => (by cases h), fun h => (by cases h)⟩
  · rintro L e s i o hio hedge hun ⟨D, O, db, ob, hF⟩
    have g1 : s[σ.length]? = some (.box [.ptr T 0]) := hF.ext _ _ (by simp)
    have gT : s[T]? = some (.box (.rows 1 (p.map rowI) :: gridL fun _ => false)) := hF.ext _ _ (by rw [List.getElem?_append_left hT]; exact h0)
    match i, hio, hun with
    | 0, hio, hun =>
      cases hio
      have qt := hF.t1
      refine vcOp_sound ?_
      simp -implicitDefEqProofs only [hml,qt,g1,Q0,Q1,Q2,Q3,Q4,Q5,Q6,Q7,Q8,Q9,Qa,Qb,Qc,Qd,Qe,Qf,Qg,Qh,Qi,Qj,Qk,Ql,Qm,Qn,Qo,Qp,Qq,Qr,Qs,Qt,Qu,Qv,Qw,Qx,Qy,Qz,QA,QB,QC,QD,QE,QF,QG,QH,QI,QJ,QK,QL,QM,QN,QO,QP,QQ,QR,QS,QT,QU,QV,QW,QX,QY,QZ,X0,X1,X2,X3,X4,X5,X6,X7,X8,X9,Xa,Xb,Xc,Xd,Xe,Xf,Xg,Xh,Xi,Xj,Xk,Xl,Xm,Xn,Xo,Xp,Xq,Xr,Xs,Xt,Xu,Xv,Xw,Xx,Xy,Xz,XA,XB,reduceIte,reduceCtorEq,XC,XD,XE,XF,XG,XH,XI,XJ,XK,XL,XM,XN,XO,XP,XQ,XR,XS,XT,XU,XV,XW,XX,XY,XZ,Y0,Try.q3,Try.q4,Try.q22,Try.q23,Try.q25,Try.underlying63,Try.q63,Try.underlying65,Try.q65,Try.underlying69,Try.q69,Try.q89]
      exact fun L' hL => ⟨D, O, db, ob, hF.tmp (i := 0) hL (by decide) (by decide)⟩
    | 1, hio, hun =>
      cases hio
      have l0 : L 0 = true := hedge 0 (of_decide_eq_true (by kernel_rfl))
      have q0 : lookA e 7 = .ptr T 0 := hF.val 0 (by decide) l0
      refine vcOp_sound ?_
      simp -implicitDefEqProofs only [hml,q0,Q0,Q1,Q2,Q3,Q4,Q5,Q6,Q7,Q8,Q9,Qa,Qb,Qc,Qd,Qe,Qf,Qg,Qh,Qi,Qj,Qk,Ql,Qm,Qn,Qo,Qp,Qq,Qr,Qs,Qt,Qu,Qv,Qw,Qx,Qy,Qz,QA,QB,QC,QD,QE,QF,QG,QH,QI,QJ,QK,QL,QM,QN,QO,QP,QQ,QR,QS,QT,QU,QV,QW,QX,QY,QZ,X0,X1,X2,X3,X4,X5,X6,X7,X8,X9,Xa,Xb,Xc,Xd,Xe,Xf,Xg,Xh,Xi,Xj,Xk,Xl,Xm,Xn,Xo,Xp,Xq,Xr,Xs,Xt,Xu,Xv,Xw,Xx,Xy,Xz,XA,XB,reduceIte,reduceCtorEq,XC,XD,XE,XF,XG,XH,XI,XJ,XK,XL,XM,XN,XO,XP,XQ,XR,XS,XT,XU,XV,XW,XX,XY,XZ,Y0,Try.q3,Try.q4,Try.q22,Try.q23,Try.q25,Try.underlying63,Try.q63,Try.underlying65,Try.q65,Try.underlying69,Try.q69,Try.q89]
      exact fun L' hL => ⟨D, O, db, ob, hF.tmp (i := 1) hL (by decide) (by decide)⟩
    | 2, hio, hun =>
      cases hio
      have l1 : L 1 = true := hedge 1 (of_decide_eq_true (by kernel_rfl))
      have q1 : lookA e 8 = .ptr T 0 := hF.val 1 (by decide) l1
      refine vcOp_sound ?_
      simp -implicitDefEqProofs only [hml,q1,Q0,Q1,Q2,Q3,Q4,Q5,Q6,Q7,Q8,Q9,Qa,Qb,Qc,Qd,Qe,Qf,Qg,Qh,Qi,Qj,Qk,Ql,Qm,Qn,Qo,Qp,Qq,Qr,Qs,Qt,Qu,Qv,Qw,Qx,Qy,Qz,QA,QB,QC,QD,QE,QF,QG,QH,QI,QJ,QK,QL,QM,QN,QO,QP,QQ,QR,QS,QT,QU,QV,QW,QX,QY,QZ,X0,X1,X2,X3,X4,X5,X6,X7,X8,X9,Xa,Xb,Xc,Xd,Xe,Xf,Xg,Xh,Xi,Xj,Xk,Xl,Xm,Xn,Xo,Xp,Xq,Xr,Xs,Xt,Xu,Xv,Xw,Xx,Xy,Xz,XA,XB,reduceIte,reduceCtorEq,XC,XD,XE,XF,XG,XH,XI,XJ,XK,XL,XM,XN,XO,XP,XQ,XR,XS,XT,XU,XV,XW,XX,XY,XZ,Y0,Try.q3,Try.q4,Try.q22,Try.q23,Try.q25,Try.underlying63,Try.q63,Try.underlying65,Try.q65,Try.underlying69,Try.q69,Try.q89]
      exact fun L' hL => ⟨D, O, db, ob, hF.tmp (i := 2) hL (by decide) (by decide)⟩
    | 3, hio, hun =>
      cases hio
      have l2 : L 2 = true := hedge 2 (of_decide_eq_true (by kernel_rfl))
      have q2 : lookA e 9 = .ptr T 0 := hF.val 2 (by decide) l2
      refine vcOp_sound ?_
      simp -implicitDefEqProofs only [hml,q2,gT,Q0,Q1,Q2,Q3,Q4,Q5,Q6,Q7,Q8,Q9,Qa,Qb,Qc,Qd,Qe,Qf,Qg,Qh,Qi,Qj,Qk,Ql,Qm,Qn,Qo,Qp,Qq,Qr,Qs,Qt,Qu,Qv,Qw,Qx,Qy,Qz,QA,QB,QC,QD,QE,QF,QG,QH,QI,QJ,QK,QL,QM,QN,QO,QP,QQ,QR,QS,QT,QU,QV,QW,QX,QY,QZ,X0,X1,X2,X3,X4,X5,X6,X7,X8,X9,Xa,Xb,Xc,Xd,Xe,Xf,Xg,Xh,Xi,Xj,Xk,Xl,Xm,Xn,Xo,Xp,Xq,Xr,Xs,Xt,Xu,Xv,Xw,Xx,Xy,Xz,XA,XB,reduceIte,reduceCtorEq,XC,XD,XE,XF,XG,XH,XI,XJ,XK,XL,XM,XN,XO,XP,XQ,XR,XS,XT,XU,XV,XW,XX,XY,XZ,Y0,Try.q3,Try.q4,Try.q22,Try.q23,Try.q25,Try.underlying63,Try.q63,Try.underlying65,Try.q65,Try.underlying69,Try.q69,Try.q89]
      exact fun L' hL => ⟨D, O, db, ob, hF.tmp (i := 3) hL (by decide) (by decide)⟩
    | 4, hio, hun =>
      cases hio
      have l3 : L 3 = true := hedge 3 (of_decide_eq_true (by kernel_rfl))
      have q3 : lookA e 10 = .rows 1 (p.map rowI) := hF.val 3 (by decide) l3
      refine vcOp_sound ?_
      simp -implicitDefEqProofs only [hml,q3,hml,Q0,Q1,Q2,Q3,Q4,Q5,Q6,Q7,Q8,Q9,Qa,Qb,Qc,Qd,Qe,Qf,Qg,Qh,Qi,Qj,Qk,Ql,Qm,Qn,Qo,Qp,Qq,Qr,Qs,Qt,Qu,Qv,Qw,Qx,Qy,Qz,QA,QB,QC,QD,QE,QF,QG,QH,QI,QJ,QK,QL,QM,QN,QO,QP,QQ,QR,QS,QT,QU,QV,QW,QX,QY,QZ,X0,X1,X2,X3,X4,X5,X6,X7,X8,X9,Xa,Xb,Xc,Xd,Xe,Xf,Xg,Xh,Xi,Xj,Xk,Xl,Xm,Xn,Xo,Xp,Xq,Xr,Xs,Xt,Xu,Xv,Xw,Xx,Xy,Xz,XA,XB,reduceIte,reduceCtorEq,XC,XD,XE,XF,XG,XH,XI,XJ,XK,XL,XM,XN,XO,XP,XQ,XR,XS,XT,XU,XV,XW,XX,XY,XZ,Y0,Try.q3,Try.q4,Try.q22,Try.q23,Try.q25,Try.underlying63,Try.q63,Try.underlying65,Try.q65,Try.underlying69,Try.q69,Try.q89]
      exact fun L' hL => ⟨D, O, db, ob, hF.tmp (i := 4) hL (by decide) (by decide)⟩
    | 5, hio, hun =>
      cases hio
      have l4 : L 4 = true := hedge 4 (of_decide_eq_true (by kernel_rfl))
      have q4 : lookA e 11 = .int .i64 p.length := hF.val 4 (by decide) l4
      refine vcOp_sound ?_
      simp -implicitDefEqProofs only [hml,q4,hzb,Int.toNat_natCast,Q0,Q1,Q2,Q3,Q4,Q5,Q6,Q7,Q8,Q9,Qa,Qb,Qc,Qd,Qe,Qf,Qg,Qh,Qi,Qj,Qk,Ql,Qm,Qn,Qo,Qp,Qq,Qr,Qs,Qt,Qu,Qv,Qw,Qx,Qy,Qz,QA,QB,QC,QD,QE,QF,QG,QH,QI,QJ,QK,QL,QM,QN,QO,QP,QQ,QR,QS,QT,QU,QV,QW,QX,QY,QZ,X0,X1,X2,X3,X4,X5,X6,X7,X8,X9,Xa,Xb,Xc,Xd,Xe,Xf,Xg,Xh,Xi,Xj,Xk,Xl,Xm,Xn,Xo,Xp,Xq,Xr,Xs,Xt,Xu,Xv,Xw,Xx,Xy,Xz,XA,XB,reduceIte,reduceCtorEq,XC,XD,XE,XF,XG,XH,XI,XJ,XK,XL,XM,XN,XO,XP,XQ,XR,XS,XT,XU,XV,XW,XX,XY,XZ,Y0,Try.q3,Try.q4,Try.q22,Try.q23,Try.q25,Try.underlying63,Try.q63,Try.underlying65,Try.q65,Try.underlying69,Try.q69,Try.q89]
      exact ⟨by omega, by omega, by omega, fun L' hL => ⟨_, O, db, ob, hF.new5 hL hun⟩⟩
    | 6, hio, hun =>
      cases hio
      have qt := hF.t1
      refine vcOp_sound ?_
      simp -implicitDefEqProofs only [hml,qt,g1,Q0,Q1,Q2,Q3,Q4,Q5,Q6,Q7,Q8,Q9,Qa,Qb,Qc,Qd,Qe,Qf,Qg,Qh,Qi,Qj,Qk,Ql,Qm,Qn,Qo,Qp,Qq,Qr,Qs,Qt,Qu,Qv,Qw,Qx,Qy,Qz,QA,QB,QC,QD,QE,QF,QG,QH,QI,QJ,QK,QL,QM,QN,QO,QP,QQ,QR,QS,QT,QU,QV,QW,QX,QY,QZ,X0,X1,X2,X3,X4,X5,X6,X7,X8,X9,Xa,Xb,Xc,Xd,Xe,Xf,Xg,Xh,Xi,Xj,Xk,Xl,Xm,Xn,Xo,Xp,Xq,Xr,Xs,Xt,Xu,Xv,Xw,Xx,Xy,Xz,XA,XB,reduceIte,reduceCtorEq,XC,XD,XE,XF,XG,XH,XI,XJ,XK,XL,XM,XN,XO,XP,XQ,XR,XS,XT,XU,XV,XW,XX,XY,XZ,Y0,Try.q3,Try.q4,Try.q22,Try.q23,Try.q25,Try.underlying63,Try.q63,Try.underlying65,Try.q65,Try.underlying69,Try.q69,Try.q89]
      exact fun L' hL => ⟨D, O, db, ob, hF.tmp (i := 6) hL (by decide) (by decide)⟩
    | 7, hio, hun =>
      cases hio
      have l6 : L 6 = true := hedge 6 (of_decide_eq_true (by kernel_rfl))
      have q6 : lookA e 13 = .ptr T 0 := hF.val 6 (by decide) l6
      refine vcOp_sound ?_
      simp -implicitDefEqProofs only [hml,q6,Q0,Q1,Q2,Q3,Q4,Q5,Q6,Q7,Q8,Q9,Qa,Qb,Qc,Qd,Qe,Qf,Qg,Qh,Qi,Qj,Qk,Ql,Qm,Qn,Qo,Qp,Qq,Qr,Qs,Qt,Qu,Qv,Qw,Qx,Qy,Qz,QA,QB,QC,QD,QE,QF,QG,QH,QI,QJ,QK,QL,QM,QN,QO,QP,QQ,QR,QS,QT,QU,QV,QW,QX,QY,QZ,X0,X1,X2,X3,X4,X5,X6,X7,X8,X9,Xa,Xb,Xc,Xd,Xe,Xf,Xg,Xh,Xi,Xj,Xk,Xl,Xm,Xn,Xo,Xp,Xq,Xr,Xs,Xt,Xu,Xv,Xw,Xx,Xy,Xz,XA,XB,reduceIte,reduceCtorEq,XC,XD,XE,XF,XG,XH,XI,XJ,XK,XL,XM,XN,XO,XP,XQ,XR,XS,XT,XU,XV,XW,XX,XY,XZ,Y0,Try.q3,Try.q4,Try.q22,Try.q23,Try.q25,Try.underlying63,Try.q63,Try.underlying65,Try.q65,Try.underlying69,Try.q69,Try.q89]
      exact fun L' hL => ⟨D, O, db, ob, hF.tmp (i := 7) hL (by decide) (by decide)⟩
    | 8, hio, hun =>
      cases hio
      have l7 : L 7 = true := hedge 7 (of_decide_eq_true (by kernel_rfl))
      have q7 : lookA e 14 = .ptr T 0 := hF.val 7 (by decide) l7
      refine vcOp_sound ?_
      simp -implicitDefEqProofs only [hml,q7,Q0,Q1,Q2,Q3,Q4,Q5,Q6,Q7,Q8,Q9,Qa,Qb,Qc,Qd,Qe,Qf,Qg,Qh,Qi,Qj,Qk,Ql,Qm,Qn,Qo,Qp,Qq,Qr,Qs,Qt,Qu,Qv,Qw,Qx,Qy,Qz,QA,QB,QC,QD,QE,QF,QG,QH,QI,QJ,QK,QL,QM,QN,QO,QP,QQ,QR,QS,QT,QU,QV,QW,QX,QY,QZ,X0,X1,X2,X3,X4,X5,X6,X7,X8,X9,Xa,Xb,Xc,Xd,Xe,Xf,Xg,Xh,Xi,Xj,Xk,Xl,Xm,Xn,Xo,Xp,Xq,Xr,Xs,Xt,Xu,Xv,Xw,Xx,Xy,Xz,XA,XB,reduceIte,reduceCtorEq,XC,XD,XE,XF,XG,XH,XI,XJ,XK,XL,XM,XN,XO,XP,XQ,XR,XS,XT,XU,XV,XW,XX,XY,XZ,Y0,Try.q3,Try.q4,Try.q22,Try.q23,Try.q25,Try.underlying63,Try.q63,Try.underlying65,Try.q65,Try.underlying69,Try.q69,Try.q89]
      exact fun L' hL => ⟨D, O, db, ob, hF.tmp (i := 8) hL (by decide) (by decide)⟩
    | 9, hio, hun =>
      cases hio
      have l8 : L 8 = true := hedge 8 (of_decide_eq_true (by kernel_rfl))
      have q8 : lookA e 15 = .ptr T 0 := hF.val 8 (by decide) l8
      refine vcOp_sound ?_
      simp -implicitDefEqProofs only [hml,q8,gT,Q0,Q1,Q2,Q3,Q4,Q5,Q6,Q7,Q8,Q9,Qa,Qb,Qc,Qd,Qe,Qf,Qg,Qh,Qi,Qj,Qk,Ql,Qm,Qn,Qo,Qp,Qq,Qr,Qs,Qt,Qu,Qv,Qw,Qx,Qy,Qz,QA,QB,QC,QD,QE,QF,QG,QH,QI,QJ,QK,QL,QM,QN,QO,QP,QQ,QR,QS,QT,QU,QV,QW,QX,QY,QZ,X0,X1,X2,X3,X4,X5,X6,X7,X8,X9,Xa,Xb,Xc,Xd,Xe,Xf,Xg,Xh,Xi,Xj,Xk,Xl,Xm,Xn,Xo,Xp,Xq,Xr,Xs,Xt,Xu,Xv,Xw,Xx,Xy,Xz,XA,XB,reduceIte,reduceCtorEq,XC,XD,XE,XF,XG,XH,XI,XJ,XK,XL,XM,XN,XO,XP,XQ,XR,XS,XT,XU,XV,XW,XX,XY,XZ,Y0,Try.q3,Try.q4,Try.q22,Try.q23,Try.q25,Try.underlying63,Try.q63,Try.underlying65,Try.q65,Try.underlying69,Try.q69,Try.q89]
      exact fun L' hL => ⟨D, O, db, ob, hF.tmp (i := 9) hL (by decide) (by decide)⟩
    | 10, hio, hun =>
      cases hio
      have l9 : L 9 = true := hedge 9 (of_decide_eq_true (by kernel_rfl))
      have q9 : lookA e 16 = .rows 1 (p.map rowI) := hF.val 9 (by decide) l9
      refine vcOp_sound ?_
      simp -implicitDefEqProofs only [hml,q9,hml,Q0,Q1,Q2,Q3,Q4,Q5,Q6,Q7,Q8,Q9,Qa,Qb,Qc,Qd,Qe,Qf,Qg,Qh,Qi,Qj,Qk,Ql,Qm,Qn,Qo,Qp,Qq,Qr,Qs,Qt,Qu,Qv,Qw,Qx,Qy,Qz,QA,QB,QC,QD,QE,QF,QG,QH,QI,QJ,QK,QL,QM,QN,QO,QP,QQ,QR,QS,QT,QU,QV,QW,QX,QY,QZ,X0,X1,X2,X3,X4,X5,X6,X7,X8,X9,Xa,Xb,Xc,Xd,Xe,Xf,Xg,Xh,Xi,Xj,Xk,Xl,Xm,Xn,Xo,Xp,Xq,Xr,Xs,Xt,Xu,Xv,Xw,Xx,Xy,Xz,XA,XB,reduceIte,reduceCtorEq,XC,XD,XE,XF,XG,XH,XI,XJ,XK,XL,XM,XN,XO,XP,XQ,XR,XS,XT,XU,XV,XW,XX,XY,XZ,Y0,Try.q3,Try.q4,Try.q22,Try.q23,Try.q25,Try.underlying63,Try.q63,Try.underlying65,Try.q65,Try.underlying69,Try.q69,Try.q89]
      exact fun L' hL => ⟨D, O, db, ob, hF.tmp (i := 10) hL (by decide) (by decide)⟩
    | 11, hio, hun =>
      cases hio
      have l10 : L 10 = true := hedge 10 (of_decide_eq_true (by kernel_rfl))
      have q10 : lookA e 17 = .int .i64 p.length := hF.val 10 (by decide) l10
      refine vcOp_sound ?_
      simp -implicitDefEqProofs only [hml,q10,hzb,Int.toNat_natCast,Q0,Q1,Q2,Q3,Q4,Q5,Q6,Q7,Q8,Q9,Qa,Qb,Qc,Qd,Qe,Qf,Qg,Qh,Qi,Qj,Qk,Ql,Qm,Qn,Qo,Qp,Qq,Qr,Qs,Qt,Qu,Qv,Qw,Qx,Qy,Qz,QA,QB,QC,QD,QE,QF,QG,QH,QI,QJ,QK,QL,QM,QN,QO,QP,QQ,QR,QS,QT,QU,QV,QW,QX,QY,QZ,X0,X1,X2,X3,X4,X5,X6,X7,X8,X9,Xa,Xb,Xc,Xd,Xe,Xf,Xg,Xh,Xi,Xj,Xk,Xl,Xm,Xn,Xo,Xp,Xq,Xr,Xs,Xt,Xu,Xv,Xw,Xx,Xy,Xz,XA,XB,reduceIte,reduceCtorEq,XC,XD,XE,XF,XG,XH,XI,XJ,XK,XL,XM,XN,XO,XP,XQ,XR,XS,XT,XU,XV,XW,XX,XY,XZ,Y0,Try.q3,Try.q4,Try.q22,Try.q23,Try.q25,Try.underlying63,Try.q63,Try.underlying65,Try.q65,Try.underlying69,Try.q69,Try.q89]
      exact ⟨by omega, by omega, by omega, fun L' hL => ⟨D, _, db, ob, hF.new11 hL hun⟩⟩
    | 12, hio, hun =>
      cases hio
      refine vcOp_sound ?_
      simp -implicitDefEqProofs only [hml,Q0,Q1,Q2,Q3,Q4,Q5,Q6,Q7,Q8,Q9,Qa,Qb,Qc,Qd,Qe,Qf,Qg,Qh,Qi,Qj,Qk,Ql,Qm,Qn,Qo,Qp,Qq,Qr,Qs,Qt,Qu,Qv,Qw,Qx,Qy,Qz,QA,QB,QC,QD,QE,QF,QG,QH,QI,QJ,QK,QL,QM,QN,QO,QP,QQ,QR,QS,QT,QU,QV,QW,QX,QY,QZ,X0,X1,X2,X3,X4,X5,X6,X7,X8,X9,Xa,Xb,Xc,Xd,Xe,Xf,Xg,Xh,Xi,Xj,Xk,Xl,Xm,Xn,Xo,Xp,Xq,Xr,Xs,Xt,Xu,Xv,Xw,Xx,Xy,Xz,XA,XB,reduceIte,reduceCtorEq,XC,XD,XE,XF,XG,XH,XI,XJ,XK,XL,XM,XN,XO,XP,XQ,XR,XS,XT,XU,XV,XW,XX,XY,XZ,Y0,Try.q3,Try.q4,Try.q22,Try.q23,Try.q25,Try.underlying63,Try.q63,Try.underlying65,Try.q65,Try.underlying69,Try.q69,Try.q89]
      exact fun L' hL => ⟨D, O, _, ob, hF.new12 hL hun⟩
    | 13, hio, hun =>
      cases hio
      refine vcOp_sound ?_
      simp -implicitDefEqProofs only [hml,Q0,Q1,Q2,Q3,Q4,Q5,Q6,Q7,Q8,Q9,Qa,Qb,Qc,Qd,Qe,Qf,Qg,Qh,Qi,Qj,Qk,Ql,Qm,Qn,Qo,Qp,Qq,Qr,Qs,Qt,Qu,Qv,Qw,Qx,Qy,Qz,QA,QB,QC,QD,QE,QF,QG,QH,QI,QJ,QK,QL,QM,QN,QO,QP,QQ,QR,QS,QT,QU,QV,QW,QX,QY,QZ,X0,X1,X2,X3,X4,X5,X6,X7,X8,X9,Xa,Xb,Xc,Xd,Xe,Xf,Xg,Xh,Xi,Xj,Xk,Xl,Xm,Xn,Xo,Xp,Xq,Xr,Xs,Xt,Xu,Xv,Xw,Xx,Xy,Xz,XA,XB,reduceIte,reduceCtorEq,XC,XD,XE,XF,XG,XH,XI,XJ,XK,XL,XM,XN,XO,XP,XQ,XR,XS,XT,XU,XV,XW,XX,XY,XZ,Y0,Try.q3,Try.q4,Try.q22,Try.q23,Try.q25,Try.underlying63,Try.q63,Try.underlying65,Try.q65,Try.underlying69,Try.q69,Try.q89]
      exact fun L' hL => ⟨D, O, db, _, hF.new13 hL hun⟩
    | 14, hio, hun =>
      cases hio
      have l5 : L 5 = true := hedge 5 (of_decide_eq_true (by kernel_rfl))
      have q5 : lookA e 12 = .mvec D 0 p.length 1 := hF.val 5 (by decide) l5
      have l12 : L 12 = true := hedge 12 (of_decide_eq_true (by kernel_rfl))
      have q12 : lookA e 3 = .ptr db 0 := hF.val 12 (by decide) l12
      have gd := (hF.o12 l12).2
      rw [if_neg (by rw [hun]; decide)] at gd
      refine vcOp_sound ?_
      simp -implicitDefEqProofs only [hml,q5,q12,gd,Q0,Q1,Q2,Q3,Q4,Q5,Q6,Q7,Q8,Q9,Qa,Qb,Qc,Qd,Qe,Qf,Qg,Qh,Qi,Qj,Qk,Ql,Qm,Qn,Qo,Qp,Qq,Qr,Qs,Qt,Qu,Qv,Qw,Qx,Qy,Qz,QA,QB,QC,QD,QE,QF,QG,QH,QI,QJ,QK,QL,QM,QN,QO,QP,QQ,QR,QS,QT,QU,QV,QW,QX,QY,QZ,X0,X1,X2,X3,X4,X5,X6,X7,X8,X9,Xa,Xb,Xc,Xd,Xe,Xf,Xg,Xh,Xi,Xj,Xk,Xl,Xm,Xn,Xo,Xp,Xq,Xr,Xs,Xt,Xu,Xv,Xw,Xx,Xy,Xz,XA,XB,reduceIte,reduceCtorEq,XC,XD,XE,XF,XG,XH,XI,XJ,XK,XL,XM,XN,XO,XP,XQ,XR,XS,XT,XU,XV,XW,XX,XY,XZ,Y0,Try.q3,Try.q4,Try.q22,Try.q23,Try.q25,Try.underlying63,Try.q63,Try.underlying65,Try.q65,Try.underlying69,Try.q69,Try.q89]
      exact fun L' hL => ⟨D, O, db, ob, hF.sto14 hL l5 l12⟩
    | 15, hio, hun =>
      cases hio
      have l11 : L 11 = true := hedge 11 (of_decide_eq_true (by kernel_rfl))
      have q11 : lookA e 18 = .mvec O 0 p.length 1 := hF.val 11 (by decide) l11
      have l13 : L 13 = true := hedge 13 (of_decide_eq_true (by kernel_rfl))
      have q13 : lookA e 4 = .ptr ob 0 := hF.val 13 (by decide) l13
      have gd := (hF.o13 l13).2
      rw [if_neg (by rw [hun]; decide)] at gd
      refine vcOp_sound ?_
      simp -implicitDefEqProofs only [hml,q11,q13,gd,Q0,Q1,Q2,Q3,Q4,Q5,Q6,Q7,Q8,Q9,Qa,Qb,Qc,Qd,Qe,Qf,Qg,Qh,Qi,Qj,Qk,Ql,Qm,Qn,Qo,Qp,Qq,Qr,Qs,Qt,Qu,Qv,Qw,Qx,Qy,Qz,QA,QB,QC,QD,QE,QF,QG,QH,QI,QJ,QK,QL,QM,QN,QO,QP,QQ,QR,QS,QT,QU,QV,QW,QX,QY,QZ,X0,X1,X2,X3,X4,X5,X6,X7,X8,X9,Xa,Xb,Xc,Xd,Xe,Xf,Xg,Xh,Xi,Xj,Xk,Xl,Xm,Xn,Xo,Xp,Xq,Xr,Xs,Xt,Xu,Xv,Xw,Xx,Xy,Xz,XA,XB,reduceIte,reduceCtorEq,XC,XD,XE,XF,XG,XH,XI,XJ,XK,XL,XM,XN,XO,XP,XQ,XR,XS,XT,XU,XV,XW,XX,XY,XZ,Y0,Try.q3,Try.q4,Try.q22,Try.q23,Try.q25,Try.underlying63,Try.q63,Try.underlying65,Try.q65,Try.underlying69,Try.q69,Try.q89]
      exact fun L' hL => ⟨D, O, db, ob, hF.sto15 hL l11 l13⟩
    | n + 16, hio, _ => cases hio
  · rintro L e s hall ⟨D, O, db, ob, hF⟩
    have hal : ∀ j, j < 16 → L j = true := fun j hj => hall j (by simpa using hj)
    have k3 : lookA e 3 = .ptr db 0 := hF.val 12 (by decide) (hal 12 (by decide))
    have k4 : lookA e 4 = .ptr ob 0 := hF.val 13 (by decide) (hal 13 (by decide))
    have k1 := hF.t1
    obtain ⟨hD, gD⟩ := hF.o5 (hal 5 (by decide))
    obtain ⟨hO, gO⟩ := hF.o11 (hal 11 (by decide))
    obtain ⟨hdb, gdb⟩ := hF.o12 (hal 12 (by decide))
    obtain ⟨hob, gob⟩ := hF.o13 (hal 13 (by decide))
    rw [if_pos (hal 14 (by decide))] at gdb
    rw [if_pos (hal 15 (by decide))] at gob
    have g1 : s[σ.length]? = some (.box [.ptr T 0]) := hF.ext _ _ (by simp)
    have gT : s[T]? = some (.box (.rows 1 (p.map rowI) :: gridL fun _ => false)) := hF.ext _ _ (by rw [List.getElem?_append_left hT]; exact h0)
    have hxs : Ext σ (s ++ [.box [fvV db ob σ.length s.length]]) := ((Ext.app σ [.box [.ptr T 0]]).trans hF.ext).trans (Ext.app _ _)
    have hx1 := Ext.app s [AObj.box [fvV db ob σ.length s.length]]
    have hB : VB p (s ++ [.box [fvV db ob σ.length s.length]]) T D O σ.length db ob s.length := ⟨⟨_, hx1 _ _ gT⟩, ⟨_, hx1 _ _ gD⟩, ⟨_, hx1 _ _ gO⟩, hF.ne (hal 5 (by decide)) (hal 11 (by decide)), hx1 _ _ g1, hx1 _ _ gdb, hx1 _ _ gob, by simp⟩
    have hS := st_self hB (hx1 _ _ gT) (hx1 _ _ gD) (hx1 _ _ gO)
    have hD' : σ.length ≤ D := by simp at hD; omega
    have hO' : σ.length ≤ O := by simp at hO; omega
    have g1x := hx1 _ _ g1
    have gTx := hx1 _ _ gT
    simp only [fvV] at g1x gTx
    simp -implicitDefEqProofs only [hml,k1,k3,k4,g1x,gTx,hml,Q0,Q1,Q2,Q3,Q4,Q5,Q6,Q7,Q8,Q9,Qa,Qb,Qc,Qd,Qe,Qf,Qg,Qh,Qi,Qj,Qk,Ql,Qm,Qn,Qo,Qp,Qq,Qr,Qs,Qt,Qu,Qv,Qw,Qx,Qy,Qz,QA,QB,QC,QD,QE,QF,QG,QH,QI,QJ,QK,QL,QM,QN,QO,QP,QQ,QR,QS,QT,QU,QV,QW,QX,QY,QZ,X0,X1,X2,X3,X4,X5,X6,X7,X8,X9,Xa,Xb,Xc,Xd,Xe,Xf,Xg,Xh,Xi,Xj,Xk,Xl,Xm,Xn,Xo,Xp,Xq,Xr,Xs,Xt,Xu,Xv,Xw,Xx,Xy,Xz,XA,XB,reduceIte,reduceCtorEq,XC,XD,XE,XF,XG,XH,XI,XJ,XK,XL,XM,XN,XO,XP,XQ,XR,XS,XT,XU,XV,XW,XX,XY,XZ,Y0,Try.q3,Try.q4,Try.q22,Try.q23,Try.q25,Try.underlying63,Try.q63,Try.underlying65,Try.q65,Try.underlying69,Try.q69,Try.q89]
    change AWp _ _ _ _ _ (s ++ [.box [fvV db ob σ.length s.length]])
    rw [← hS]
    generalize (s ++ [AObj.box [fvV db ob σ.length s.length]]) = σ' at hB hxs
    generalize s.length = vb at hB
    refine awp_loop (fun c : Nat => [(25, .int .i64 c), (24, .int .i64 p.length), (5, .ptr vb 0)]) (fun c s2 => c ≤ p.length ∧ ∃ dn op g, s2 = ST p σ' T D O dn op g ∧ VInv p dn op g ∧ (∀ x, op x = true → dn x = true) ∧ ∀ x, x < c → dn x = true) (fun c => p.length - c) 0 (by kernel_rfl) (by simp [sub_cons, sub_nil, get_cons]) ⟨by omega, _, _, _, rfl, vinv_start p, fun _ h => h, fun x h => by omega⟩ ?_
    rintro c s2 ⟨hc, dn, op, g, rfl, hV, hod, hdc⟩
    by_cases hlt : c < p.length
    · have d1 : decide ((c : Int) < (p.length : Int)) = true := decide_eq_true (by omega)
      have wc : IntKind.i64.wrap ((c : Int) + 1) = ((c + 1 : Nat) : Int) := by rw [wrap_i64 (by omega) (by omega)]; rfl
      have hcall := c_visit p hI hp hs σ' T D O σ.length db ob vb hB _ dn op g c hV hlt (fun x h1 h2 => by rw [hod x h1] at h2; cases h2) (Nat.le_refl _)
      simp -implicitDefEqProofs only [hml,d1,hB.box hB.b5,Q0,Q1,Q2,Q3,Q4,Q5,Q6,Q7,Q8,Q9,Qa,Qb,Qc,Qd,Qe,Qf,Qg,Qh,Qi,Qj,Qk,Ql,Qm,Qn,Qo,Qp,Qq,Qr,Qs,Qt,Qu,Qv,Qw,Qx,Qy,Qz,QA,QB,QC,QD,QE,QF,QG,QH,QI,QJ,QK,QL,QM,QN,QO,QP,QQ,QR,QS,QT,QU,QV,QW,QX,QY,QZ,X0,X1,X2,X3,X4,X5,X6,X7,X8,X9,Xa,Xb,Xc,Xd,Xe,Xf,Xg,Xh,Xi,Xj,Xk,Xl,Xm,Xn,Xo,Xp,Xq,Xr,Xs,Xt,Xu,Xv,Xw,Xx,Xy,Xz,XA,XB,reduceIte,reduceCtorEq,XC,XD,XE,XF,XG,XH,XI,XJ,XK,XL,XM,XN,XO,XP,XQ,XR,XS,XT,XU,XV,XW,XX,XY,XZ,Y0,Try.q3,Try.q4,Try.q22,Try.q23,Try.q25,Try.underlying63,Try.q63,Try.underlying65,Try.q65,Try.underlying69,Try.q69,Try.q89]
      simp only [fvV]
      simp -implicitDefEqProofs only [hml,Q0,Q1,Q2,Q3,Q4,Q5,Q6,Q7,Q8,Q9,Qa,Qb,Qc,Qd,Qe,Qf,Qg,Qh,Qi,Qj,Qk,Ql,Qm,Qn,Qo,Qp,Qq,Qr,Qs,Qt,Qu,Qv,Qw,Qx,Qy,Qz,QA,QB,QC,QD,QE,QF,QG,QH,QI,QJ,QK,QL,QM,QN,QO,QP,QQ,QR,QS,QT,QU,QV,QW,QX,QY,QZ,X0,X1,X2,X3,X4,X5,X6,X7,X8,X9,Xa,Xb,Xc,Xd,Xe,Xf,Xg,Xh,Xi,Xj,Xk,Xl,Xm,Xn,Xo,Xp,Xq,Xr,Xs,Xt,Xu,Xv,Xw,Xx,Xy,Xz,XA,XB,reduceIte,reduceCtorEq,XC,XD,XE,XF,XG,XH,XI,XJ,XK,XL,XM,XN,XO,XP,XQ,XR,XS,XT,XU,XV,XW,XX,XY,XZ,Y0,Try.q3,Try.q4,Try.q22,Try.q23,Try.q25,Try.underlying63,Try.q63,Try.underlying65,Try.q65,Try.underlying69,Try.q69,Try.q89]
      refine ACalls.mono hcall ?_
      rintro _ _ ⟨b, dn2, op2, g2, rfl, rfl, hT1, hT2⟩
      cases b with
      | false =>
        simp -implicitDefEqProofs only [hml,Q0,Q1,Q2,Q3,Q4,Q5,Q6,Q7,Q8,Q9,Qa,Qb,Qc,Qd,Qe,Qf,Qg,Qh,Qi,Qj,Qk,Ql,Qm,Qn,Qo,Qp,Qq,Qr,Qs,Qt,Qu,Qv,Qw,Qx,Qy,Qz,QA,QB,QC,QD,QE,QF,QG,QH,QI,QJ,QK,QL,QM,QN,QO,QP,QQ,QR,QS,QT,QU,QV,QW,QX,QY,QZ,X0,X1,X2,X3,X4,X5,X6,X7,X8,X9,Xa,Xb,Xc,Xd,Xe,Xf,Xg,Xh,Xi,Xj,Xk,Xl,Xm,Xn,Xo,Xp,Xq,Xr,Xs,Xt,Xu,Xv,Xw,Xx,Xy,Xz,XA,XB,reduceIte,reduceCtorEq,XC,XD,XE,XF,XG,XH,XI,XJ,XK,XL,XM,XN,XO,XP,XQ,XR,XS,XT,XU,XV,XW,XX,XY,XZ,Y0,Try.q3,Try.q4,Try.q22,Try.q23,Try.q25,Try.underlying63,Try.q63,Try.underlying65,Try.q65,Try.underlying69,Try.q69,Try.q89]
        obtain ⟨x, hx⟩ := hT2 rfl
        have hna : acyB p = false := by
          cases h : acyB p with
          | false => rfl
          | true => exact absurd hx ((acyB_iff p).1 h x)
        rw [hna]
        exact ⟨g2, rfl, st_ext hB hxs hT hD' hO', fun h => (by cases h)⟩
      | true =>
        have hP := hT1 rfl
        simp -implicitDefEqProofs only [hml,wc,Q0,Q1,Q2,Q3,Q4,Q5,Q6,Q7,Q8,Q9,Qa,Qb,Qc,Qd,Qe,Qf,Qg,Qh,Qi,Qj,Qk,Ql,Qm,Qn,Qo,Qp,Qq,Qr,Qs,Qt,Qu,Qv,Qw,Qx,Qy,Qz,QA,QB,QC,QD,QE,QF,QG,QH,QI,QJ,QK,QL,QM,QN,QO,QP,QQ,QR,QS,QT,QU,QV,QW,QX,QY,QZ,X0,X1,X2,X3,X4,X5,X6,X7,X8,X9,Xa,Xb,Xc,Xd,Xe,Xf,Xg,Xh,Xi,Xj,Xk,Xl,Xm,Xn,Xo,Xp,Xq,Xr,Xs,Xt,Xu,Xv,Xw,Xx,Xy,Xz,XA,XB,reduceIte,reduceCtorEq,XC,XD,XE,XF,XG,XH,XI,XJ,XK,XL,XM,XN,XO,XP,XQ,XR,XS,XT,XU,XV,XW,XX,XY,XZ,Y0,Try.q3,Try.q4,Try.q22,Try.q23,Try.q25,Try.underlying63,Try.q63,Try.underlying65,Try.q65,Try.underlying69,Try.q69,Try.q89]
        refine ⟨c + 1, rfl, ⟨by omega, dn2, op2, g2, rfl, hP.inv, fun x hx => ?_, fun x hx => ?_⟩, by omega⟩
        · cases h : dn2 x with
          | true => rfl
          | false =>
            obtain ⟨h1, h2⟩ := hP.no x hx h
            rw [hod x h1] at h2; cases h2
        · by_cases e : x = c
          · rw [e]; exact hP.dc
          · exact hP.md x (hdc x (by omega))
    · have d1 : decide ((c : Int) < (p.length : Int)) = false := decide_eq_false (by omega)
      simp -implicitDefEqProofs only [hml,d1,Q0,Q1,Q2,Q3,Q4,Q5,Q6,Q7,Q8,Q9,Qa,Qb,Qc,Qd,Qe,Qf,Qg,Qh,Qi,Qj,Qk,Ql,Qm,Qn,Qo,Qp,Qq,Qr,Qs,Qt,Qu,Qv,Qw,Qx,Qy,Qz,QA,QB,QC,QD,QE,QF,QG,QH,QI,QJ,QK,QL,QM,QN,QO,QP,QQ,QR,QS,QT,QU,QV,QW,QX,QY,QZ,X0,X1,X2,X3,X4,X5,X6,X7,X8,X9,Xa,Xb,Xc,Xd,Xe,Xf,Xg,Xh,Xi,Xj,Xk,Xl,Xm,Xn,Xo,Xp,Xq,Xr,Xs,Xt,Xu,Xv,Xw,Xx,Xy,Xz,XA,XB,reduceIte,reduceCtorEq,XC,XD,XE,XF,XG,XH,XI,XJ,XK,XL,XM,XN,XO,XP,XQ,XR,XS,XT,XU,XV,XW,XX,XY,XZ,Y0,Try.q3,Try.q4,Try.q22,Try.q23,Try.q25,Try.underlying63,Try.q63,Try.underlying65,Try.q65,Try.underlying69,Try.q69,Try.q89]
      have hac : acyB p = true := (acyB_iff p).2 fun x hx => by
        obtain ⟨y, h1, h2⟩ := hx
        have hl := (par_lt hI h1).1
        exact hV.acy x (hdc x (by omega)) ⟨y, h1, h2⟩
      rw [hac]
      refine ⟨g, rfl, st_ext hB hxs hT hD' hO', fun _ => grid_eq fun k hk => ?_⟩
      have ek : k / 64 * 64 + k % 64 = k := by omega
      by_cases hr : k / 64 < p.length
      · have := hV.row (k / 64) (k % 64) hr (by omega) (hdc _ (by omega))
        rwa [ek] at this
      · have h1 := relG_hi p hr (d := k % 64) (by omega)
        have h2 := hV.emp (k / 64) (k % 64) (by omega) (by omega) (by
          cases h : op (k / 64) with
          | false => rfl
          | true => exact absurd (hV.lim _ h) hr)
        rw [ek] at h1 h2
        rw [h1, h2]

end Go.Proofs
