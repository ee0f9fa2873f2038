/-
  Taxonomies: visit; contract.
-/
import Derived.Test.YteejpckkgepecaaTe
namespace Go.Proofs
open Go.Pa
open Go.Pa renaming VB0 → Q0, VB1 → Q1, VB2 → Q2, VB3 → Q3, VB4 → Q4, VB5 → Q5, VB6 → Q6, VB7 → Q7, VB8 → Q8, VB9 → Q9, condV_bool → Qa, guardV_bool → Qb, vcS → Qc, evA → Qd, evBin → Qe, nilA → Qf, nilOf → Qg, intOp → Qh, strOp → Qi, evUn → Qj, evConv → Qk, evField → Ql, evFieldAddr → Qm, evIndexAddr → Qn, evIndex → Qo, evIndexA → Qp, bnd → Qq, evSlice → Qr, evLen → Qs, evPick → Qt, evExtract → Qu, evNilCheck → Qv, evMin → Qw, evMax → Qx, evLoadI → Qy, partsOne → QA, intsOf → QB, rowsAV → QC, evBuildSlice → QD, evBuild → QE, fillA → QF, splice → QG, evBuiltin → QH, guardD_bool → QI, dOp → QJ, cl → QK, vcLoad → QL, vcStore → QM, vcMake → QN, convA → QO, evIndexArr → QP, retA → QQ, ressA → QR, resA → QS, envOf → QT, condR_bool → QX, asgEnv → QY, parEnv → QZ, dstAt → XI, vcLook → XT, vcPut → XU, vcEnt → XV, vcESt → XW, vcMLen → XX, vcDel → XY, vcClear → XZ, vcLookD → Y0
open Go.Pa.AV renaming cell → Qz
open Go.Pa.Env renaming put → QU
open List renaming set_cons_zero → QV, set_cons_succ → QW, foldl_cons → X0, foldl_nil → X1, map_cons → X2, map_nil → X3, toList_toArray → X4, getElem?_cons_zero → X5, getElem?_cons_succ → X6, nil_append → Xa, append_nil → Xb, cons_append → Xc, singleton_append → Xd, length_cons → Xe, length_nil → Xf, all_cons → Xg, all_nil → Xh, take_succ_cons → Xi, take_zero → Xj, take_nil → Xk, drop_zero → Xl, drop_succ_cons → Xm, drop_nil → Xn, contains_nil → Xo, contains_cons → Xp
open Option renaming bind_some → X7, map_some → X8, map_none → X9
open Bool renaming or_false → Xq, false_or → Xr, or_true → Xs, true_or → Xt, false_eq_true → XC, not_true → XD, not_false → XE, and_true → XF, true_and → XG, and_self → XH
open Nat renaming reduceEqDiff → Xu, reduceAdd → Xv, reduceSub → Xw, reduceMul → Xx, reduceLT → Xy, reduceLeDiff → Xz, reduceBNe → XA, reduceBEq → XB, zero_add → XL, add_zero → XM
open UInt8 renaming reduceToNat → XJ
open Int renaming cast_ofNat_Int → XK, reduceToNat → XN, reduceLT → XO, reduceLE → XP, reduceNeg → XQ, reduceEq → XR, reduceNe → XS
set_option linter.unusedSimpArgs false
set_option linter.unusedVariables false
set_option maxRecDepth 20000
set_option maxHeartbeats 2000000

def fvV (db ob tb vb : Nat) : AV := .fn 67 [] [.ptr db 0, .ptr ob 0, .ptr tb 0, .ptr vb 0]

/-- What visit reads and writes. -/
def ST (p : List (List Int)) (σ : Store) (T D O : Nat) (dn op g : Nat → Bool) : Store :=
  ((σ.set T (.box (.rows 1 (p.map rowI) :: gridL g))).set D (.vecR 1 (bl p.length dn))).set O (.vecR 1 (bl p.length op))

/-- What visit has captured. -/
structure VB (p : List (List Int)) (σ : Store) (T D O tb db ob vb : Nat) : Prop where
  kT : ∃ g, σ[T]? = some (.box (.rows 1 (p.map rowI) :: gridL g))
  kD : ∃ f, σ[D]? = some (.vecR 1 (bl p.length f))
  kO : ∃ f, σ[O]? = some (.vecR 1 (bl p.length f))
  ne : D ≠ O
  b0 : σ[tb]? = some (.box [.ptr T 0])
  b3 : σ[db]? = some (.box [.mvec D 0 p.length 1])
  b4 : σ[ob]? = some (.box [.mvec O 0 p.length 1])
  b5 : σ[vb]? = some (.box [fvV db ob tb vb])

section
variable {p : List (List Int)} {σ : Store} {T D O tb db ob vb : Nat} {dn op g : Nat → Bool}

theorem VB.TD (h : VB p σ T D O tb db ob vb) : T ≠ D := by
  rintro rfl
  obtain ⟨g, h1⟩ := h.kT
  obtain ⟨f, h2⟩ := h.kD
  rw [h1] at h2; cases h2
theorem VB.TO (h : VB p σ T D O tb db ob vb) : T ≠ O := by
  rintro rfl
  obtain ⟨g, h1⟩ := h.kT
  obtain ⟨f, h2⟩ := h.kO
  rw [h1] at h2; cases h2
theorem VB.box (h : VB p σ T D O tb db ob vb) {i : Nat} {x : AV} (hi : σ[i]? = some (.box [x])) : (ST p σ T D O dn op g)[i]? = some (.box [x]) := by
  have n1 : T ≠ i := by
    rintro rfl
    obtain ⟨g, h1⟩ := h.kT
    rw [h1, Option.some.injEq, AObj.box.injEq] at hi
    have := congrArg List.length hi
    rw [List.length_cons, gridL_len] at this
    simp at this
  have n2 : D ≠ i := by
    rintro rfl
    obtain ⟨f, h2⟩ := h.kD
    rw [h2] at hi; cases hi
  have n3 : O ≠ i := by
    rintro rfl
    obtain ⟨f, h2⟩ := h.kO
    rw [h2] at hi; cases hi
  unfold ST
  rw [List.getElem?_set_ne n3, List.getElem?_set_ne n2, List.getElem?_set_ne n1, hi]
theorem VB.lt {i : Nat} {x : AObj} (h : σ[i]? = some x) : i < σ.length := (List.getElem?_eq_some_iff.1 h).1
theorem st_T (h : VB p σ T D O tb db ob vb) : (ST p σ T D O dn op g)[T]? = some (.box (.rows 1 (p.map rowI) :: gridL g)) := by
  obtain ⟨_, h1⟩ := h.kT
  unfold ST
  rw [List.getElem?_set_ne h.TO.symm, List.getElem?_set_ne h.TD.symm, List.getElem?_set_self (VB.lt h1)]
theorem st_1 (h : VB p σ T D O tb db ob vb) : (ST p σ T D O dn op g)[D]? = some (.vecR 1 (bl p.length dn)) := by
  obtain ⟨_, h1⟩ := h.kD
  unfold ST
  rw [List.getElem?_set_ne h.ne.symm, List.getElem?_set_self (by rw [List.length_set]; exact VB.lt h1)]
theorem st_2 (h : VB p σ T D O tb db ob vb) : (ST p σ T D O dn op g)[O]? = some (.vecR 1 (bl p.length op)) := by
  obtain ⟨_, h1⟩ := h.kO
  unfold ST
  rw [List.getElem?_set_self (by rw [List.length_set, List.length_set]; exact VB.lt h1)]
theorem st_setT (h : VB p σ T D O tb db ob vb) (g' : Nat → Bool) : (ST p σ T D O dn op g).set T (.box (.rows 1 (p.map rowI) :: gridL g')) = ST p σ T D O dn op g' := by
  unfold ST
  rw [List.set_comm _ _ h.TO.symm, List.set_comm _ _ h.TD.symm, List.set_set]
theorem st_set1 (h : VB p σ T D O tb db ob vb) (dn' : Nat → Bool) : (ST p σ T D O dn op g).set D (.vecR 1 (bl p.length dn')) = ST p σ T D O dn' op g := by
  unfold ST
  rw [List.set_comm _ _ h.ne.symm, List.set_set]
theorem st_set2 (h : VB p σ T D O tb db ob vb) (op' : Nat → Bool) : (ST p σ T D O dn op g).set O (.vecR 1 (bl p.length op')) = ST p σ T D O dn op' g := by
  unfold ST
  rw [List.set_set]
end

theorem grid_splice (r : AV) (g : Nat → Bool) {k : Nat} (h : k < 4096) (b : Bool) : splice (r :: gridL g) (1 + k) [.bool b] = r :: gridL (upd g k b) := by
  rw [← gridL_set g h b]
  unfold splice
  rw [Nat.add_comm 1 k]
  rfl

theorem grid_put (r : AV) (g : Nat → Bool) {k : Nat} (h : k < 4096) (b : Bool) : List.take (1 + k) (r :: gridL g) ++ [AV.bool b] ++ List.drop (1 + k) (gridL g) = r :: gridL (upd g k b) := by
  rw [← gridL_set g h b, Nat.add_comm 1 k]
  rfl

theorem grid_row (r : AV) (g : Nat → Bool) {q : Nat} (h : q < 64) : List.take 64 (List.drop (1 + q * 64) (r :: gridL g)) = (List.range 64).map fun d => AV.bool (g (q * 64 + d)) := by
  rw [← gridL_row g h, Nat.add_comm 1]
  rfl

theorem row_drop (g : Nat → Bool) (q : Nat) {d : Nat} (h : d < 64) : List.drop d ((List.range 64).map fun d => AV.bool (g (q * 64 + d))) = .bool (g (q * 64 + d)) :: List.drop (d + 1) ((List.range 64).map fun d => AV.bool (g (q * 64 + d))) := by
  have h1 : d < ((List.range 64).map fun d => AV.bool (g (q * 64 + d))).length := by simpa using h
  rw [List.drop_eq_getElem_cons h1]
  simp

theorem grid_drop (r : AV) (g : Nat → Bool) {k : Nat} (h : k < 4096) : (r :: gridL g).drop (1 + k) = .bool (g k) :: (gridL g).drop (k + 1) := by
  rw [Nat.add_comm 1 k]
  exact gridL_drop g h

theorem c_visit (p : List (List Int)) (hI : InR p) (hp : p.length ≤ 64) (hs : ∀ l ∈ p, l.length ≤ 64) (σ : Store) (T D O tb db ob vb : Nat) (hB : VB p σ T D O tb db ob vb) : ∀ (k : Nat) (dn op g : Nat → Bool) (c : Nat), VInv p dn op g → c < p.length → (∀ x, op x = true → dn x = false → Inh p x c) → cnt p.length op ≤ k →
    ACalls Try.prog 67 [.int .i64 c, .ptr db 0, .ptr ob 0, .ptr tb 0, .ptr vb 0] (ST p σ T D O dn op g)
      (fun r s => ∃ b dn' op' g', r = .bool b ∧ s = ST p σ T D O dn' op' g' ∧ (b = true → VPost p c dn op g dn' op' g') ∧ (b = false → ∃ x, Inh p x x)) := by
  intro k
  induction k using Nat.strongRecOn with
  | ind k ih =>
    intro dn op g c hV hc hst hcnt
    have b1 : (0 : Int) ≤ (c : Int) ∧ (c : Int) < (p.length : Int) := by omega
    have hdg := bl_get dn hc
    have hog := bl_get op hc
    have hld : c < (bl p.length dn).length := by rw [bl_len]; exact hc
    have hlo : c < (bl p.length op).length := by rw [bl_len]; exact hc
    cases hd : dn c with
    | true =>
      rw [hd] at hdg
      refine acalls_of_vc (fn := Try.f67) Try.call67 Try.func67 rfl (by kernel_rfl) (by simp [Try.ntmps67]) ?_; simp -implicitDefEqProofs only [Try.ntmps67,Try.results67,Q0,Q1,Q2,Q3,Q4,Q5,Q6,Q7,Q8,Q9,Qa,Qb,Qc,Qd,Qe,Qf,Qg,Qh,Qi,Qj,Qk,Ql,Qm,Qn,Qo,Qp,Qq,Qr,Qs,Qt,Qu,Qv,Qw,Qx,Qy,Qz,QA,QB,QC,QD,QE,QF,QG,QH,QI,QJ,QK,QL,QM,QN,QO,QP,QQ,QR,QS,QT,QU,QV,QW,QX,QY,QZ,X0,X1,X2,X3,X4,X5,X6,X7,X8,X9,Xa,Xb,Xc,Xd,Xe,Xf,Xg,Xh,Xi,Xj,Xk,Xl,Xm,Xn,Xo,Xp,Xq,Xr,Xs,Xt,Xu,Xv,Xw,Xx,Xy,Xz,XA,XB,reduceIte,reduceCtorEq,XC,XD,XE,XF,XG,XH,XI,XJ,XK,XL,XM,XN,XO,XP,XQ,XR,XS,XT,XU,XV,XW,XX,XY,XZ,Y0,Try.q3,Try.q4,Try.q22,Try.q23,Try.q25,Try.underlying62,Try.q62,Try.underlying63,Try.q63,Try.underlying65,Try.q65,Try.underlying69,Try.q69,Try.q89]
      simp -implicitDefEqProofs only [st_1 hB,hB.box hB.b3,Int.toNat_natCast,hdg,Q0,Q1,Q2,Q3,Q4,Q5,Q6,Q7,Q8,Q9,Qa,Qb,Qc,Qd,Qe,Qf,Qg,Qh,Qi,Qj,Qk,Ql,Qm,Qn,Qo,Qp,Qq,Qr,Qs,Qt,Qu,Qv,Qw,Qx,Qy,Qz,QA,QB,QC,QD,QE,QF,QG,QH,QI,QJ,QK,QL,QM,QN,QO,QP,QQ,QR,QS,QT,QU,QV,QW,QX,QY,QZ,X0,X1,X2,X3,X4,X5,X6,X7,X8,X9,Xa,Xb,Xc,Xd,Xe,Xf,Xg,Xh,Xi,Xj,Xk,Xl,Xm,Xn,Xo,Xp,Xq,Xr,Xs,Xt,Xu,Xv,Xw,Xx,Xy,Xz,XA,XB,reduceIte,reduceCtorEq,XC,XD,XE,XF,XG,XH,XI,XJ,XK,XL,XM,XN,XO,XP,XQ,XR,XS,XT,XU,XV,XW,XX,XY,XZ,Y0,Try.q3,Try.q4,Try.q22,Try.q23,Try.q25,Try.underlying62,Try.q62,Try.underlying63,Try.q63,Try.underlying65,Try.q65,Try.underlying69,Try.q69,Try.q89]
      exact ⟨b1, hld, b1, hld, true, dn, op, g, rfl, rfl, fun _ => ⟨hV, hd, fun _ h => h, fun _ h => h, fun _ h1 h2 => ⟨h2, fun _ _ => rfl⟩, fun _ h1 h2 => ⟨h1, h2⟩⟩, fun h => by (cases h)⟩
    | false =>
      rw [hd] at hdg
      cases ho : op c with
      | true =>
        rw [ho] at hog
        refine acalls_of_vc (fn := Try.f67) Try.call67 Try.func67 rfl (by kernel_rfl) (by simp [Try.ntmps67]) ?_; simp -implicitDefEqProofs only [Try.ntmps67,Try.results67,Q0,Q1,Q2,Q3,Q4,Q5,Q6,Q7,Q8,Q9,Qa,Qb,Qc,Qd,Qe,Qf,Qg,Qh,Qi,Qj,Qk,Ql,Qm,Qn,Qo,Qp,Qq,Qr,Qs,Qt,Qu,Qv,Qw,Qx,Qy,Qz,QA,QB,QC,QD,QE,QF,QG,QH,QI,QJ,QK,QL,QM,QN,QO,QP,QQ,QR,QS,QT,QU,QV,QW,QX,QY,QZ,X0,X1,X2,X3,X4,X5,X6,X7,X8,X9,Xa,Xb,Xc,Xd,Xe,Xf,Xg,Xh,Xi,Xj,Xk,Xl,Xm,Xn,Xo,Xp,Xq,Xr,Xs,Xt,Xu,Xv,Xw,Xx,Xy,Xz,XA,XB,reduceIte,reduceCtorEq,XC,XD,XE,XF,XG,XH,XI,XJ,XK,XL,XM,XN,XO,XP,XQ,XR,XS,XT,XU,XV,XW,XX,XY,XZ,Y0,Try.q3,Try.q4,Try.q22,Try.q23,Try.q25,Try.underlying62,Try.q62,Try.underlying63,Try.q63,Try.underlying65,Try.q65,Try.underlying69,Try.q69,Try.q89]
        simp -implicitDefEqProofs only [st_1 hB,st_2 hB,hB.box hB.b3,hB.box hB.b4,Int.toNat_natCast,hdg,hog,Q0,Q1,Q2,Q3,Q4,Q5,Q6,Q7,Q8,Q9,Qa,Qb,Qc,Qd,Qe,Qf,Qg,Qh,Qi,Qj,Qk,Ql,Qm,Qn,Qo,Qp,Qq,Qr,Qs,Qt,Qu,Qv,Qw,Qx,Qy,Qz,QA,QB,QC,QD,QE,QF,QG,QH,QI,QJ,QK,QL,QM,QN,QO,QP,QQ,QR,QS,QT,QU,QV,QW,QX,QY,QZ,X0,X1,X2,X3,X4,X5,X6,X7,X8,X9,Xa,Xb,Xc,Xd,Xe,Xf,Xg,Xh,Xi,Xj,Xk,Xl,Xm,Xn,Xo,Xp,Xq,Xr,Xs,Xt,Xu,Xv,Xw,Xx,Xy,Xz,XA,XB,reduceIte,reduceCtorEq,XC,XD,XE,XF,XG,XH,XI,XJ,XK,XL,XM,XN,XO,XP,XQ,XR,XS,XT,XU,XV,XW,XX,XY,XZ,Y0,Try.q3,Try.q4,Try.q22,Try.q23,Try.q25,Try.underlying62,Try.q62,Try.underlying63,Try.q63,Try.underlying65,Try.q65,Try.underlying69,Try.q69,Try.q89]
        exact ⟨b1, hld, b1, hlo, b1, hld, false, dn, op, g, rfl, rfl, ⟨fun h => by (cases h), fun _ => ⟨c, hst c ho hd⟩⟩⟩
      | false =>
        rw [ho] at hog
        have hsp : splice [AV.bool false] 0 [AV.bool true] = [AV.bool true] := rfl
        have hcl : ∀ g, (AV.rows 1 (p.map rowI) :: gridL g).length = 4097 := fun g => by rw [List.length_cons, gridL_len]
        have e1 : ∀ g b d, d < 64 → List.take (1 + c * 64 + d) (AV.rows 1 (p.map rowI) :: gridL g) ++ [AV.bool b] ++ List.drop (1 + c * 64 + d) (gridL g) = AV.rows 1 (p.map rowI) :: gridL (upd g (c * 64 + d) b) := fun g b d hd => by rw [Nat.add_assoc]; exact grid_put _ g (by omega) b
        have e2 := fun g b => e1 g b c (by omega)
        have hrow := rowI_get p hc
        refine acalls_of_vc (fn := Try.f67) Try.call67 Try.func67 rfl (by kernel_rfl) (by simp [Try.ntmps67]) ?_; simp -implicitDefEqProofs only [Try.ntmps67,Try.results67,Q0,Q1,Q2,Q3,Q4,Q5,Q6,Q7,Q8,Q9,Qa,Qb,Qc,Qd,Qe,Qf,Qg,Qh,Qi,Qj,Qk,Ql,Qm,Qn,Qo,Qp,Qq,Qr,Qs,Qt,Qu,Qv,Qw,Qx,Qy,Qz,QA,QB,QC,QD,QE,QF,QG,QH,QI,QJ,QK,QL,QM,QN,QO,QP,QQ,QR,QS,QT,QU,QV,QW,QX,QY,QZ,X0,X1,X2,X3,X4,X5,X6,X7,X8,X9,Xa,Xb,Xc,Xd,Xe,Xf,Xg,Xh,Xi,Xj,Xk,Xl,Xm,Xn,Xo,Xp,Xq,Xr,Xs,Xt,Xu,Xv,Xw,Xx,Xy,Xz,XA,XB,reduceIte,reduceCtorEq,XC,XD,XE,XF,XG,XH,XI,XJ,XK,XL,XM,XN,XO,XP,XQ,XR,XS,XT,XU,XV,XW,XX,XY,XZ,Y0,Try.q3,Try.q4,Try.q22,Try.q23,Try.q25,Try.underlying62,Try.q62,Try.underlying63,Try.q63,Try.underlying65,Try.q65,Try.underlying69,Try.q69,Try.q89]
        simp -implicitDefEqProofs only [st_1 hB,st_2 hB,hB.box hB.b3,hB.box hB.b4,hB.box hB.b0,st_T hB,Int.toNat_natCast,hdg,hog,hsp,bl_set op hc,st_set2 hB,st_setT hB,hcl,Nat.mul_one,e2,hrow,List.length_map,Q0,Q1,Q2,Q3,Q4,Q5,Q6,Q7,Q8,Q9,Qa,Qb,Qc,Qd,Qe,Qf,Qg,Qh,Qi,Qj,Qk,Ql,Qm,Qn,Qo,Qp,Qq,Qr,Qs,Qt,Qu,Qv,Qw,Qx,Qy,Qz,QA,QB,QC,QD,QE,QF,QG,QH,QI,QJ,QK,QL,QM,QN,QO,QP,QQ,QR,QS,QT,QU,QV,QW,QX,QY,QZ,X0,X1,X2,X3,X4,X5,X6,X7,X8,X9,Xa,Xb,Xc,Xd,Xe,Xf,Xg,Xh,Xi,Xj,Xk,Xl,Xm,Xn,Xo,Xp,Xq,Xr,Xs,Xt,Xu,Xv,Xw,Xx,Xy,Xz,XA,XB,reduceIte,reduceCtorEq,XC,XD,XE,XF,XG,XH,XI,XJ,XK,XL,XM,XN,XO,XP,XQ,XR,XS,XT,XU,XV,XW,XX,XY,XZ,Y0,Try.q3,Try.q4,Try.q22,Try.q23,Try.q25,Try.underlying62,Try.q62,Try.underlying63,Try.q63,Try.underlying65,Try.q65,Try.underlying69,Try.q69,Try.q89]
        have hgc : p.getD c [] = p[c] := getD_get hc
        have hlc : p[c].length ≤ 64 := hs _ (List.getElem_mem hc)
        refine ⟨b1, hld, b1, hlo, b1, hlo, by omega, by omega, by omega, b1, ?_⟩
        refine awp_loop (fun i : Nat => [(43, .int .i64 i), (42, .int .i64 p[c].length), (41, .ints .i64 p[c]), (0, .int .i64 c), (1, .ptr db 0), (2, .ptr ob 0), (3, .ptr tb 0), (4, .ptr vb 0)])
          (fun i s => i ≤ p[c].length ∧ ∃ dn' op' g', s = ST p σ T D O dn' op' g' ∧ VMid p c i dn op g dn' op' g') (fun i => p[c].length - i) 0 (by kernel_rfl) (by simp [sub_cons, sub_nil, get_cons]) ⟨by omega, dn, _, _, rfl, .start hV ho (by omega) hc⟩ ?_
        rintro i s ⟨hi, dn', op', g', rfl, hM⟩
        by_cases hlt : i < p[c].length
        · have d1 : decide ((i : Int) < (p[c].length : Int)) = true := decide_eq_true (by omega)
          have wi : IntKind.i64.wrap ((i : Int) + 1) = ((i + 1 : Nat) : Int) := by rw [wrap_i64 (by omega) (by omega)]; rfl
          have hpar : Par p c (p[c].getD i 0).toNat := by have := at_par (j := i) hI hc (by rw [hgc]; exact hlt); rwa [hgc] at this
          have hq := (par_lt hI hpar).2
          have hx := hI _ (List.getElem_mem hc) (p[c].getD i 0) (by rw [getD_get hlt]; exact List.getElem_mem hlt)
          have hqe : p[c].getD i 0 = (((p[c].getD i 0).toNat : Nat) : Int) := by omega
          have hqi : ((p.getD c []).getD i 0).toNat = (p[c].getD i 0).toNat := by rw [hgc]
          generalize (p[c].getD i 0).toNat = q at hpar hq hqe hqi
          have hcall := ih (cnt p.length op') (Nat.lt_of_le_of_lt (cnt_mono (f := upd op c true) (fun x hx => by
              unfold upd at hx
              by_cases e : x = c
              · rw [e]; exact hM.oc
              · rw [if_neg e] at hx; exact hM.mo x hx) _) (Nat.lt_of_lt_of_le (cnt_lt ho _ hc) hcnt)) dn' op' g' q hM.inv hq (fun x hx hdx => by
              rcases hM.no x hx hdx with h | ⟨h1, h2⟩
              · rw [h]; exact ⟨q, hpar, .refl q⟩
              · exact Inh.snoc (hst x h1 h2).rch hpar) (Nat.le_refl _)
          have bi : (0 : Int) ≤ (i : Int) ∧ (i : Int) < (p[c].length : Int) := by omega
          simp -implicitDefEqProofs only [d1,Int.toNat_natCast,hqe,hB.box hB.b5,Q0,Q1,Q2,Q3,Q4,Q5,Q6,Q7,Q8,Q9,Qa,Qb,Qc,Qd,Qe,Qf,Qg,Qh,Qi,Qj,Qk,Ql,Qm,Qn,Qo,Qp,Qq,Qr,Qs,Qt,Qu,Qv,Qw,Qx,Qy,Qz,QA,QB,QC,QD,QE,QF,QG,QH,QI,QJ,QK,QL,QM,QN,QO,QP,QQ,QR,QS,QT,QU,QV,QW,QX,QY,QZ,X0,X1,X2,X3,X4,X5,X6,X7,X8,X9,Xa,Xb,Xc,Xd,Xe,Xf,Xg,Xh,Xi,Xj,Xk,Xl,Xm,Xn,Xo,Xp,Xq,Xr,Xs,Xt,Xu,Xv,Xw,Xx,Xy,Xz,XA,XB,reduceIte,reduceCtorEq,XC,XD,XE,XF,XG,XH,XI,XJ,XK,XL,XM,XN,XO,XP,XQ,XR,XS,XT,XU,XV,XW,XX,XY,XZ,Y0,Try.q3,Try.q4,Try.q22,Try.q23,Try.q25,Try.underlying62,Try.q62,Try.underlying63,Try.q63,Try.underlying65,Try.q65,Try.underlying69,Try.q69,Try.q89]
          simp only [fvV]
          simp -implicitDefEqProofs only [Q0,Q1,Q2,Q3,Q4,Q5,Q6,Q7,Q8,Q9,Qa,Qb,Qc,Qd,Qe,Qf,Qg,Qh,Qi,Qj,Qk,Ql,Qm,Qn,Qo,Qp,Qq,Qr,Qs,Qt,Qu,Qv,Qw,Qx,Qy,Qz,QA,QB,QC,QD,QE,QF,QG,QH,QI,QJ,QK,QL,QM,QN,QO,QP,QQ,QR,QS,QT,QU,QV,QW,QX,QY,QZ,X0,X1,X2,X3,X4,X5,X6,X7,X8,X9,Xa,Xb,Xc,Xd,Xe,Xf,Xg,Xh,Xi,Xj,Xk,Xl,Xm,Xn,Xo,Xp,Xq,Xr,Xs,Xt,Xu,Xv,Xw,Xx,Xy,Xz,XA,XB,reduceIte,reduceCtorEq,XC,XD,XE,XF,XG,XH,XI,XJ,XK,XL,XM,XN,XO,XP,XQ,XR,XS,XT,XU,XV,XW,XX,XY,XZ,Y0,Try.q3,Try.q4,Try.q22,Try.q23,Try.q25,Try.underlying62,Try.q62,Try.underlying63,Try.q63,Try.underlying65,Try.q65,Try.underlying69,Try.q69,Try.q89]
          refine ⟨bi, ?_⟩
          refine ACalls.mono hcall ?_
          rintro _ _ ⟨b, dn2, op2, g2, rfl, rfl, hT1, hT2⟩
          cases b with
          | false =>
            simp -implicitDefEqProofs only [Q0,Q1,Q2,Q3,Q4,Q5,Q6,Q7,Q8,Q9,Qa,Qb,Qc,Qd,Qe,Qf,Qg,Qh,Qi,Qj,Qk,Ql,Qm,Qn,Qo,Qp,Qq,Qr,Qs,Qt,Qu,Qv,Qw,Qx,Qy,Qz,QA,QB,QC,QD,QE,QF,QG,QH,QI,QJ,QK,QL,QM,QN,QO,QP,QQ,QR,QS,QT,QU,QV,QW,QX,QY,QZ,X0,X1,X2,X3,X4,X5,X6,X7,X8,X9,Xa,Xb,Xc,Xd,Xe,Xf,Xg,Xh,Xi,Xj,Xk,Xl,Xm,Xn,Xo,Xp,Xq,Xr,Xs,Xt,Xu,Xv,Xw,Xx,Xy,Xz,XA,XB,reduceIte,reduceCtorEq,XC,XD,XE,XF,XG,XH,XI,XJ,XK,XL,XM,XN,XO,XP,XQ,XR,XS,XT,XU,XV,XW,XX,XY,XZ,Y0,Try.q3,Try.q4,Try.q22,Try.q23,Try.q25,Try.underlying62,Try.q62,Try.underlying63,Try.q63,Try.underlying65,Try.q65,Try.underlying69,Try.q69,Try.q89]
            exact ⟨false, dn2, op2, g2, rfl, rfl, ⟨fun h => by (cases h), hT2⟩⟩
          | true =>
            have hP := hT1 rfl
            have bq : (0 : Int) ≤ (q : Int) ∧ (q : Int) < 64 := by omega
            have hrow2 := grid_row (.rows 1 (p.map rowI)) g2 (q := q) (by omega)
            have hsame : ((List.range 64).map fun d => AV.bool (g2 (q * 64 + d))) = (List.range 64).map fun d => AV.bool (relG p (q * 64 + d)) := by
              apply List.map_congr_left
              intro d hd
              rw [hP.inv.row q d hq (List.mem_range.1 hd) hP.dc]
            rw [hsame] at hrow2
            have hlen2 : ((List.range 64).map fun d => AV.bool (relG p (q * 64 + d))).length = 64 := by simp
            have hdrop := fun d hd => row_drop (relG p) q (d := d) hd
            have hN := VMid.next hM hP hc ho hp hq hqi
            generalize ((List.range 64).map fun d => AV.bool (relG p (q * 64 + d))) = rowL at hrow2 hlen2 hdrop
            simp -implicitDefEqProofs only [hB.box hB.b0,st_T hB,Int.toNat_natCast,Nat.mul_one,hrow2,hlen2,Q0,Q1,Q2,Q3,Q4,Q5,Q6,Q7,Q8,Q9,Qa,Qb,Qc,Qd,Qe,Qf,Qg,Qh,Qi,Qj,Qk,Ql,Qm,Qn,Qo,Qp,Qq,Qr,Qs,Qt,Qu,Qv,Qw,Qx,Qy,Qz,QA,QB,QC,QD,QE,QF,QG,QH,QI,QJ,QK,QL,QM,QN,QO,QP,QQ,QR,QS,QT,QU,QV,QW,QX,QY,QZ,X0,X1,X2,X3,X4,X5,X6,X7,X8,X9,Xa,Xb,Xc,Xd,Xe,Xf,Xg,Xh,Xi,Xj,Xk,Xl,Xm,Xn,Xo,Xp,Xq,Xr,Xs,Xt,Xu,Xv,Xw,Xx,Xy,Xz,XA,XB,reduceIte,reduceCtorEq,XC,XD,XE,XF,XG,XH,XI,XJ,XK,XL,XM,XN,XO,XP,XQ,XR,XS,XT,XU,XV,XW,XX,XY,XZ,Y0,Try.q3,Try.q4,Try.q22,Try.q23,Try.q25,Try.underlying62,Try.q62,Try.underlying63,Try.q63,Try.underlying65,Try.q65,Try.underlying69,Try.q69,Try.q89]
            refine ⟨bq, ?_⟩
            refine awp_loop (fun d : Nat => [(57, .int .i64 d), (56, .agg rowL), (43, .int .i64 i), (42, .int .i64 p[c].length), (41, .ints .i64 p[c]), (0, .int .i64 c), (1, .ptr db 0), (2, .ptr ob 0), (3, .ptr tb 0), (4, .ptr vb 0)])
              (fun d s => d ≤ 64 ∧ s = ST p σ T D O dn2 op2 (join g2 (relG p) c q d)) (fun d => 64 - d) 0 (by kernel_rfl) (by simp [sub_cons, sub_nil, get_cons]) ⟨by omega, by rw [join_zero]⟩ ?_
            rintro d s ⟨hd64, rfl⟩
            by_cases hdl : d < 64
            · have d2 : decide ((d : Int) < 64) = true := decide_eq_true (by omega)
              have wd : IntKind.i64.wrap ((d : Int) + 1) = ((d + 1 : Nat) : Int) := by rw [wrap_i64 (by omega) (by omega)]; rfl
              have bd : (0 : Int) ≤ (d : Int) ∧ (d : Int) < 64 := by omega
              have hdr := hdrop d hdl
              have hjs := join_succ g2 (relG p) c q hdl
              have hja := join_at g2 (relG p) c q hdl
              have e3 := fun g b => e1 g b d hdl
              have hgd : ∀ g, List.drop (1 + c * 64 + d) (AV.rows 1 (p.map rowI) :: gridL g) = .bool (g (c * 64 + d)) :: (gridL g).drop (c * 64 + d + 1) := fun g => by rw [Nat.add_assoc]; exact grid_drop _ g (by omega)
              simp -implicitDefEqProofs only [d2,Int.toNat_natCast,Nat.mul_one,hdr,Q0,Q1,Q2,Q3,Q4,Q5,Q6,Q7,Q8,Q9,Qa,Qb,Qc,Qd,Qe,Qf,Qg,Qh,Qi,Qj,Qk,Ql,Qm,Qn,Qo,Qp,Qq,Qr,Qs,Qt,Qu,Qv,Qw,Qx,Qy,Qz,QA,QB,QC,QD,QE,QF,QG,QH,QI,QJ,QK,QL,QM,QN,QO,QP,QQ,QR,QS,QT,QU,QV,QW,QX,QY,QZ,X0,X1,X2,X3,X4,X5,X6,X7,X8,X9,Xa,Xb,Xc,Xd,Xe,Xf,Xg,Xh,Xi,Xj,Xk,Xl,Xm,Xn,Xo,Xp,Xq,Xr,Xs,Xt,Xu,Xv,Xw,Xx,Xy,Xz,XA,XB,reduceIte,reduceCtorEq,XC,XD,XE,XF,XG,XH,XI,XJ,XK,XL,XM,XN,XO,XP,XQ,XR,XS,XT,XU,XV,XW,XX,XY,XZ,Y0,Try.q3,Try.q4,Try.q22,Try.q23,Try.q25,Try.underlying62,Try.q62,Try.underlying63,Try.q63,Try.underlying65,Try.q65,Try.underlying69,Try.q69,Try.q89]
              refine ⟨bd, ?_⟩
              refine awp_draws [18] Try.mixed (by kernel_rfl) ?_
              have bc : (0 : Int) ≤ (c : Int) ∧ (c : Int) < 64 := by omega
              cases hgx : g2 (c * 64 + d) with
              | true =>
                rw [hgx] at hja hjs
                rw [Bool.true_or] at hjs
                simp -implicitDefEqProofs only [hB.box hB.b0,st_T hB,Int.toNat_natCast,Nat.mul_one,hgd,hja,hcl,e3,hjs,st_setT hB,wd,Q0,Q1,Q2,Q3,Q4,Q5,Q6,Q7,Q8,Q9,Qa,Qb,Qc,Qd,Qe,Qf,Qg,Qh,Qi,Qj,Qk,Ql,Qm,Qn,Qo,Qp,Qq,Qr,Qs,Qt,Qu,Qv,Qw,Qx,Qy,Qz,QA,QB,QC,QD,QE,QF,QG,QH,QI,QJ,QK,QL,QM,QN,QO,QP,QQ,QR,QS,QT,QU,QV,QW,QX,QY,QZ,X0,X1,X2,X3,X4,X5,X6,X7,X8,X9,Xa,Xb,Xc,Xd,Xe,Xf,Xg,Xh,Xi,Xj,Xk,Xl,Xm,Xn,Xo,Xp,Xq,Xr,Xs,Xt,Xu,Xv,Xw,Xx,Xy,Xz,XA,XB,reduceIte,reduceCtorEq,XC,XD,XE,XF,XG,XH,XI,XJ,XK,XL,XM,XN,XO,XP,XQ,XR,XS,XT,XU,XV,XW,XX,XY,XZ,Y0,Try.q3,Try.q4,Try.q22,Try.q23,Try.q25,Try.underlying62,Try.q62,Try.underlying63,Try.q63,Try.underlying65,Try.q65,Try.underlying69,Try.q69,Try.q89]
                exact ⟨bc, bd, bc, bd, by omega, d + 1, rfl, ⟨by omega, rfl⟩, by omega⟩
              | false =>
                rw [hgx] at hja hjs
                rw [Bool.false_or] at hjs
                simp -implicitDefEqProofs only [hB.box hB.b0,st_T hB,Int.toNat_natCast,Nat.mul_one,hgd,hja,hcl,e3,hjs,st_setT hB,wd,Q0,Q1,Q2,Q3,Q4,Q5,Q6,Q7,Q8,Q9,Qa,Qb,Qc,Qd,Qe,Qf,Qg,Qh,Qi,Qj,Qk,Ql,Qm,Qn,Qo,Qp,Qq,Qr,Qs,Qt,Qu,Qv,Qw,Qx,Qy,Qz,QA,QB,QC,QD,QE,QF,QG,QH,QI,QJ,QK,QL,QM,QN,QO,QP,QQ,QR,QS,QT,QU,QV,QW,QX,QY,QZ,X0,X1,X2,X3,X4,X5,X6,X7,X8,X9,Xa,Xb,Xc,Xd,Xe,Xf,Xg,Xh,Xi,Xj,Xk,Xl,Xm,Xn,Xo,Xp,Xq,Xr,Xs,Xt,Xu,Xv,Xw,Xx,Xy,Xz,XA,XB,reduceIte,reduceCtorEq,XC,XD,XE,XF,XG,XH,XI,XJ,XK,XL,XM,XN,XO,XP,XQ,XR,XS,XT,XU,XV,XW,XX,XY,XZ,Y0,Try.q3,Try.q4,Try.q22,Try.q23,Try.q25,Try.underlying62,Try.q62,Try.underlying63,Try.q63,Try.underlying65,Try.q65,Try.underlying69,Try.q69,Try.q89]
                exact ⟨bc, bd, bc, bd, by omega, d + 1, rfl, ⟨by omega, rfl⟩, by omega⟩
            · have d2 : decide ((d : Int) < 64) = false := decide_eq_false (by omega)
              have : d = 64 := by omega
              subst this
              simp -implicitDefEqProofs only [d2,wi,Q0,Q1,Q2,Q3,Q4,Q5,Q6,Q7,Q8,Q9,Qa,Qb,Qc,Qd,Qe,Qf,Qg,Qh,Qi,Qj,Qk,Ql,Qm,Qn,Qo,Qp,Qq,Qr,Qs,Qt,Qu,Qv,Qw,Qx,Qy,Qz,QA,QB,QC,QD,QE,QF,QG,QH,QI,QJ,QK,QL,QM,QN,QO,QP,QQ,QR,QS,QT,QU,QV,QW,QX,QY,QZ,X0,X1,X2,X3,X4,X5,X6,X7,X8,X9,Xa,Xb,Xc,Xd,Xe,Xf,Xg,Xh,Xi,Xj,Xk,Xl,Xm,Xn,Xo,Xp,Xq,Xr,Xs,Xt,Xu,Xv,Xw,Xx,Xy,Xz,XA,XB,reduceIte,reduceCtorEq,XC,XD,XE,XF,XG,XH,XI,XJ,XK,XL,XM,XN,XO,XP,XQ,XR,XS,XT,XU,XV,XW,XX,XY,XZ,Y0,Try.q3,Try.q4,Try.q22,Try.q23,Try.q25,Try.underlying62,Try.q62,Try.underlying63,Try.q63,Try.underlying65,Try.q65,Try.underlying69,Try.q69,Try.q89]
              exact ⟨i + 1, rfl, ⟨by omega, dn2, op2, _, rfl, hN⟩, by omega⟩
        · have d1 : decide ((i : Int) < (p[c].length : Int)) = false := decide_eq_false (by omega)
          have hii : i = (p.getD c []).length := by rw [hgc]; omega
          subst hii
          have hdg' := bl_get dn' hc
          rw [hM.nc] at hdg'
          have hld' : c < (bl p.length dn').length := by rw [bl_len]; exact hc
          have hP := VMid.done hI hM hc ho
          simp -implicitDefEqProofs only [d1,st_1 hB,hB.box hB.b3,Int.toNat_natCast,hdg',bl_set dn' hc,st_set1 hB,hsp,Q0,Q1,Q2,Q3,Q4,Q5,Q6,Q7,Q8,Q9,Qa,Qb,Qc,Qd,Qe,Qf,Qg,Qh,Qi,Qj,Qk,Ql,Qm,Qn,Qo,Qp,Qq,Qr,Qs,Qt,Qu,Qv,Qw,Qx,Qy,Qz,QA,QB,QC,QD,QE,QF,QG,QH,QI,QJ,QK,QL,QM,QN,QO,QP,QQ,QR,QS,QT,QU,QV,QW,QX,QY,QZ,X0,X1,X2,X3,X4,X5,X6,X7,X8,X9,Xa,Xb,Xc,Xd,Xe,Xf,Xg,Xh,Xi,Xj,Xk,Xl,Xm,Xn,Xo,Xp,Xq,Xr,Xs,Xt,Xu,Xv,Xw,Xx,Xy,Xz,XA,XB,reduceIte,reduceCtorEq,XC,XD,XE,XF,XG,XH,XI,XJ,XK,XL,XM,XN,XO,XP,XQ,XR,XS,XT,XU,XV,XW,XX,XY,XZ,Y0,Try.q3,Try.q4,Try.q22,Try.q23,Try.q25,Try.underlying62,Try.q62,Try.underlying63,Try.q63,Try.underlying65,Try.q65,Try.underlying69,Try.q69,Try.q89]
          exact ⟨b1, hld', true, _, _, _, rfl, rfl, fun _ => hP, fun h => by (cases h)⟩

end Go.Proofs
