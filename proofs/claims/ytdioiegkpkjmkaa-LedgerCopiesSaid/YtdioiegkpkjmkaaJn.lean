/-
  The ledger: what is valid; a ledger, and entries posted; contracts.
-/
import Derived.Test.YtdioiegkpkjmkaaJm
namespace Go.Proofs
open Go.Pa
open Go.Pa renaming VB0 → Q0, VB1 → Q1, VB2 → Q2, VB3 → Q3, VB4 → Q4, VB5 → Q5, VB6 → Q6, VB7 → Q7, VB8 → Q8, VB9 → Q9, condV_bool → Qa, guardV_bool → Qb, vcS → Qc, evA → Qd, evBin → Qe, nilA → Qf, nilOf → Qg, intOp → Qh, strOp → Qi, evUn → Qj, evConv → Qk, evField → Ql, evFieldAddr → Qm, evIndexAddr → Qn, evIndex → Qo, evIndexA → Qp, bnd → Qq, evSlice → Qr, evLen → Qs, evPick → Qt, evExtract → Qu, evNilCheck → Qv, evMin → Qw, evMax → Qx, evLoadI → Qy, partsOne → QA, intsOf → QB, rowsAV → QC, evBuildSlice → QD, evBuild → QE, fillA → QF, splice → QG, evBuiltin → QH, guardD_bool → QI, dOp → QJ, cl → QK, vcLoad → QL, vcStore → QM, vcMake → QN, convA → QO, evIndexArr → QP, retA → QQ, ressA → QR, resA → QS, envOf → QT, condR_bool → QX, asgEnv → QY, parEnv → QZ, dstAt → XI, vcLook → XT, vcPut → XU, vcEnt → XV, vcESt → XW, vcMLen → XX, vcDel → XY, vcClear → XZ, vcLookD → Y0
open Go.Pa.AV renaming cell → Qz
open Go.Pa.Env renaming put → QU
open List renaming set_cons_zero → QV, set_cons_succ → QW, foldl_cons → X0, foldl_nil → X1, map_cons → X2, map_nil → X3, toList_toArray → X4, getElem?_cons_zero → X5, getElem?_cons_succ → X6, nil_append → Xa, append_nil → Xb, cons_append → Xc, singleton_append → Xd, length_cons → Xe, length_nil → Xf, all_cons → Xg, all_nil → Xh, take_succ_cons → Xi, take_zero → Xj, take_nil → Xk, drop_zero → Xl, drop_succ_cons → Xm, drop_nil → Xn, contains_nil → Xo, contains_cons → Xp
open Option renaming bind_some → X7, map_some → X8, map_none → X9
open Bool renaming or_false → Xq, false_or → Xr, or_true → Xs, true_or → Xt, false_eq_true → XC, not_true → XD, not_false → XE, and_true → XF, true_and → XG, and_self → XH
open Nat renaming reduceEqDiff → Xu, reduceAdd → Xv, reduceSub → Xw, reduceMul → Xx, reduceLT → Xy, reduceLeDiff → Xz, reduceBNe → XA, reduceBEq → XB, zero_add → XL, add_zero → XM
open UInt8 renaming reduceToNat → XJ
open Int renaming cast_ofNat_Int → XK, reduceToNat → XN, reduceLT → XO, reduceLE → XP, reduceNeg → XQ, reduceEq → XR, reduceNe → XS
set_option linter.unusedSimpArgs false
set_option linter.unusedVariables false
set_option maxRecDepth 20000
set_option maxHeartbeats 4000000

def inB (n lo hi : Int) : Bool := decide (lo ≤ n) && decide (n ≤ hi)
theorem inB_iff {n lo hi : Int} : inB n lo hi = true ↔ lo ≤ n ∧ n ≤ hi := by unfold inB; rw [Bool.and_eq_true, decide_eq_true_iff, decide_eq_true_iff]

theorem c_in (n lo hi : Int) (σ : Store) : ACalls Try.prog 39 [.int .i64 n, .int .i64 lo, .int .i64 hi] σ (fun r s => r = .bool (inB n lo hi) ∧ s = σ) := by
  unfold inB
  cases h1 : decide (lo ≤ n) with
  | false =>
    rw [Bool.false_and]
    refine acalls_of_vc (fn := Try.f39) Try.call39 Try.func39 rfl (by kernel_rfl) (by simp [Try.ntmps39]) ?_; simp -implicitDefEqProofs only [Try.ntmps39,Try.results39,Q0,Q1,Q2,Q3,Q4,Q5,Q6,Q7,Q8,Q9,Qa,Qb,Qc,Qd,Qe,Qf,Qg,Qh,Qi,Qj,Qk,Ql,Qm,Qn,Qo,Qp,Qq,Qr,Qs,Qt,Qu,Qv,Qw,Qx,Qy,Qz,QA,QB,QC,QD,QE,QF,QG,QH,QI,QJ,QK,QL,QM,QN,QO,QP,QQ,QR,QS,QT,QU,QV,QW,QX,QY,QZ,X0,X1,X2,X3,X4,X5,X6,X7,X8,X9,Xa,Xb,Xc,Xd,Xe,Xf,Xg,Xh,Xi,Xj,Xk,Xl,Xm,Xn,Xo,Xp,Xq,Xr,Xs,Xt,Xu,Xv,Xw,Xx,Xy,Xz,XA,XB,reduceIte,reduceCtorEq,XC,XD,XE,XF,XG,XH,XI,XJ,XK,XL,XM,XN,XO,XP,XQ,XR,XS,XT,XU,XV,XW,XX,XY,XZ,Y0,Try.q3,Try.q4]
    simp -implicitDefEqProofs only [h1,Q0,Q1,Q2,Q3,Q4,Q5,Q6,Q7,Q8,Q9,Qa,Qb,Qc,Qd,Qe,Qf,Qg,Qh,Qi,Qj,Qk,Ql,Qm,Qn,Qo,Qp,Qq,Qr,Qs,Qt,Qu,Qv,Qw,Qx,Qy,Qz,QA,QB,QC,QD,QE,QF,QG,QH,QI,QJ,QK,QL,QM,QN,QO,QP,QQ,QR,QS,QT,QU,QV,QW,QX,QY,QZ,X0,X1,X2,X3,X4,X5,X6,X7,X8,X9,Xa,Xb,Xc,Xd,Xe,Xf,Xg,Xh,Xi,Xj,Xk,Xl,Xm,Xn,Xo,Xp,Xq,Xr,Xs,Xt,Xu,Xv,Xw,Xx,Xy,Xz,XA,XB,reduceIte,reduceCtorEq,XC,XD,XE,XF,XG,XH,XI,XJ,XK,XL,XM,XN,XO,XP,XQ,XR,XS,XT,XU,XV,XW,XX,XY,XZ,Y0,Try.q3,Try.q4]
  | true =>
    rw [Bool.true_and]
    refine acalls_of_vc (fn := Try.f39) Try.call39 Try.func39 rfl (by kernel_rfl) (by simp [Try.ntmps39]) ?_; simp -implicitDefEqProofs only [Try.ntmps39,Try.results39,Q0,Q1,Q2,Q3,Q4,Q5,Q6,Q7,Q8,Q9,Qa,Qb,Qc,Qd,Qe,Qf,Qg,Qh,Qi,Qj,Qk,Ql,Qm,Qn,Qo,Qp,Qq,Qr,Qs,Qt,Qu,Qv,Qw,Qx,Qy,Qz,QA,QB,QC,QD,QE,QF,QG,QH,QI,QJ,QK,QL,QM,QN,QO,QP,QQ,QR,QS,QT,QU,QV,QW,QX,QY,QZ,X0,X1,X2,X3,X4,X5,X6,X7,X8,X9,Xa,Xb,Xc,Xd,Xe,Xf,Xg,Xh,Xi,Xj,Xk,Xl,Xm,Xn,Xo,Xp,Xq,Xr,Xs,Xt,Xu,Xv,Xw,Xx,Xy,Xz,XA,XB,reduceIte,reduceCtorEq,XC,XD,XE,XF,XG,XH,XI,XJ,XK,XL,XM,XN,XO,XP,XQ,XR,XS,XT,XU,XV,XW,XX,XY,XZ,Y0,Try.q3,Try.q4]
    simp -implicitDefEqProofs only [h1,Q0,Q1,Q2,Q3,Q4,Q5,Q6,Q7,Q8,Q9,Qa,Qb,Qc,Qd,Qe,Qf,Qg,Qh,Qi,Qj,Qk,Ql,Qm,Qn,Qo,Qp,Qq,Qr,Qs,Qt,Qu,Qv,Qw,Qx,Qy,Qz,QA,QB,QC,QD,QE,QF,QG,QH,QI,QJ,QK,QL,QM,QN,QO,QP,QQ,QR,QS,QT,QU,QV,QW,QX,QY,QZ,X0,X1,X2,X3,X4,X5,X6,X7,X8,X9,Xa,Xb,Xc,Xd,Xe,Xf,Xg,Xh,Xi,Xj,Xk,Xl,Xm,Xn,Xo,Xp,Xq,Xr,Xs,Xt,Xu,Xv,Xw,Xx,Xy,Xz,XA,XB,reduceIte,reduceCtorEq,XC,XD,XE,XF,XG,XH,XI,XJ,XK,XL,XM,XN,XO,XP,XQ,XR,XS,XT,XU,XV,XW,XX,XY,XZ,Y0,Try.q3,Try.q4]

def valB (e : Ent) : Bool := inB e.day 0 131072 && (inB e.fr 0 1048576 && (inB e.to 0 1048576 && (!decide (e.fr = e.to) && (inB e.cur 0 7 && (inB e.amt 1 1099511627776 && inB e.note 0 1099511627776)))))
theorem valB_iff {e : Ent} : valB e = true ↔ Val e := by
  unfold valB
  simp only [Bool.and_eq_true, inB_iff, Bool.not_eq_true', decide_eq_false_iff_not]
  constructor
  · rintro ⟨h1, h2, h3, h4, h5, h6, h7⟩; exact ⟨h1, h2, h3, h4, h5, h6, h7⟩
  · rintro ⟨h1, h2, h3, h4, h5, h6, h7⟩; exact ⟨h1, h2, h3, h4, h5, h6, h7⟩

theorem c_valid (e : Ent) (σ : Store) : ACalls Try.prog 33 [.agg (entA e)] σ (fun r s => r = .bool (valB e) ∧ s = σ) := by
  refine ACalls.frozen (ACalls.mono (R := fun r s => r = .bool (valB e) ∧ Ext σ s) ?_ fun r s ⟨h1, h2⟩ => ⟨h2, by rw [h1]; exact .same _ rfl⟩)
  have k1 := c_in e.day 0 131072
  have k2 := c_in e.fr 0 1048576
  have k3 := c_in e.to 0 1048576
  have k5 := c_in e.cur 0 7
  have k6 := c_in e.amt 1 1099511627776
  have k7 := c_in e.note 0 1099511627776
  have hx : Ext σ (σ ++ [.box (entA e)]) := Ext.app _ _
  unfold valB entA at *
  generalize inB e.day 0 131072 = v1 at *
  generalize inB e.fr 0 1048576 = v2 at *
  generalize inB e.to 0 1048576 = v3 at *
  generalize h4 : decide (e.fr = e.to) = v4 at *
  generalize inB e.cur 0 7 = v5 at *
  generalize inB e.amt 1 1099511627776 = v6 at *
  generalize inB e.note 0 1099511627776 = v7 at *
  refine acalls_of_vc (fn := Try.f33) Try.call33 Try.func33 rfl (by kernel_rfl) (by simp [Try.ntmps33]) ?_; simp -implicitDefEqProofs only [h4,Try.ntmps33,Try.results33,Q0,Q1,Q2,Q3,Q4,Q5,Q6,Q7,Q8,Q9,Qa,Qb,Qc,Qd,Qe,Qf,Qg,Qh,Qi,Qj,Qk,Ql,Qm,Qn,Qo,Qp,Qq,Qr,Qs,Qt,Qu,Qv,Qw,Qx,Qy,Qz,QA,QB,QC,QD,QE,QF,QG,QH,QI,QJ,QK,QL,QM,QN,QO,QP,QQ,QR,QS,QT,QU,QV,QW,QX,QY,QZ,X0,X1,X2,X3,X4,X5,X6,X7,X8,X9,Xa,Xb,Xc,Xd,Xe,Xf,Xg,Xh,Xi,Xj,Xk,Xl,Xm,Xn,Xo,Xp,Xq,Xr,Xs,Xt,Xu,Xv,Xw,Xx,Xy,Xz,XA,XB,reduceIte,reduceCtorEq,XC,XD,XE,XF,XG,XH,XI,XJ,XK,XL,XM,XN,XO,XP,XQ,XR,XS,XT,XU,XV,XW,XX,XY,XZ,Y0,Try.q3,Try.q4,Try.underlying37,Try.q37]
  cases v1 with
  | false =>
    refine acalls_then (k1 _) ?_
    simp -implicitDefEqProofs only [h4,Q0,Q1,Q2,Q3,Q4,Q5,Q6,Q7,Q8,Q9,Qa,Qb,Qc,Qd,Qe,Qf,Qg,Qh,Qi,Qj,Qk,Ql,Qm,Qn,Qo,Qp,Qq,Qr,Qs,Qt,Qu,Qv,Qw,Qx,Qy,Qz,QA,QB,QC,QD,QE,QF,QG,QH,QI,QJ,QK,QL,QM,QN,QO,QP,QQ,QR,QS,QT,QU,QV,QW,QX,QY,QZ,X0,X1,X2,X3,X4,X5,X6,X7,X8,X9,Xa,Xb,Xc,Xd,Xe,Xf,Xg,Xh,Xi,Xj,Xk,Xl,Xm,Xn,Xo,Xp,Xq,Xr,Xs,Xt,Xu,Xv,Xw,Xx,Xy,Xz,XA,XB,reduceIte,reduceCtorEq,XC,XD,XE,XF,XG,XH,XI,XJ,XK,XL,XM,XN,XO,XP,XQ,XR,XS,XT,XU,XV,XW,XX,XY,XZ,Y0,Try.q3,Try.q4,Try.underlying37,Try.q37]
    first | exact hx | exact ⟨rfl, hx⟩
  | true =>
    refine acalls_then (k1 _) ?_
    simp -implicitDefEqProofs only [h4,Q0,Q1,Q2,Q3,Q4,Q5,Q6,Q7,Q8,Q9,Qa,Qb,Qc,Qd,Qe,Qf,Qg,Qh,Qi,Qj,Qk,Ql,Qm,Qn,Qo,Qp,Qq,Qr,Qs,Qt,Qu,Qv,Qw,Qx,Qy,Qz,QA,QB,QC,QD,QE,QF,QG,QH,QI,QJ,QK,QL,QM,QN,QO,QP,QQ,QR,QS,QT,QU,QV,QW,QX,QY,QZ,X0,X1,X2,X3,X4,X5,X6,X7,X8,X9,Xa,Xb,Xc,Xd,Xe,Xf,Xg,Xh,Xi,Xj,Xk,Xl,Xm,Xn,Xo,Xp,Xq,Xr,Xs,Xt,Xu,Xv,Xw,Xx,Xy,Xz,XA,XB,reduceIte,reduceCtorEq,XC,XD,XE,XF,XG,XH,XI,XJ,XK,XL,XM,XN,XO,XP,XQ,XR,XS,XT,XU,XV,XW,XX,XY,XZ,Y0,Try.q3,Try.q4,Try.underlying37,Try.q37]
    cases v2 with
    | false =>
      refine acalls_then (k2 _) ?_
      simp -implicitDefEqProofs only [h4,Q0,Q1,Q2,Q3,Q4,Q5,Q6,Q7,Q8,Q9,Qa,Qb,Qc,Qd,Qe,Qf,Qg,Qh,Qi,Qj,Qk,Ql,Qm,Qn,Qo,Qp,Qq,Qr,Qs,Qt,Qu,Qv,Qw,Qx,Qy,Qz,QA,QB,QC,QD,QE,QF,QG,QH,QI,QJ,QK,QL,QM,QN,QO,QP,QQ,QR,QS,QT,QU,QV,QW,QX,QY,QZ,X0,X1,X2,X3,X4,X5,X6,X7,X8,X9,Xa,Xb,Xc,Xd,Xe,Xf,Xg,Xh,Xi,Xj,Xk,Xl,Xm,Xn,Xo,Xp,Xq,Xr,Xs,Xt,Xu,Xv,Xw,Xx,Xy,Xz,XA,XB,reduceIte,reduceCtorEq,XC,XD,XE,XF,XG,XH,XI,XJ,XK,XL,XM,XN,XO,XP,XQ,XR,XS,XT,XU,XV,XW,XX,XY,XZ,Y0,Try.q3,Try.q4,Try.underlying37,Try.q37]
      first | exact hx | exact ⟨rfl, hx⟩
    | true =>
      refine acalls_then (k2 _) ?_
      simp -implicitDefEqProofs only [h4,Q0,Q1,Q2,Q3,Q4,Q5,Q6,Q7,Q8,Q9,Qa,Qb,Qc,Qd,Qe,Qf,Qg,Qh,Qi,Qj,Qk,Ql,Qm,Qn,Qo,Qp,Qq,Qr,Qs,Qt,Qu,Qv,Qw,Qx,Qy,Qz,QA,QB,QC,QD,QE,QF,QG,QH,QI,QJ,QK,QL,QM,QN,QO,QP,QQ,QR,QS,QT,QU,QV,QW,QX,QY,QZ,X0,X1,X2,X3,X4,X5,X6,X7,X8,X9,Xa,Xb,Xc,Xd,Xe,Xf,Xg,Xh,Xi,Xj,Xk,Xl,Xm,Xn,Xo,Xp,Xq,Xr,Xs,Xt,Xu,Xv,Xw,Xx,Xy,Xz,XA,XB,reduceIte,reduceCtorEq,XC,XD,XE,XF,XG,XH,XI,XJ,XK,XL,XM,XN,XO,XP,XQ,XR,XS,XT,XU,XV,XW,XX,XY,XZ,Y0,Try.q3,Try.q4,Try.underlying37,Try.q37]
      cases v3 with
      | false =>
        refine acalls_then (k3 _) ?_
        simp -implicitDefEqProofs only [h4,Q0,Q1,Q2,Q3,Q4,Q5,Q6,Q7,Q8,Q9,Qa,Qb,Qc,Qd,Qe,Qf,Qg,Qh,Qi,Qj,Qk,Ql,Qm,Qn,Qo,Qp,Qq,Qr,Qs,Qt,Qu,Qv,Qw,Qx,Qy,Qz,QA,QB,QC,QD,QE,QF,QG,QH,QI,QJ,QK,QL,QM,QN,QO,QP,QQ,QR,QS,QT,QU,QV,QW,QX,QY,QZ,X0,X1,X2,X3,X4,X5,X6,X7,X8,X9,Xa,Xb,Xc,Xd,Xe,Xf,Xg,Xh,Xi,Xj,Xk,Xl,Xm,Xn,Xo,Xp,Xq,Xr,Xs,Xt,Xu,Xv,Xw,Xx,Xy,Xz,XA,XB,reduceIte,reduceCtorEq,XC,XD,XE,XF,XG,XH,XI,XJ,XK,XL,XM,XN,XO,XP,XQ,XR,XS,XT,XU,XV,XW,XX,XY,XZ,Y0,Try.q3,Try.q4,Try.underlying37,Try.q37]
        first | exact hx | exact ⟨rfl, hx⟩
      | true =>
        refine acalls_then (k3 _) ?_
        simp -implicitDefEqProofs only [h4,Q0,Q1,Q2,Q3,Q4,Q5,Q6,Q7,Q8,Q9,Qa,Qb,Qc,Qd,Qe,Qf,Qg,Qh,Qi,Qj,Qk,Ql,Qm,Qn,Qo,Qp,Qq,Qr,Qs,Qt,Qu,Qv,Qw,Qx,Qy,Qz,QA,QB,QC,QD,QE,QF,QG,QH,QI,QJ,QK,QL,QM,QN,QO,QP,QQ,QR,QS,QT,QU,QV,QW,QX,QY,QZ,X0,X1,X2,X3,X4,X5,X6,X7,X8,X9,Xa,Xb,Xc,Xd,Xe,Xf,Xg,Xh,Xi,Xj,Xk,Xl,Xm,Xn,Xo,Xp,Xq,Xr,Xs,Xt,Xu,Xv,Xw,Xx,Xy,Xz,XA,XB,reduceIte,reduceCtorEq,XC,XD,XE,XF,XG,XH,XI,XJ,XK,XL,XM,XN,XO,XP,XQ,XR,XS,XT,XU,XV,XW,XX,XY,XZ,Y0,Try.q3,Try.q4,Try.underlying37,Try.q37]
        cases v4 with
        | true =>
          simp -implicitDefEqProofs only [h4,Q0,Q1,Q2,Q3,Q4,Q5,Q6,Q7,Q8,Q9,Qa,Qb,Qc,Qd,Qe,Qf,Qg,Qh,Qi,Qj,Qk,Ql,Qm,Qn,Qo,Qp,Qq,Qr,Qs,Qt,Qu,Qv,Qw,Qx,Qy,Qz,QA,QB,QC,QD,QE,QF,QG,QH,QI,QJ,QK,QL,QM,QN,QO,QP,QQ,QR,QS,QT,QU,QV,QW,QX,QY,QZ,X0,X1,X2,X3,X4,X5,X6,X7,X8,X9,Xa,Xb,Xc,Xd,Xe,Xf,Xg,Xh,Xi,Xj,Xk,Xl,Xm,Xn,Xo,Xp,Xq,Xr,Xs,Xt,Xu,Xv,Xw,Xx,Xy,Xz,XA,XB,reduceIte,reduceCtorEq,XC,XD,XE,XF,XG,XH,XI,XJ,XK,XL,XM,XN,XO,XP,XQ,XR,XS,XT,XU,XV,XW,XX,XY,XZ,Y0,Try.q3,Try.q4,Try.underlying37,Try.q37]
          first | exact hx | exact ⟨rfl, hx⟩
        | false =>
          simp -implicitDefEqProofs only [h4,Q0,Q1,Q2,Q3,Q4,Q5,Q6,Q7,Q8,Q9,Qa,Qb,Qc,Qd,Qe,Qf,Qg,Qh,Qi,Qj,Qk,Ql,Qm,Qn,Qo,Qp,Qq,Qr,Qs,Qt,Qu,Qv,Qw,Qx,Qy,Qz,QA,QB,QC,QD,QE,QF,QG,QH,QI,QJ,QK,QL,QM,QN,QO,QP,QQ,QR,QS,QT,QU,QV,QW,QX,QY,QZ,X0,X1,X2,X3,X4,X5,X6,X7,X8,X9,Xa,Xb,Xc,Xd,Xe,Xf,Xg,Xh,Xi,Xj,Xk,Xl,Xm,Xn,Xo,Xp,Xq,Xr,Xs,Xt,Xu,Xv,Xw,Xx,Xy,Xz,XA,XB,reduceIte,reduceCtorEq,XC,XD,XE,XF,XG,XH,XI,XJ,XK,XL,XM,XN,XO,XP,XQ,XR,XS,XT,XU,XV,XW,XX,XY,XZ,Y0,Try.q3,Try.q4,Try.underlying37,Try.q37]
          cases v5 with
          | false =>
            refine acalls_then (k5 _) ?_
            simp -implicitDefEqProofs only [h4,Q0,Q1,Q2,Q3,Q4,Q5,Q6,Q7,Q8,Q9,Qa,Qb,Qc,Qd,Qe,Qf,Qg,Qh,Qi,Qj,Qk,Ql,Qm,Qn,Qo,Qp,Qq,Qr,Qs,Qt,Qu,Qv,Qw,Qx,Qy,Qz,QA,QB,QC,QD,QE,QF,QG,QH,QI,QJ,QK,QL,QM,QN,QO,QP,QQ,QR,QS,QT,QU,QV,QW,QX,QY,QZ,X0,X1,X2,X3,X4,X5,X6,X7,X8,X9,Xa,Xb,Xc,Xd,Xe,Xf,Xg,Xh,Xi,Xj,Xk,Xl,Xm,Xn,Xo,Xp,Xq,Xr,Xs,Xt,Xu,Xv,Xw,Xx,Xy,Xz,XA,XB,reduceIte,reduceCtorEq,XC,XD,XE,XF,XG,XH,XI,XJ,XK,XL,XM,XN,XO,XP,XQ,XR,XS,XT,XU,XV,XW,XX,XY,XZ,Y0,Try.q3,Try.q4,Try.underlying37,Try.q37]
            first | exact hx | exact ⟨rfl, hx⟩
          | true =>
            refine acalls_then (k5 _) ?_
            simp -implicitDefEqProofs only [h4,Q0,Q1,Q2,Q3,Q4,Q5,Q6,Q7,Q8,Q9,Qa,Qb,Qc,Qd,Qe,Qf,Qg,Qh,Qi,Qj,Qk,Ql,Qm,Qn,Qo,Qp,Qq,Qr,Qs,Qt,Qu,Qv,Qw,Qx,Qy,Qz,QA,QB,QC,QD,QE,QF,QG,QH,QI,QJ,QK,QL,QM,QN,QO,QP,QQ,QR,QS,QT,QU,QV,QW,QX,QY,QZ,X0,X1,X2,X3,X4,X5,X6,X7,X8,X9,Xa,Xb,Xc,Xd,Xe,Xf,Xg,Xh,Xi,Xj,Xk,Xl,Xm,Xn,Xo,Xp,Xq,Xr,Xs,Xt,Xu,Xv,Xw,Xx,Xy,Xz,XA,XB,reduceIte,reduceCtorEq,XC,XD,XE,XF,XG,XH,XI,XJ,XK,XL,XM,XN,XO,XP,XQ,XR,XS,XT,XU,XV,XW,XX,XY,XZ,Y0,Try.q3,Try.q4,Try.underlying37,Try.q37]
            cases v6 with
            | false =>
              refine acalls_then (k6 _) ?_
              simp -implicitDefEqProofs only [h4,Q0,Q1,Q2,Q3,Q4,Q5,Q6,Q7,Q8,Q9,Qa,Qb,Qc,Qd,Qe,Qf,Qg,Qh,Qi,Qj,Qk,Ql,Qm,Qn,Qo,Qp,Qq,Qr,Qs,Qt,Qu,Qv,Qw,Qx,Qy,Qz,QA,QB,QC,QD,QE,QF,QG,QH,QI,QJ,QK,QL,QM,QN,QO,QP,QQ,QR,QS,QT,QU,QV,QW,QX,QY,QZ,X0,X1,X2,X3,X4,X5,X6,X7,X8,X9,Xa,Xb,Xc,Xd,Xe,Xf,Xg,Xh,Xi,Xj,Xk,Xl,Xm,Xn,Xo,Xp,Xq,Xr,Xs,Xt,Xu,Xv,Xw,Xx,Xy,Xz,XA,XB,reduceIte,reduceCtorEq,XC,XD,XE,XF,XG,XH,XI,XJ,XK,XL,XM,XN,XO,XP,XQ,XR,XS,XT,XU,XV,XW,XX,XY,XZ,Y0,Try.q3,Try.q4,Try.underlying37,Try.q37]
              first | exact hx | exact ⟨rfl, hx⟩
            | true =>
              refine acalls_then (k6 _) ?_
              simp -implicitDefEqProofs only [h4,Q0,Q1,Q2,Q3,Q4,Q5,Q6,Q7,Q8,Q9,Qa,Qb,Qc,Qd,Qe,Qf,Qg,Qh,Qi,Qj,Qk,Ql,Qm,Qn,Qo,Qp,Qq,Qr,Qs,Qt,Qu,Qv,Qw,Qx,Qy,Qz,QA,QB,QC,QD,QE,QF,QG,QH,QI,QJ,QK,QL,QM,QN,QO,QP,QQ,QR,QS,QT,QU,QV,QW,QX,QY,QZ,X0,X1,X2,X3,X4,X5,X6,X7,X8,X9,Xa,Xb,Xc,Xd,Xe,Xf,Xg,Xh,Xi,Xj,Xk,Xl,Xm,Xn,Xo,Xp,Xq,Xr,Xs,Xt,Xu,Xv,Xw,Xx,Xy,Xz,XA,XB,reduceIte,reduceCtorEq,XC,XD,XE,XF,XG,XH,XI,XJ,XK,XL,XM,XN,XO,XP,XQ,XR,XS,XT,XU,XV,XW,XX,XY,XZ,Y0,Try.q3,Try.q4,Try.underlying37,Try.q37]
              refine acalls_then (k7 _) ?_
              simp -implicitDefEqProofs only [h4,Q0,Q1,Q2,Q3,Q4,Q5,Q6,Q7,Q8,Q9,Qa,Qb,Qc,Qd,Qe,Qf,Qg,Qh,Qi,Qj,Qk,Ql,Qm,Qn,Qo,Qp,Qq,Qr,Qs,Qt,Qu,Qv,Qw,Qx,Qy,Qz,QA,QB,QC,QD,QE,QF,QG,QH,QI,QJ,QK,QL,QM,QN,QO,QP,QQ,QR,QS,QT,QU,QV,QW,QX,QY,QZ,X0,X1,X2,X3,X4,X5,X6,X7,X8,X9,Xa,Xb,Xc,Xd,Xe,Xf,Xg,Xh,Xi,Xj,Xk,Xl,Xm,Xn,Xo,Xp,Xq,Xr,Xs,Xt,Xu,Xv,Xw,Xx,Xy,Xz,XA,XB,reduceIte,reduceCtorEq,XC,XD,XE,XF,XG,XH,XI,XJ,XK,XL,XM,XN,XO,XP,XQ,XR,XS,XT,XU,XV,XW,XX,XY,XZ,Y0,Try.q3,Try.q4,Try.underlying37,Try.q37]
              first | exact hx | exact ⟨rfl, hx⟩

theorem c_post1 (e : Ent) (σ : Store) : ACalls Try.prog 32 [.agg (entA e)] σ (fun r s => r = .bool (!valB e) ∧ s = σ) := by
  refine ACalls.frozen (ACalls.mono (R := fun r s => r = .bool (!valB e) ∧ Ext σ s) ?_ fun r s ⟨h1, h2⟩ => ⟨h2, by rw [h1]; exact .same _ rfl⟩)
  have k := c_valid e
  have hx : Ext σ (σ ++ [.box (entA e)]) := Ext.app _ _
  unfold entA at *
  refine acalls_of_vc (fn := Try.f32) Try.call32 Try.func32 rfl (by kernel_rfl) (by simp [Try.ntmps32]) ?_; simp -implicitDefEqProofs only [Try.ntmps32,Try.results32,Q0,Q1,Q2,Q3,Q4,Q5,Q6,Q7,Q8,Q9,Qa,Qb,Qc,Qd,Qe,Qf,Qg,Qh,Qi,Qj,Qk,Ql,Qm,Qn,Qo,Qp,Qq,Qr,Qs,Qt,Qu,Qv,Qw,Qx,Qy,Qz,QA,QB,QC,QD,QE,QF,QG,QH,QI,QJ,QK,QL,QM,QN,QO,QP,QQ,QR,QS,QT,QU,QV,QW,QX,QY,QZ,X0,X1,X2,X3,X4,X5,X6,X7,X8,X9,Xa,Xb,Xc,Xd,Xe,Xf,Xg,Xh,Xi,Xj,Xk,Xl,Xm,Xn,Xo,Xp,Xq,Xr,Xs,Xt,Xu,Xv,Xw,Xx,Xy,Xz,XA,XB,reduceIte,reduceCtorEq,XC,XD,XE,XF,XG,XH,XI,XJ,XK,XL,XM,XN,XO,XP,XQ,XR,XS,XT,XU,XV,XW,XX,XY,XZ,Y0,Try.q3,Try.q4,Try.underlying37,Try.q37]
  refine acalls_then (k _) ?_
  simp -implicitDefEqProofs only [Q0,Q1,Q2,Q3,Q4,Q5,Q6,Q7,Q8,Q9,Qa,Qb,Qc,Qd,Qe,Qf,Qg,Qh,Qi,Qj,Qk,Ql,Qm,Qn,Qo,Qp,Qq,Qr,Qs,Qt,Qu,Qv,Qw,Qx,Qy,Qz,QA,QB,QC,QD,QE,QF,QG,QH,QI,QJ,QK,QL,QM,QN,QO,QP,QQ,QR,QS,QT,QU,QV,QW,QX,QY,QZ,X0,X1,X2,X3,X4,X5,X6,X7,X8,X9,Xa,Xb,Xc,Xd,Xe,Xf,Xg,Xh,Xi,Xj,Xk,Xl,Xm,Xn,Xo,Xp,Xq,Xr,Xs,Xt,Xu,Xv,Xw,Xx,Xy,Xz,XA,XB,reduceIte,reduceCtorEq,XC,XD,XE,XF,XG,XH,XI,XJ,XK,XL,XM,XN,XO,XP,XQ,XR,XS,XT,XU,XV,XW,XX,XY,XZ,Y0,Try.q3,Try.q4,Try.underlying37,Try.q37]
  exact hx

theorem any_takeE {α : Type} (f : α → Bool) (l : List α) {i : Nat} (h : i < l.length) : (l.take (i + 1)).any f = ((l.take i).any f || f l[i]) := by
  rw [List.take_add_one, List.getElem?_eq_getElem h, Option.toList_some, List.any_append, List.any_cons, List.any_nil, Bool.or_false]

theorem c_ixE (l : List Ent) (hl : l.length ≤ 1000000) (σ : Store) :
    ACalls Try.prog 47 [esV l, .fn 32 [] []] σ (fun r s => ∃ k : Int, r = .int .i64 k ∧ decide (0 ≤ k) = l.any (fun e => !valB e) ∧ s = σ) := by
  have lm : (l.map entA).length = l.length := List.length_map _
  refine acalls_of_vc (fn := Try.f47) Try.call47 Try.func47 rfl (by kernel_rfl) (by simp [Try.ntmps47]) ?_; simp -implicitDefEqProofs only [Try.ntmps47,Try.results47,Q0,Q1,Q2,Q3,Q4,Q5,Q6,Q7,Q8,Q9,Qa,Qb,Qc,Qd,Qe,Qf,Qg,Qh,Qi,Qj,Qk,Ql,Qm,Qn,Qo,Qp,Qq,Qr,Qs,Qt,Qu,Qv,Qw,Qx,Qy,Qz,QA,QB,QC,QD,QE,QF,QG,QH,QI,QJ,QK,QL,QM,QN,QO,QP,QQ,QR,QS,QT,QU,QV,QW,QX,QY,QZ,X0,X1,X2,X3,X4,X5,X6,X7,X8,X9,Xa,Xb,Xc,Xd,Xe,Xf,Xg,Xh,Xi,Xj,Xk,Xl,Xm,Xn,Xo,Xp,Xq,Xr,Xs,Xt,Xu,Xv,Xw,Xx,Xy,Xz,XA,XB,reduceIte,reduceCtorEq,XC,XD,XE,XF,XG,XH,XI,XJ,XK,XL,XM,XN,XO,XP,XQ,XR,XS,XT,XU,XV,XW,XX,XY,XZ,Y0,Try.q3,Try.q4,Try.q29,Try.underlying37,Try.q37,Try.underlying68,Try.q68]
  simp -implicitDefEqProofs only [lm,Q0,Q1,Q2,Q3,Q4,Q5,Q6,Q7,Q8,Q9,Qa,Qb,Qc,Qd,Qe,Qf,Qg,Qh,Qi,Qj,Qk,Ql,Qm,Qn,Qo,Qp,Qq,Qr,Qs,Qt,Qu,Qv,Qw,Qx,Qy,Qz,QA,QB,QC,QD,QE,QF,QG,QH,QI,QJ,QK,QL,QM,QN,QO,QP,QQ,QR,QS,QT,QU,QV,QW,QX,QY,QZ,X0,X1,X2,X3,X4,X5,X6,X7,X8,X9,Xa,Xb,Xc,Xd,Xe,Xf,Xg,Xh,Xi,Xj,Xk,Xl,Xm,Xn,Xo,Xp,Xq,Xr,Xs,Xt,Xu,Xv,Xw,Xx,Xy,Xz,XA,XB,reduceIte,reduceCtorEq,XC,XD,XE,XF,XG,XH,XI,XJ,XK,XL,XM,XN,XO,XP,XQ,XR,XS,XT,XU,XV,XW,XX,XY,XZ,Y0,Try.q3,Try.q4,Try.q29,Try.underlying37,Try.q37,Try.underlying68,Try.q68]
  refine awp_loop (fun i : Nat => [(8, .int .i64 i), (7, .int .i64 l.length), (0, esV l), (1, .fn 32 [] [])]) (fun i s => i ≤ l.length ∧ (l.take i).any (fun e => !valB e) = false ∧ s = σ) (fun i => l.length - i) 0 (by kernel_rfl) (by simp [sub_cons, sub_nil, get_cons]) ⟨by omega, by simp, rfl⟩ ?_
  rintro i s ⟨hi, hno, rfl⟩
  by_cases hlt : i < l.length
  · have d1 : decide ((i : Int) < (l.length : Int)) = true := decide_eq_true (by omega)
    have hrow : (l.map entA).getD (i : Int).toNat [] = entA l[i] := by rw [Int.toNat_natCast, getD_get (by simpa using hlt)]; simp
    have wi : IntKind.i64.wrap ((i : Int) + 1) = ((i + 1 : Nat) : Int) := by rw [wrap_i64 (by omega) (by omega)]; rfl
    have hs := any_takeE (fun e => !valB e) l hlt
    rw [hno, Bool.false_or] at hs
    have hm := List.getElem_mem hlt
    have bi : (0 : Int) ≤ (i : Int) ∧ (i : Int) < (l.length : Int) := by omega
    generalize l[i] = e at hrow hs hm
    have hc := c_post1 e
    generalize hv : valB e = v at hc hs
    simp -implicitDefEqProofs only [d1,lm,hrow,entA_take,entA_six,Q0,Q1,Q2,Q3,Q4,Q5,Q6,Q7,Q8,Q9,Qa,Qb,Qc,Qd,Qe,Qf,Qg,Qh,Qi,Qj,Qk,Ql,Qm,Qn,Qo,Qp,Qq,Qr,Qs,Qt,Qu,Qv,Qw,Qx,Qy,Qz,QA,QB,QC,QD,QE,QF,QG,QH,QI,QJ,QK,QL,QM,QN,QO,QP,QQ,QR,QS,QT,QU,QV,QW,QX,QY,QZ,X0,X1,X2,X3,X4,X5,X6,X7,X8,X9,Xa,Xb,Xc,Xd,Xe,Xf,Xg,Xh,Xi,Xj,Xk,Xl,Xm,Xn,Xo,Xp,Xq,Xr,Xs,Xt,Xu,Xv,Xw,Xx,Xy,Xz,XA,XB,reduceIte,reduceCtorEq,XC,XD,XE,XF,XG,XH,XI,XJ,XK,XL,XM,XN,XO,XP,XQ,XR,XS,XT,XU,XV,XW,XX,XY,XZ,Y0,Try.q3,Try.q4,Try.q29,Try.underlying37,Try.q37,Try.underlying68,Try.q68]
    refine ⟨bi, ?_⟩
    cases v with
    | false =>
      refine acalls_then (hc _) ?_
      simp -implicitDefEqProofs only [Q0,Q1,Q2,Q3,Q4,Q5,Q6,Q7,Q8,Q9,Qa,Qb,Qc,Qd,Qe,Qf,Qg,Qh,Qi,Qj,Qk,Ql,Qm,Qn,Qo,Qp,Qq,Qr,Qs,Qt,Qu,Qv,Qw,Qx,Qy,Qz,QA,QB,QC,QD,QE,QF,QG,QH,QI,QJ,QK,QL,QM,QN,QO,QP,QQ,QR,QS,QT,QU,QV,QW,QX,QY,QZ,X0,X1,X2,X3,X4,X5,X6,X7,X8,X9,Xa,Xb,Xc,Xd,Xe,Xf,Xg,Xh,Xi,Xj,Xk,Xl,Xm,Xn,Xo,Xp,Xq,Xr,Xs,Xt,Xu,Xv,Xw,Xx,Xy,Xz,XA,XB,reduceIte,reduceCtorEq,XC,XD,XE,XF,XG,XH,XI,XJ,XK,XL,XM,XN,XO,XP,XQ,XR,XS,XT,XU,XV,XW,XX,XY,XZ,Y0,Try.q3,Try.q4,Try.q29,Try.underlying37,Try.q37,Try.underlying68,Try.q68]
      refine ⟨_, rfl, ?_⟩
      rw [decide_eq_true (by omega), List.any_eq_true.2 ⟨e, hm, by rw [hv]; rfl⟩]
    | true =>
      refine acalls_then (hc _) ?_
      simp -implicitDefEqProofs only [wi,Q0,Q1,Q2,Q3,Q4,Q5,Q6,Q7,Q8,Q9,Qa,Qb,Qc,Qd,Qe,Qf,Qg,Qh,Qi,Qj,Qk,Ql,Qm,Qn,Qo,Qp,Qq,Qr,Qs,Qt,Qu,Qv,Qw,Qx,Qy,Qz,QA,QB,QC,QD,QE,QF,QG,QH,QI,QJ,QK,QL,QM,QN,QO,QP,QQ,QR,QS,QT,QU,QV,QW,QX,QY,QZ,X0,X1,X2,X3,X4,X5,X6,X7,X8,X9,Xa,Xb,Xc,Xd,Xe,Xf,Xg,Xh,Xi,Xj,Xk,Xl,Xm,Xn,Xo,Xp,Xq,Xr,Xs,Xt,Xu,Xv,Xw,Xx,Xy,Xz,XA,XB,reduceIte,reduceCtorEq,XC,XD,XE,XF,XG,XH,XI,XJ,XK,XL,XM,XN,XO,XP,XQ,XR,XS,XT,XU,XV,XW,XX,XY,XZ,Y0,Try.q3,Try.q4,Try.q29,Try.underlying37,Try.q37,Try.underlying68,Try.q68]
      exact ⟨i + 1, rfl, ⟨by omega, hs⟩, by omega⟩
  · have d1 : decide ((i : Int) < (l.length : Int)) = false := decide_eq_false (by omega)
    rw [List.take_of_length_le (by omega)] at hno
    simp -implicitDefEqProofs only [d1,Q0,Q1,Q2,Q3,Q4,Q5,Q6,Q7,Q8,Q9,Qa,Qb,Qc,Qd,Qe,Qf,Qg,Qh,Qi,Qj,Qk,Ql,Qm,Qn,Qo,Qp,Qq,Qr,Qs,Qt,Qu,Qv,Qw,Qx,Qy,Qz,QA,QB,QC,QD,QE,QF,QG,QH,QI,QJ,QK,QL,QM,QN,QO,QP,QQ,QR,QS,QT,QU,QV,QW,QX,QY,QZ,X0,X1,X2,X3,X4,X5,X6,X7,X8,X9,Xa,Xb,Xc,Xd,Xe,Xf,Xg,Xh,Xi,Xj,Xk,Xl,Xm,Xn,Xo,Xp,Xq,Xr,Xs,Xt,Xu,Xv,Xw,Xx,Xy,Xz,XA,XB,reduceIte,reduceCtorEq,XC,XD,XE,XF,XG,XH,XI,XJ,XK,XL,XM,XN,XO,XP,XQ,XR,XS,XT,XU,XV,XW,XX,XY,XZ,Y0,Try.q3,Try.q4,Try.q29,Try.underlying37,Try.q37,Try.underlying68,Try.q68]
    exact ⟨-1, rfl, by rw [hno]; rfl⟩

theorem c_badE (l : List Ent) (hl : l.length ≤ 1000000) (σ : Store) :
    ACalls Try.prog 31 [esV l, .fn 32 [] []] σ (fun r s => r = .bool (l.any fun e => !valB e) ∧ s = σ) := by
  refine acalls_of_vc (fn := Try.f31) Try.call31 Try.func31 rfl (by kernel_rfl) (by simp [Try.ntmps31]) ?_; simp -implicitDefEqProofs only [Try.ntmps31,Try.results31,Q0,Q1,Q2,Q3,Q4,Q5,Q6,Q7,Q8,Q9,Qa,Qb,Qc,Qd,Qe,Qf,Qg,Qh,Qi,Qj,Qk,Ql,Qm,Qn,Qo,Qp,Qq,Qr,Qs,Qt,Qu,Qv,Qw,Qx,Qy,Qz,QA,QB,QC,QD,QE,QF,QG,QH,QI,QJ,QK,QL,QM,QN,QO,QP,QQ,QR,QS,QT,QU,QV,QW,QX,QY,QZ,X0,X1,X2,X3,X4,X5,X6,X7,X8,X9,Xa,Xb,Xc,Xd,Xe,Xf,Xg,Xh,Xi,Xj,Xk,Xl,Xm,Xn,Xo,Xp,Xq,Xr,Xs,Xt,Xu,Xv,Xw,Xx,Xy,Xz,XA,XB,reduceIte,reduceCtorEq,XC,XD,XE,XF,XG,XH,XI,XJ,XK,XL,XM,XN,XO,XP,XQ,XR,XS,XT,XU,XV,XW,XX,XY,XZ,Y0,Try.q3,Try.q4,Try.q29,Try.underlying37,Try.q37,Try.underlying68,Try.q68]
  refine ACalls.mono (c_ixE l hl σ) ?_
  rintro _ s ⟨k, rfl, hk, rfl⟩
  simp -implicitDefEqProofs only [hk,Q0,Q1,Q2,Q3,Q4,Q5,Q6,Q7,Q8,Q9,Qa,Qb,Qc,Qd,Qe,Qf,Qg,Qh,Qi,Qj,Qk,Ql,Qm,Qn,Qo,Qp,Qq,Qr,Qs,Qt,Qu,Qv,Qw,Qx,Qy,Qz,QA,QB,QC,QD,QE,QF,QG,QH,QI,QJ,QK,QL,QM,QN,QO,QP,QQ,QR,QS,QT,QU,QV,QW,QX,QY,QZ,X0,X1,X2,X3,X4,X5,X6,X7,X8,X9,Xa,Xb,Xc,Xd,Xe,Xf,Xg,Xh,Xi,Xj,Xk,Xl,Xm,Xn,Xo,Xp,Xq,Xr,Xs,Xt,Xu,Xv,Xw,Xx,Xy,Xz,XA,XB,reduceIte,reduceCtorEq,XC,XD,XE,XF,XG,XH,XI,XJ,XK,XL,XM,XN,XO,XP,XQ,XR,XS,XT,XU,XV,XW,XX,XY,XZ,Y0,Try.q3,Try.q4,Try.q29,Try.underlying37,Try.q37,Try.underlying68,Try.q68]

/-- What adding entries says, and what there is then. -/
noncomputable def addR (es e : List Ent) : Int × List Ent := if 16384 < (es ++ e).length then (4, es) else if sndB (es ++ e) = false then (16, es) else (0, es ++ e)
noncomputable def postR (es e : List Ent) : Int × List Ent := if (e.any fun x => !valB x) = true then (1, es) else addR es e

theorem any_val {e : List Ent} (h : (e.any fun x => !valB x) = false) : ∀ x ∈ e, Val x := by
  intro x hx
  rw [← valB_iff]
  cases hv : valB x with
  | true => rfl
  | false =>
    have : (e.any fun x => !valB x) = true := List.any_eq_true.2 ⟨x, hx, by simp only [hv]; rfl⟩
    rw [h] at this; cases this

theorem c_add (es e : List Ent) (hl : es.length ≤ 16384) (he : e.length ≤ 1000) (hV : ∀ x ∈ es, Val x) (hVe : ∀ x ∈ e, Val x) (σ : Store) (id j : Nat) (h0 : σ[id]? = some (.box [esV es, .mp j])) :
    ACalls Try.prog 34 [.ptr id 0, esV e] σ (fun r s => r = .int .i64 (addR es e).1 ∧ s = σ.set id (.box [esV (addR es e).2, .mp j])) := by
  have hσ : σ.set id (.box [esV es, .mp j]) = σ := set_same h0
  have k1 := c_concat es e (by omega) (by omega)
  have hla : (es ++ e).length ≤ 20000 := by rw [List.length_append]; omega
  have lm : ((es ++ e).map entA).length = (es ++ e).length := List.length_map _
  have k2 := c_sound (es ++ e) hla (fun x hx => by rcases List.mem_append.1 hx with h | h; exact hV x h; exact hVe x h)
  unfold addR
  generalize es ++ e = al at *
  refine acalls_of_vc (fn := Try.f34) Try.call34 Try.func34 rfl (by kernel_rfl) (by simp [Try.ntmps34]) ?_; simp -implicitDefEqProofs only [Try.ntmps34,Try.results34,Q0,Q1,Q2,Q3,Q4,Q5,Q6,Q7,Q8,Q9,Qa,Qb,Qc,Qd,Qe,Qf,Qg,Qh,Qi,Qj,Qk,Ql,Qm,Qn,Qo,Qp,Qq,Qr,Qs,Qt,Qu,Qv,Qw,Qx,Qy,Qz,QA,QB,QC,QD,QE,QF,QG,QH,QI,QJ,QK,QL,QM,QN,QO,QP,QQ,QR,QS,QT,QU,QV,QW,QX,QY,QZ,X0,X1,X2,X3,X4,X5,X6,X7,X8,X9,Xa,Xb,Xc,Xd,Xe,Xf,Xg,Xh,Xi,Xj,Xk,Xl,Xm,Xn,Xo,Xp,Xq,Xr,Xs,Xt,Xu,Xv,Xw,Xx,Xy,Xz,XA,XB,reduceIte,reduceCtorEq,XC,XD,XE,XF,XG,XH,XI,XJ,XK,XL,XM,XN,XO,XP,XQ,XR,XS,XT,XU,XV,XW,XX,XY,XZ,Y0,Try.q3,Try.q4,Try.q23,Try.q27,Try.q29,Try.underlying37,Try.q37,Try.underlying64,Try.q64,Try.underlying66,Try.q66,Try.q94]
  simp -implicitDefEqProofs only [h0,Q0,Q1,Q2,Q3,Q4,Q5,Q6,Q7,Q8,Q9,Qa,Qb,Qc,Qd,Qe,Qf,Qg,Qh,Qi,Qj,Qk,Ql,Qm,Qn,Qo,Qp,Qq,Qr,Qs,Qt,Qu,Qv,Qw,Qx,Qy,Qz,QA,QB,QC,QD,QE,QF,QG,QH,QI,QJ,QK,QL,QM,QN,QO,QP,QQ,QR,QS,QT,QU,QV,QW,QX,QY,QZ,X0,X1,X2,X3,X4,X5,X6,X7,X8,X9,Xa,Xb,Xc,Xd,Xe,Xf,Xg,Xh,Xi,Xj,Xk,Xl,Xm,Xn,Xo,Xp,Xq,Xr,Xs,Xt,Xu,Xv,Xw,Xx,Xy,Xz,XA,XB,reduceIte,reduceCtorEq,XC,XD,XE,XF,XG,XH,XI,XJ,XK,XL,XM,XN,XO,XP,XQ,XR,XS,XT,XU,XV,XW,XX,XY,XZ,Y0,Try.q3,Try.q4,Try.q23,Try.q27,Try.q29,Try.underlying37,Try.q37,Try.underlying64,Try.q64,Try.underlying66,Try.q66,Try.q94]
  by_cases h4 : 16384 < al.length
  · have d1 : decide ((16384 : Int) < (al.length : Int)) = true := decide_eq_true (by omega)
    rw [if_pos h4]
    refine acalls_then (k1 _) ?_
    simp -implicitDefEqProofs only [lm,d1,Q0,Q1,Q2,Q3,Q4,Q5,Q6,Q7,Q8,Q9,Qa,Qb,Qc,Qd,Qe,Qf,Qg,Qh,Qi,Qj,Qk,Ql,Qm,Qn,Qo,Qp,Qq,Qr,Qs,Qt,Qu,Qv,Qw,Qx,Qy,Qz,QA,QB,QC,QD,QE,QF,QG,QH,QI,QJ,QK,QL,QM,QN,QO,QP,QQ,QR,QS,QT,QU,QV,QW,QX,QY,QZ,X0,X1,X2,X3,X4,X5,X6,X7,X8,X9,Xa,Xb,Xc,Xd,Xe,Xf,Xg,Xh,Xi,Xj,Xk,Xl,Xm,Xn,Xo,Xp,Xq,Xr,Xs,Xt,Xu,Xv,Xw,Xx,Xy,Xz,XA,XB,reduceIte,reduceCtorEq,XC,XD,XE,XF,XG,XH,XI,XJ,XK,XL,XM,XN,XO,XP,XQ,XR,XS,XT,XU,XV,XW,XX,XY,XZ,Y0,Try.q3,Try.q4,Try.q23,Try.q27,Try.q29,Try.underlying37,Try.q37,Try.underlying64,Try.q64,Try.underlying66,Try.q66,Try.q94]
    exact hσ.symm
  · have d1 : decide ((16384 : Int) < (al.length : Int)) = false := decide_eq_false (by omega)
    rw [if_neg h4]
    cases hb : sndB al with
    | false =>
      rw [hb] at k2
      rw [if_pos rfl]
      refine acalls_then (k1 _) ?_
      simp -implicitDefEqProofs only [lm,d1,Q0,Q1,Q2,Q3,Q4,Q5,Q6,Q7,Q8,Q9,Qa,Qb,Qc,Qd,Qe,Qf,Qg,Qh,Qi,Qj,Qk,Ql,Qm,Qn,Qo,Qp,Qq,Qr,Qs,Qt,Qu,Qv,Qw,Qx,Qy,Qz,QA,QB,QC,QD,QE,QF,QG,QH,QI,QJ,QK,QL,QM,QN,QO,QP,QQ,QR,QS,QT,QU,QV,QW,QX,QY,QZ,X0,X1,X2,X3,X4,X5,X6,X7,X8,X9,Xa,Xb,Xc,Xd,Xe,Xf,Xg,Xh,Xi,Xj,Xk,Xl,Xm,Xn,Xo,Xp,Xq,Xr,Xs,Xt,Xu,Xv,Xw,Xx,Xy,Xz,XA,XB,reduceIte,reduceCtorEq,XC,XD,XE,XF,XG,XH,XI,XJ,XK,XL,XM,XN,XO,XP,XQ,XR,XS,XT,XU,XV,XW,XX,XY,XZ,Y0,Try.q3,Try.q4,Try.q23,Try.q27,Try.q29,Try.underlying37,Try.q37,Try.underlying64,Try.q64,Try.underlying66,Try.q66,Try.q94]
      refine acalls_then (k2 _) ?_
      simp -implicitDefEqProofs only [Q0,Q1,Q2,Q3,Q4,Q5,Q6,Q7,Q8,Q9,Qa,Qb,Qc,Qd,Qe,Qf,Qg,Qh,Qi,Qj,Qk,Ql,Qm,Qn,Qo,Qp,Qq,Qr,Qs,Qt,Qu,Qv,Qw,Qx,Qy,Qz,QA,QB,QC,QD,QE,QF,QG,QH,QI,QJ,QK,QL,QM,QN,QO,QP,QQ,QR,QS,QT,QU,QV,QW,QX,QY,QZ,X0,X1,X2,X3,X4,X5,X6,X7,X8,X9,Xa,Xb,Xc,Xd,Xe,Xf,Xg,Xh,Xi,Xj,Xk,Xl,Xm,Xn,Xo,Xp,Xq,Xr,Xs,Xt,Xu,Xv,Xw,Xx,Xy,Xz,XA,XB,reduceIte,reduceCtorEq,XC,XD,XE,XF,XG,XH,XI,XJ,XK,XL,XM,XN,XO,XP,XQ,XR,XS,XT,XU,XV,XW,XX,XY,XZ,Y0,Try.q3,Try.q4,Try.q23,Try.q27,Try.q29,Try.underlying37,Try.q37,Try.underlying64,Try.q64,Try.underlying66,Try.q66,Try.q94]
      exact hσ.symm
    | true =>
      rw [hb] at k2
      rw [if_neg (by decide)]
      refine acalls_then (k1 _) ?_
      simp -implicitDefEqProofs only [lm,d1,Q0,Q1,Q2,Q3,Q4,Q5,Q6,Q7,Q8,Q9,Qa,Qb,Qc,Qd,Qe,Qf,Qg,Qh,Qi,Qj,Qk,Ql,Qm,Qn,Qo,Qp,Qq,Qr,Qs,Qt,Qu,Qv,Qw,Qx,Qy,Qz,QA,QB,QC,QD,QE,QF,QG,QH,QI,QJ,QK,QL,QM,QN,QO,QP,QQ,QR,QS,QT,QU,QV,QW,QX,QY,QZ,X0,X1,X2,X3,X4,X5,X6,X7,X8,X9,Xa,Xb,Xc,Xd,Xe,Xf,Xg,Xh,Xi,Xj,Xk,Xl,Xm,Xn,Xo,Xp,Xq,Xr,Xs,Xt,Xu,Xv,Xw,Xx,Xy,Xz,XA,XB,reduceIte,reduceCtorEq,XC,XD,XE,XF,XG,XH,XI,XJ,XK,XL,XM,XN,XO,XP,XQ,XR,XS,XT,XU,XV,XW,XX,XY,XZ,Y0,Try.q3,Try.q4,Try.q23,Try.q27,Try.q29,Try.underlying37,Try.q37,Try.underlying64,Try.q64,Try.underlying66,Try.q66,Try.q94]
      refine acalls_then (k2 _) ?_
      simp -implicitDefEqProofs only [h0,Q0,Q1,Q2,Q3,Q4,Q5,Q6,Q7,Q8,Q9,Qa,Qb,Qc,Qd,Qe,Qf,Qg,Qh,Qi,Qj,Qk,Ql,Qm,Qn,Qo,Qp,Qq,Qr,Qs,Qt,Qu,Qv,Qw,Qx,Qy,Qz,QA,QB,QC,QD,QE,QF,QG,QH,QI,QJ,QK,QL,QM,QN,QO,QP,QQ,QR,QS,QT,QU,QV,QW,QX,QY,QZ,X0,X1,X2,X3,X4,X5,X6,X7,X8,X9,Xa,Xb,Xc,Xd,Xe,Xf,Xg,Xh,Xi,Xj,Xk,Xl,Xm,Xn,Xo,Xp,Xq,Xr,Xs,Xt,Xu,Xv,Xw,Xx,Xy,Xz,XA,XB,reduceIte,reduceCtorEq,XC,XD,XE,XF,XG,XH,XI,XJ,XK,XL,XM,XN,XO,XP,XQ,XR,XS,XT,XU,XV,XW,XX,XY,XZ,Y0,Try.q3,Try.q4,Try.q23,Try.q27,Try.q29,Try.underlying37,Try.q37,Try.underlying64,Try.q64,Try.underlying66,Try.q66,Try.q94]

theorem c_Post (es e : List Ent) (hl : es.length ≤ 16384) (he : e.length ≤ 1000) (hV : ∀ x ∈ es, Val x) (σ : Store) (id j : Nat) (h0 : σ[id]? = some (.box [esV es, .mp j])) :
    ACalls Try.prog 12 [.ptr id 0, esV e] σ (fun r s => r = .int .i64 (postR es e).1 ∧ s = σ.set id (.box [esV (postR es e).2, .mp j])) := by
  have hσ : σ.set id (.box [esV es, .mp j]) = σ := set_same h0
  have kb := c_badE e (by omega)
  unfold postR
  cases hb : (e.any fun x => !valB x) with
  | true =>
    rw [hb] at kb
    rw [if_pos rfl]
    refine acalls_of_vc (fn := Try.f12) Try.call12 Try.func12 rfl (by kernel_rfl) (by simp [Try.ntmps12]) ?_; simp -implicitDefEqProofs only [Try.ntmps12,Try.results12,Q0,Q1,Q2,Q3,Q4,Q5,Q6,Q7,Q8,Q9,Qa,Qb,Qc,Qd,Qe,Qf,Qg,Qh,Qi,Qj,Qk,Ql,Qm,Qn,Qo,Qp,Qq,Qr,Qs,Qt,Qu,Qv,Qw,Qx,Qy,Qz,QA,QB,QC,QD,QE,QF,QG,QH,QI,QJ,QK,QL,QM,QN,QO,QP,QQ,QR,QS,QT,QU,QV,QW,QX,QY,QZ,X0,X1,X2,X3,X4,X5,X6,X7,X8,X9,Xa,Xb,Xc,Xd,Xe,Xf,Xg,Xh,Xi,Xj,Xk,Xl,Xm,Xn,Xo,Xp,Xq,Xr,Xs,Xt,Xu,Xv,Xw,Xx,Xy,Xz,XA,XB,reduceIte,reduceCtorEq,XC,XD,XE,XF,XG,XH,XI,XJ,XK,XL,XM,XN,XO,XP,XQ,XR,XS,XT,XU,XV,XW,XX,XY,XZ,Y0,Try.q4,Try.q23,Try.q27,Try.q29,Try.underlying37,Try.q37]
    refine acalls_then (kb _) ?_
    simp -implicitDefEqProofs only [Q0,Q1,Q2,Q3,Q4,Q5,Q6,Q7,Q8,Q9,Qa,Qb,Qc,Qd,Qe,Qf,Qg,Qh,Qi,Qj,Qk,Ql,Qm,Qn,Qo,Qp,Qq,Qr,Qs,Qt,Qu,Qv,Qw,Qx,Qy,Qz,QA,QB,QC,QD,QE,QF,QG,QH,QI,QJ,QK,QL,QM,QN,QO,QP,QQ,QR,QS,QT,QU,QV,QW,QX,QY,QZ,X0,X1,X2,X3,X4,X5,X6,X7,X8,X9,Xa,Xb,Xc,Xd,Xe,Xf,Xg,Xh,Xi,Xj,Xk,Xl,Xm,Xn,Xo,Xp,Xq,Xr,Xs,Xt,Xu,Xv,Xw,Xx,Xy,Xz,XA,XB,reduceIte,reduceCtorEq,XC,XD,XE,XF,XG,XH,XI,XJ,XK,XL,XM,XN,XO,XP,XQ,XR,XS,XT,XU,XV,XW,XX,XY,XZ,Y0,Try.q4,Try.q23,Try.q27,Try.q29,Try.underlying37,Try.q37]
    exact hσ.symm
  | false =>
    rw [hb] at kb
    rw [if_neg (by decide)]
    have ka := c_add es e hl he hV (any_val hb) σ id j h0
    refine acalls_of_vc (fn := Try.f12) Try.call12 Try.func12 rfl (by kernel_rfl) (by simp [Try.ntmps12]) ?_; simp -implicitDefEqProofs only [Try.ntmps12,Try.results12,Q0,Q1,Q2,Q3,Q4,Q5,Q6,Q7,Q8,Q9,Qa,Qb,Qc,Qd,Qe,Qf,Qg,Qh,Qi,Qj,Qk,Ql,Qm,Qn,Qo,Qp,Qq,Qr,Qs,Qt,Qu,Qv,Qw,Qx,Qy,Qz,QA,QB,QC,QD,QE,QF,QG,QH,QI,QJ,QK,QL,QM,QN,QO,QP,QQ,QR,QS,QT,QU,QV,QW,QX,QY,QZ,X0,X1,X2,X3,X4,X5,X6,X7,X8,X9,Xa,Xb,Xc,Xd,Xe,Xf,Xg,Xh,Xi,Xj,Xk,Xl,Xm,Xn,Xo,Xp,Xq,Xr,Xs,Xt,Xu,Xv,Xw,Xx,Xy,Xz,XA,XB,reduceIte,reduceCtorEq,XC,XD,XE,XF,XG,XH,XI,XJ,XK,XL,XM,XN,XO,XP,XQ,XR,XS,XT,XU,XV,XW,XX,XY,XZ,Y0,Try.q4,Try.q23,Try.q27,Try.q29,Try.underlying37,Try.q37]
    refine acalls_then (kb _) ?_
    simp -implicitDefEqProofs only [Q0,Q1,Q2,Q3,Q4,Q5,Q6,Q7,Q8,Q9,Qa,Qb,Qc,Qd,Qe,Qf,Qg,Qh,Qi,Qj,Qk,Ql,Qm,Qn,Qo,Qp,Qq,Qr,Qs,Qt,Qu,Qv,Qw,Qx,Qy,Qz,QA,QB,QC,QD,QE,QF,QG,QH,QI,QJ,QK,QL,QM,QN,QO,QP,QQ,QR,QS,QT,QU,QV,QW,QX,QY,QZ,X0,X1,X2,X3,X4,X5,X6,X7,X8,X9,Xa,Xb,Xc,Xd,Xe,Xf,Xg,Xh,Xi,Xj,Xk,Xl,Xm,Xn,Xo,Xp,Xq,Xr,Xs,Xt,Xu,Xv,Xw,Xx,Xy,Xz,XA,XB,reduceIte,reduceCtorEq,XC,XD,XE,XF,XG,XH,XI,XJ,XK,XL,XM,XN,XO,XP,XQ,XR,XS,XT,XU,XV,XW,XX,XY,XZ,Y0,Try.q4,Try.q23,Try.q27,Try.q29,Try.underlying37,Try.q37]
    refine ACalls.mono ka ?_
    rintro _ s ⟨rfl, rfl⟩
    simp -implicitDefEqProofs only [Q0,Q1,Q2,Q3,Q4,Q5,Q6,Q7,Q8,Q9,Qa,Qb,Qc,Qd,Qe,Qf,Qg,Qh,Qi,Qj,Qk,Ql,Qm,Qn,Qo,Qp,Qq,Qr,Qs,Qt,Qu,Qv,Qw,Qx,Qy,Qz,QA,QB,QC,QD,QE,QF,QG,QH,QI,QJ,QK,QL,QM,QN,QO,QP,QQ,QR,QS,QT,QU,QV,QW,QX,QY,QZ,X0,X1,X2,X3,X4,X5,X6,X7,X8,X9,Xa,Xb,Xc,Xd,Xe,Xf,Xg,Xh,Xi,Xj,Xk,Xl,Xm,Xn,Xo,Xp,Xq,Xr,Xs,Xt,Xu,Xv,Xw,Xx,Xy,Xz,XA,XB,reduceIte,reduceCtorEq,XC,XD,XE,XF,XG,XH,XI,XJ,XK,XL,XM,XN,XO,XP,XQ,XR,XS,XT,XU,XV,XW,XX,XY,XZ,Y0,Try.q4,Try.q23,Try.q27,Try.q29,Try.underlying37,Try.q37]

end Go.Proofs
