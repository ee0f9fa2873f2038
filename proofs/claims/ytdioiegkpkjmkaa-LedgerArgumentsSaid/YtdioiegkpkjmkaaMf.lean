/-
  The ledger: an entry of which one field is changed; operations of any kind; contracts.
-/
import Derived.Test.YtdioiegkpkjmkaaMj
namespace Go.Proofs
open Go.Pa
open Go.Pa renaming VB0 → Q0, VB1 → Q1, VB2 → Q2, VB3 → Q3, VB4 → Q4, VB5 → Q5, VB6 → Q6, VB7 → Q7, VB8 → Q8, VB9 → Q9, condV_bool → Qa, guardV_bool → Qb, vcS → Qc, evA → Qd, evBin → Qe, nilA → Qf, nilOf → Qg, intOp → Qh, strOp → Qi, evUn → Qj, evConv → Qk, evField → Ql, evFieldAddr → Qm, evIndexAddr → Qn, evIndex → Qo, evIndexA → Qp, bnd → Qq, evSlice → Qr, evLen → Qs, evPick → Qt, evExtract → Qu, evNilCheck → Qv, evMin → Qw, evMax → Qx, evLoadI → Qy, partsOne → QA, intsOf → QB, rowsAV → QC, evBuildSlice → QD, evBuild → QE, fillA → QF, splice → QG, evBuiltin → QH, guardD_bool → QI, dOp → QJ, cl → QK, vcLoad → QL, vcStore → QM, vcMake → QN, convA → QO, evIndexArr → QP, retA → QQ, ressA → QR, resA → QS, envOf → QT, condR_bool → QX, asgEnv → QY, parEnv → QZ, dstAt → XI, vcLook → XT, vcPut → XU, vcEnt → XV, vcESt → XW, vcMLen → XX, vcDel → XY, vcClear → XZ, vcLookD → Y0
open Go.Pa.AV renaming cell → Qz
open Go.Pa.Env renaming put → QU
open List renaming set_cons_zero → QV, set_cons_succ → QW, foldl_cons → X0, foldl_nil → X1, map_cons → X2, map_nil → X3, toList_toArray → X4, getElem?_cons_zero → X5, getElem?_cons_succ → X6, nil_append → Xa, append_nil → Xb, cons_append → Xc, singleton_append → Xd, length_cons → Xe, length_nil → Xf, all_cons → Xg, all_nil → Xh, take_succ_cons → Xi, take_zero → Xj, take_nil → Xk, drop_zero → Xl, drop_succ_cons → Xm, drop_nil → Xn, contains_nil → Xo, contains_cons → Xp
open Option renaming bind_some → X7, map_some → X8, map_none → X9
open Bool renaming or_false → Xq, false_or → Xr, or_true → Xs, true_or → Xt, false_eq_true → XC, not_true → XD, not_false → XE, and_true → XF, true_and → XG, and_self → XH
open Nat renaming reduceEqDiff → Xu, reduceAdd → Xv, reduceSub → Xw, reduceMul → Xx, reduceLT → Xy, reduceLeDiff → Xz, reduceBNe → XA, reduceBEq → XB, zero_add → XL, add_zero → XM
open UInt8 renaming reduceToNat → XJ
open Int renaming cast_ofNat_Int → XK, reduceToNat → XN, reduceLT → XO, reduceLE → XP, reduceNeg → XQ, reduceEq → XR, reduceNe → XS
set_option linter.unusedSimpArgs false
set_option linter.unusedVariables false
set_option maxRecDepth 20000
set_option maxHeartbeats 4000000

def spE (e : Ent) (c b : Int) : Ent :=
  if c = 0 then { e with day := b } else if c = 1 then { e with fr := b } else if c = 2 then { e with to := b } else if c = 3 then { e with cur := b } else if c = 4 then { e with amt := b } else if c = 5 then { e with note := b } else { e with to := e.fr }

theorem r_spE (e : Ent) (h b : Int) (σ : Store) : ACalls Try.prog 22 [.agg (entA e), .int .i64 h, .int .i64 b] σ (fun r s => r = .agg (entA (spE e (aroundI h 7) b)) ∧ s = σ) := by
  refine ACalls.frozen (ACalls.mono (R := fun r s => r = .agg (entA (spE e (aroundI h 7) b)) ∧ Ext σ s) ?_ fun r s ⟨h1, h2⟩ => ⟨h2, by rw [h1]; exact .same _ rfl⟩)
  have kA := fun σ => around h 7 σ (by decide)
  generalize aroundI h 7 = c at *
  have hx : ∀ x y, Ext σ (σ ++ [x, y]) := fun x y => Ext.app _ _
  unfold entA
  by_cases h0 : c = 0
  · subst h0
    refine acalls_of_vc (fn := Try.f22) Try.call22 Try.func22 rfl (by kernel_rfl) (by simp [Try.ntmps22]) ?_; simp -implicitDefEqProofs only [Try.ntmps22,Try.results22,Q0,Q1,Q2,Q3,Q4,Q5,Q6,Q7,Q8,Q9,Qa,Qb,Qc,Qd,Qe,Qf,Qg,Qh,Qi,Qj,Qk,Ql,Qm,Qn,Qo,Qp,Qq,Qr,Qs,Qt,Qu,Qv,Qw,Qx,Qy,Qz,QA,QB,QC,QD,QE,QF,QG,QH,QI,QJ,QK,QL,QM,QN,QO,QP,QQ,QR,QS,QT,QU,QV,QW,QX,QY,QZ,X0,X1,X2,X3,X4,X5,X6,X7,X8,X9,Xa,Xb,Xc,Xd,Xe,Xf,Xg,Xh,Xi,Xj,Xk,Xl,Xm,Xn,Xo,Xp,Xq,Xr,Xs,Xt,Xu,Xv,Xw,Xx,Xy,Xz,XA,XB,reduceIte,reduceCtorEq,XC,XD,XE,XF,XG,XH,XI,XJ,XK,XL,XM,XN,XO,XP,XQ,XR,XS,XT,XU,XV,XW,XX,XY,XZ,Y0,Try.q3,Try.q4,Try.underlying36,Try.q36]
    refine acalls_then (kA _) ?_
    simp -implicitDefEqProofs only [Q0,Q1,Q2,Q3,Q4,Q5,Q6,Q7,Q8,Q9,Qa,Qb,Qc,Qd,Qe,Qf,Qg,Qh,Qi,Qj,Qk,Ql,Qm,Qn,Qo,Qp,Qq,Qr,Qs,Qt,Qu,Qv,Qw,Qx,Qy,Qz,QA,QB,QC,QD,QE,QF,QG,QH,QI,QJ,QK,QL,QM,QN,QO,QP,QQ,QR,QS,QT,QU,QV,QW,QX,QY,QZ,X0,X1,X2,X3,X4,X5,X6,X7,X8,X9,Xa,Xb,Xc,Xd,Xe,Xf,Xg,Xh,Xi,Xj,Xk,Xl,Xm,Xn,Xo,Xp,Xq,Xr,Xs,Xt,Xu,Xv,Xw,Xx,Xy,Xz,XA,XB,reduceIte,reduceCtorEq,XC,XD,XE,XF,XG,XH,XI,XJ,XK,XL,XM,XN,XO,XP,XQ,XR,XS,XT,XU,XV,XW,XX,XY,XZ,Y0,Try.q3,Try.q4,Try.underlying36,Try.q36]
    exact ⟨rfl, hx _ _⟩
  have d0 : decide (c = 0) = false := decide_eq_false h0
  by_cases h1 : c = 1
  · subst h1
    refine acalls_of_vc (fn := Try.f22) Try.call22 Try.func22 rfl (by kernel_rfl) (by simp [Try.ntmps22]) ?_; simp -implicitDefEqProofs only [Try.ntmps22,Try.results22,Q0,Q1,Q2,Q3,Q4,Q5,Q6,Q7,Q8,Q9,Qa,Qb,Qc,Qd,Qe,Qf,Qg,Qh,Qi,Qj,Qk,Ql,Qm,Qn,Qo,Qp,Qq,Qr,Qs,Qt,Qu,Qv,Qw,Qx,Qy,Qz,QA,QB,QC,QD,QE,QF,QG,QH,QI,QJ,QK,QL,QM,QN,QO,QP,QQ,QR,QS,QT,QU,QV,QW,QX,QY,QZ,X0,X1,X2,X3,X4,X5,X6,X7,X8,X9,Xa,Xb,Xc,Xd,Xe,Xf,Xg,Xh,Xi,Xj,Xk,Xl,Xm,Xn,Xo,Xp,Xq,Xr,Xs,Xt,Xu,Xv,Xw,Xx,Xy,Xz,XA,XB,reduceIte,reduceCtorEq,XC,XD,XE,XF,XG,XH,XI,XJ,XK,XL,XM,XN,XO,XP,XQ,XR,XS,XT,XU,XV,XW,XX,XY,XZ,Y0,Try.q3,Try.q4,Try.underlying36,Try.q36]
    refine acalls_then (kA _) ?_
    simp -implicitDefEqProofs only [Q0,Q1,Q2,Q3,Q4,Q5,Q6,Q7,Q8,Q9,Qa,Qb,Qc,Qd,Qe,Qf,Qg,Qh,Qi,Qj,Qk,Ql,Qm,Qn,Qo,Qp,Qq,Qr,Qs,Qt,Qu,Qv,Qw,Qx,Qy,Qz,QA,QB,QC,QD,QE,QF,QG,QH,QI,QJ,QK,QL,QM,QN,QO,QP,QQ,QR,QS,QT,QU,QV,QW,QX,QY,QZ,X0,X1,X2,X3,X4,X5,X6,X7,X8,X9,Xa,Xb,Xc,Xd,Xe,Xf,Xg,Xh,Xi,Xj,Xk,Xl,Xm,Xn,Xo,Xp,Xq,Xr,Xs,Xt,Xu,Xv,Xw,Xx,Xy,Xz,XA,XB,reduceIte,reduceCtorEq,XC,XD,XE,XF,XG,XH,XI,XJ,XK,XL,XM,XN,XO,XP,XQ,XR,XS,XT,XU,XV,XW,XX,XY,XZ,Y0,Try.q3,Try.q4,Try.underlying36,Try.q36]
    exact ⟨rfl, hx _ _⟩
  have d1 : decide (c = 1) = false := decide_eq_false h1
  by_cases h2 : c = 2
  · subst h2
    refine acalls_of_vc (fn := Try.f22) Try.call22 Try.func22 rfl (by kernel_rfl) (by simp [Try.ntmps22]) ?_; simp -implicitDefEqProofs only [Try.ntmps22,Try.results22,Q0,Q1,Q2,Q3,Q4,Q5,Q6,Q7,Q8,Q9,Qa,Qb,Qc,Qd,Qe,Qf,Qg,Qh,Qi,Qj,Qk,Ql,Qm,Qn,Qo,Qp,Qq,Qr,Qs,Qt,Qu,Qv,Qw,Qx,Qy,Qz,QA,QB,QC,QD,QE,QF,QG,QH,QI,QJ,QK,QL,QM,QN,QO,QP,QQ,QR,QS,QT,QU,QV,QW,QX,QY,QZ,X0,X1,X2,X3,X4,X5,X6,X7,X8,X9,Xa,Xb,Xc,Xd,Xe,Xf,Xg,Xh,Xi,Xj,Xk,Xl,Xm,Xn,Xo,Xp,Xq,Xr,Xs,Xt,Xu,Xv,Xw,Xx,Xy,Xz,XA,XB,reduceIte,reduceCtorEq,XC,XD,XE,XF,XG,XH,XI,XJ,XK,XL,XM,XN,XO,XP,XQ,XR,XS,XT,XU,XV,XW,XX,XY,XZ,Y0,Try.q3,Try.q4,Try.underlying36,Try.q36]
    refine acalls_then (kA _) ?_
    simp -implicitDefEqProofs only [Q0,Q1,Q2,Q3,Q4,Q5,Q6,Q7,Q8,Q9,Qa,Qb,Qc,Qd,Qe,Qf,Qg,Qh,Qi,Qj,Qk,Ql,Qm,Qn,Qo,Qp,Qq,Qr,Qs,Qt,Qu,Qv,Qw,Qx,Qy,Qz,QA,QB,QC,QD,QE,QF,QG,QH,QI,QJ,QK,QL,QM,QN,QO,QP,QQ,QR,QS,QT,QU,QV,QW,QX,QY,QZ,X0,X1,X2,X3,X4,X5,X6,X7,X8,X9,Xa,Xb,Xc,Xd,Xe,Xf,Xg,Xh,Xi,Xj,Xk,Xl,Xm,Xn,Xo,Xp,Xq,Xr,Xs,Xt,Xu,Xv,Xw,Xx,Xy,Xz,XA,XB,reduceIte,reduceCtorEq,XC,XD,XE,XF,XG,XH,XI,XJ,XK,XL,XM,XN,XO,XP,XQ,XR,XS,XT,XU,XV,XW,XX,XY,XZ,Y0,Try.q3,Try.q4,Try.underlying36,Try.q36]
    exact ⟨rfl, hx _ _⟩
  have d2 : decide (c = 2) = false := decide_eq_false h2
  by_cases h3 : c = 3
  · subst h3
    refine acalls_of_vc (fn := Try.f22) Try.call22 Try.func22 rfl (by kernel_rfl) (by simp [Try.ntmps22]) ?_; simp -implicitDefEqProofs only [Try.ntmps22,Try.results22,Q0,Q1,Q2,Q3,Q4,Q5,Q6,Q7,Q8,Q9,Qa,Qb,Qc,Qd,Qe,Qf,Qg,Qh,Qi,Qj,Qk,Ql,Qm,Qn,Qo,Qp,Qq,Qr,Qs,Qt,Qu,Qv,Qw,Qx,Qy,Qz,QA,QB,QC,QD,QE,QF,QG,QH,QI,QJ,QK,QL,QM,QN,QO,QP,QQ,QR,QS,QT,QU,QV,QW,QX,QY,QZ,X0,X1,X2,X3,X4,X5,X6,X7,X8,X9,Xa,Xb,Xc,Xd,Xe,Xf,Xg,Xh,Xi,Xj,Xk,Xl,Xm,Xn,Xo,Xp,Xq,Xr,Xs,Xt,Xu,Xv,Xw,Xx,Xy,Xz,XA,XB,reduceIte,reduceCtorEq,XC,XD,XE,XF,XG,XH,XI,XJ,XK,XL,XM,XN,XO,XP,XQ,XR,XS,XT,XU,XV,XW,XX,XY,XZ,Y0,Try.q3,Try.q4,Try.underlying36,Try.q36]
    refine acalls_then (kA _) ?_
    simp -implicitDefEqProofs only [Q0,Q1,Q2,Q3,Q4,Q5,Q6,Q7,Q8,Q9,Qa,Qb,Qc,Qd,Qe,Qf,Qg,Qh,Qi,Qj,Qk,Ql,Qm,Qn,Qo,Qp,Qq,Qr,Qs,Qt,Qu,Qv,Qw,Qx,Qy,Qz,QA,QB,QC,QD,QE,QF,QG,QH,QI,QJ,QK,QL,QM,QN,QO,QP,QQ,QR,QS,QT,QU,QV,QW,QX,QY,QZ,X0,X1,X2,X3,X4,X5,X6,X7,X8,X9,Xa,Xb,Xc,Xd,Xe,Xf,Xg,Xh,Xi,Xj,Xk,Xl,Xm,Xn,Xo,Xp,Xq,Xr,Xs,Xt,Xu,Xv,Xw,Xx,Xy,Xz,XA,XB,reduceIte,reduceCtorEq,XC,XD,XE,XF,XG,XH,XI,XJ,XK,XL,XM,XN,XO,XP,XQ,XR,XS,XT,XU,XV,XW,XX,XY,XZ,Y0,Try.q3,Try.q4,Try.underlying36,Try.q36]
    exact ⟨rfl, hx _ _⟩
  have d3 : decide (c = 3) = false := decide_eq_false h3
  by_cases h4 : c = 4
  · subst h4
    refine acalls_of_vc (fn := Try.f22) Try.call22 Try.func22 rfl (by kernel_rfl) (by simp [Try.ntmps22]) ?_; simp -implicitDefEqProofs only [Try.ntmps22,Try.results22,Q0,Q1,Q2,Q3,Q4,Q5,Q6,Q7,Q8,Q9,Qa,Qb,Qc,Qd,Qe,Qf,Qg,Qh,Qi,Qj,Qk,Ql,Qm,Qn,Qo,Qp,Qq,Qr,Qs,Qt,Qu,Qv,Qw,Qx,Qy,Qz,QA,QB,QC,QD,QE,QF,QG,QH,QI,QJ,QK,QL,QM,QN,QO,QP,QQ,QR,QS,QT,QU,QV,QW,QX,QY,QZ,X0,X1,X2,X3,X4,X5,X6,X7,X8,X9,Xa,Xb,Xc,Xd,Xe,Xf,Xg,Xh,Xi,Xj,Xk,Xl,Xm,Xn,Xo,Xp,Xq,Xr,Xs,Xt,Xu,Xv,Xw,Xx,Xy,Xz,XA,XB,reduceIte,reduceCtorEq,XC,XD,XE,XF,XG,XH,XI,XJ,XK,XL,XM,XN,XO,XP,XQ,XR,XS,XT,XU,XV,XW,XX,XY,XZ,Y0,Try.q3,Try.q4,Try.underlying36,Try.q36]
    refine acalls_then (kA _) ?_
    simp -implicitDefEqProofs only [Q0,Q1,Q2,Q3,Q4,Q5,Q6,Q7,Q8,Q9,Qa,Qb,Qc,Qd,Qe,Qf,Qg,Qh,Qi,Qj,Qk,Ql,Qm,Qn,Qo,Qp,Qq,Qr,Qs,Qt,Qu,Qv,Qw,Qx,Qy,Qz,QA,QB,QC,QD,QE,QF,QG,QH,QI,QJ,QK,QL,QM,QN,QO,QP,QQ,QR,QS,QT,QU,QV,QW,QX,QY,QZ,X0,X1,X2,X3,X4,X5,X6,X7,X8,X9,Xa,Xb,Xc,Xd,Xe,Xf,Xg,Xh,Xi,Xj,Xk,Xl,Xm,Xn,Xo,Xp,Xq,Xr,Xs,Xt,Xu,Xv,Xw,Xx,Xy,Xz,XA,XB,reduceIte,reduceCtorEq,XC,XD,XE,XF,XG,XH,XI,XJ,XK,XL,XM,XN,XO,XP,XQ,XR,XS,XT,XU,XV,XW,XX,XY,XZ,Y0,Try.q3,Try.q4,Try.underlying36,Try.q36]
    exact ⟨rfl, hx _ _⟩
  have d4 : decide (c = 4) = false := decide_eq_false h4
  by_cases h5 : c = 5
  · subst h5
    refine acalls_of_vc (fn := Try.f22) Try.call22 Try.func22 rfl (by kernel_rfl) (by simp [Try.ntmps22]) ?_; simp -implicitDefEqProofs only [Try.ntmps22,Try.results22,Q0,Q1,Q2,Q3,Q4,Q5,Q6,Q7,Q8,Q9,Qa,Qb,Qc,Qd,Qe,Qf,Qg,Qh,Qi,Qj,Qk,Ql,Qm,Qn,Qo,Qp,Qq,Qr,Qs,Qt,Qu,Qv,Qw,Qx,Qy,Qz,QA,QB,QC,QD,QE,QF,QG,QH,QI,QJ,QK,QL,QM,QN,QO,QP,QQ,QR,QS,QT,QU,QV,QW,QX,QY,QZ,X0,X1,X2,X3,X4,X5,X6,X7,X8,X9,Xa,Xb,Xc,Xd,Xe,Xf,Xg,Xh,Xi,Xj,Xk,Xl,Xm,Xn,Xo,Xp,Xq,Xr,Xs,Xt,Xu,Xv,Xw,Xx,Xy,Xz,XA,XB,reduceIte,reduceCtorEq,XC,XD,XE,XF,XG,XH,XI,XJ,XK,XL,XM,XN,XO,XP,XQ,XR,XS,XT,XU,XV,XW,XX,XY,XZ,Y0,Try.q3,Try.q4,Try.underlying36,Try.q36]
    refine acalls_then (kA _) ?_
    simp -implicitDefEqProofs only [Q0,Q1,Q2,Q3,Q4,Q5,Q6,Q7,Q8,Q9,Qa,Qb,Qc,Qd,Qe,Qf,Qg,Qh,Qi,Qj,Qk,Ql,Qm,Qn,Qo,Qp,Qq,Qr,Qs,Qt,Qu,Qv,Qw,Qx,Qy,Qz,QA,QB,QC,QD,QE,QF,QG,QH,QI,QJ,QK,QL,QM,QN,QO,QP,QQ,QR,QS,QT,QU,QV,QW,QX,QY,QZ,X0,X1,X2,X3,X4,X5,X6,X7,X8,X9,Xa,Xb,Xc,Xd,Xe,Xf,Xg,Xh,Xi,Xj,Xk,Xl,Xm,Xn,Xo,Xp,Xq,Xr,Xs,Xt,Xu,Xv,Xw,Xx,Xy,Xz,XA,XB,reduceIte,reduceCtorEq,XC,XD,XE,XF,XG,XH,XI,XJ,XK,XL,XM,XN,XO,XP,XQ,XR,XS,XT,XU,XV,XW,XX,XY,XZ,Y0,Try.q3,Try.q4,Try.underlying36,Try.q36]
    exact ⟨rfl, hx _ _⟩
  have d5 : decide (c = 5) = false := decide_eq_false h5
  have hs : spE e c b = { e with to := e.fr } := by simp [spE, h0, h1, h2, h3, h4, h5]
  rw [hs]
  refine acalls_of_vc (fn := Try.f22) Try.call22 Try.func22 rfl (by kernel_rfl) (by simp [Try.ntmps22]) ?_; simp -implicitDefEqProofs only [Try.ntmps22,Try.results22,Q0,Q1,Q2,Q3,Q4,Q5,Q6,Q7,Q8,Q9,Qa,Qb,Qc,Qd,Qe,Qf,Qg,Qh,Qi,Qj,Qk,Ql,Qm,Qn,Qo,Qp,Qq,Qr,Qs,Qt,Qu,Qv,Qw,Qx,Qy,Qz,QA,QB,QC,QD,QE,QF,QG,QH,QI,QJ,QK,QL,QM,QN,QO,QP,QQ,QR,QS,QT,QU,QV,QW,QX,QY,QZ,X0,X1,X2,X3,X4,X5,X6,X7,X8,X9,Xa,Xb,Xc,Xd,Xe,Xf,Xg,Xh,Xi,Xj,Xk,Xl,Xm,Xn,Xo,Xp,Xq,Xr,Xs,Xt,Xu,Xv,Xw,Xx,Xy,Xz,XA,XB,reduceIte,reduceCtorEq,XC,XD,XE,XF,XG,XH,XI,XJ,XK,XL,XM,XN,XO,XP,XQ,XR,XS,XT,XU,XV,XW,XX,XY,XZ,Y0,Try.q3,Try.q4,Try.underlying36,Try.q36]
  refine acalls_then (kA _) ?_
  simp -implicitDefEqProofs only [d0,d1,d2,d3,d4,d5,Q0,Q1,Q2,Q3,Q4,Q5,Q6,Q7,Q8,Q9,Qa,Qb,Qc,Qd,Qe,Qf,Qg,Qh,Qi,Qj,Qk,Ql,Qm,Qn,Qo,Qp,Qq,Qr,Qs,Qt,Qu,Qv,Qw,Qx,Qy,Qz,QA,QB,QC,QD,QE,QF,QG,QH,QI,QJ,QK,QL,QM,QN,QO,QP,QQ,QR,QS,QT,QU,QV,QW,QX,QY,QZ,X0,X1,X2,X3,X4,X5,X6,X7,X8,X9,Xa,Xb,Xc,Xd,Xe,Xf,Xg,Xh,Xi,Xj,Xk,Xl,Xm,Xn,Xo,Xp,Xq,Xr,Xs,Xt,Xu,Xv,Xw,Xx,Xy,Xz,XA,XB,reduceIte,reduceCtorEq,XC,XD,XE,XF,XG,XH,XI,XJ,XK,XL,XM,XN,XO,XP,XQ,XR,XS,XT,XU,XV,XW,XX,XY,XZ,Y0,Try.q3,Try.q4,Try.underlying36,Try.q36]
  exact hx _ _

/-- A call after sealing. -/
theorem shutInJ {P : Program} {f : FuncId} {args args' : List AV} {s s' : Store} {R : AV → Store → Prop} (p : Nat → Prop) (hS : ShS s p s')
    (ha : ∀ G G' vs, (∀ x y v, Sh s p x y → Rep G x v → Rep G' y v) → RepL G args vs → RepL G' args' vs) (h : ACalls P f args' s' R) : ACalls P f args s R := by
  refine ⟨h.1, fun G w vs hw hl => ?_⟩
  obtain ⟨G', h1, h2, h3⟩ := hw.shutP p
  refine (h.2 G' w vs (h3 s' hS) (ha G G' _ h2 hl)).mono ?_
  rintro e w' ⟨v, r, σ', G2, he, hle, hw', hr, hR⟩
  exact ⟨v, r, σ', G2, he, h1.trans hle, hw', hr, hR⟩

/-- An operation without entries, as the law writes it. -/
theorem r_doN (es : List Ent) (dn : List Int) (hl : es.length ≤ 16384) (hV : ∀ x ∈ es, Val x) (hdl : dn.length ≤ 100000) (ix dy : Int) (hix : Okk .i64 ix) (σ : Store) (id j m d : Nat) (D : AV) (h0 : Two σ id j m d D es dn) :
    ∃ s2 d2 D2, Two s2 id j m d2 D2 (opR es dn ⟨[], ix, dy⟩).1 (opR es dn ⟨[], ix, dy⟩).2 ∧ ACalls Try.prog 21 [.ptr id 0, .ptr m 0, .agg [.nils, .int .i64 ix, .int .i64 dy]] σ (fun r s => r = .bool true ∧ s = s2) := by
  obtain ⟨s2, d2, D2, h1, -, -, h2⟩ := r_do es dn hl hV hdl ⟨[], ix, dy⟩ (by simp) hix σ id j m d D h0
  refine ⟨s2, d2, D2, h1, shutInJ (fun _ => False) ⟨rfl, fun i y hy => .inr ⟨fun h => h, y, hy, .same _⟩⟩ ?_ h2⟩
  intro G G' vs hh hl
  cases hl with
  | cons a1 hl =>
    cases hl with
    | cons a2 hl =>
      cases hl with
      | cons a3 hl =>
        cases hl
        refine .cons (hh _ _ _ (.same _) a1) (.cons (hh _ _ _ (.same _) a2) (.cons (hh _ _ _ (.agg [.nils, .int .i64 ix, .int .i64 dy] _ rfl fun i x y hx hy => ?_) a3) .nil))
        match i with
        | 0 => cases hx; cases hy; exact .nilR 6
        | 1 => cases hx; cases hy; exact .same _
        | 2 => cases hx; cases hy; exact .same _
        | i + 3 => cases hx

/-- What the law's ledgers keep, whatever is posted. -/
structure NOk (B : Nat) (es : List Ent) : Prop where
  len : es.length ≤ B
  val : ∀ e ∈ es, Val e

theorem NOk.up {B C : Nat} {es : List Ent} (h : NOk B es) (hc : B ≤ C) : NOk C es := ⟨by have := h.len; omega, h.val⟩

theorem NOk.op {B : Nat} {es : List Ent} (h : NOk B es) (hB : B ≤ 16000) (dn : List Int) {o : Opn} (ho : o.es.length ≤ 3) : NOk (B + 3) (opR es dn o).1 := by
  have hl := h.len
  unfold opR
  split
  · rcases voidR_cases es dn o.ix o.dy with h1 | ⟨h1, h2, h3, h4, _, hs, h5⟩
    · rw [h1]; exact h.up (by omega)
    · rw [h5]
      have hm : es.getD o.ix.toNat default ∈ es := getD_mem (by omega)
      have hv := h.val _ hm
      generalize es.getD o.ix.toNat default = e at *
      have hvo := opp_val hv (idx := o.ix) (day := o.dy) (by omega) ⟨h3, h4⟩
      refine ⟨by simp only [List.length_append, List.length_cons, List.length_nil]; omega, fun x hx => ?_⟩
      rcases List.mem_append.1 hx with hx | hx
      · exact h.val x hx
      · simp at hx; subst hx; exact hvo
  · rcases postR_cases es o.es with ⟨_, _, h1⟩ | ⟨hv, h1⟩
    · rw [h1]; exact h.up (by omega)
    · rw [h1]
      rcases addR_cases es o.es with ⟨_, _, h2⟩ | ⟨_, _, h2⟩ | ⟨_, hs, h2⟩
      · rw [h2]; exact h.up (by omega)
      · rw [h2]; exact h.up (by omega)
      · rw [h2]
        refine ⟨by rw [List.length_append]; omega, fun x hx => ?_⟩
        rcases List.mem_append.1 hx with hx | hx
        · exact h.val x hx
        · exact hv x hx

end Go.Proofs
