/-
  The ledger: balances and turnovers, a new ledger, its entries; contracts.
-/
import Derived.Test.YtdioiegkpkjmkaaJo
namespace Go.Proofs
open Go.Pa
open Go.Pa renaming VB0 → Q0, VB1 → Q1, VB2 → Q2, VB3 → Q3, VB4 → Q4, VB5 → Q5, VB6 → Q6, VB7 → Q7, VB8 → Q8, VB9 → Q9, condV_bool → Qa, guardV_bool → Qb, vcS → Qc, evA → Qd, evBin → Qe, nilA → Qf, nilOf → Qg, intOp → Qh, strOp → Qi, evUn → Qj, evConv → Qk, evField → Ql, evFieldAddr → Qm, evIndexAddr → Qn, evIndex → Qo, evIndexA → Qp, bnd → Qq, evSlice → Qr, evLen → Qs, evPick → Qt, evExtract → Qu, evNilCheck → Qv, evMin → Qw, evMax → Qx, evLoadI → Qy, partsOne → QA, intsOf → QB, rowsAV → QC, evBuildSlice → QD, evBuild → QE, fillA → QF, splice → QG, evBuiltin → QH, guardD_bool → QI, dOp → QJ, cl → QK, vcLoad → QL, vcStore → QM, vcMake → QN, convA → QO, evIndexArr → QP, retA → QQ, ressA → QR, resA → QS, envOf → QT, condR_bool → QX, asgEnv → QY, parEnv → QZ, dstAt → XI, vcLook → XT, vcPut → XU, vcEnt → XV, vcESt → XW, vcMLen → XX, vcDel → XY, vcClear → XZ, vcLookD → Y0
open Go.Pa.AV renaming cell → Qz
open Go.Pa.Env renaming put → QU
open List renaming set_cons_zero → QV, set_cons_succ → QW, foldl_cons → X0, foldl_nil → X1, map_cons → X2, map_nil → X3, toList_toArray → X4, getElem?_cons_zero → X5, getElem?_cons_succ → X6, nil_append → Xa, append_nil → Xb, cons_append → Xc, singleton_append → Xd, length_cons → Xe, length_nil → Xf, all_cons → Xg, all_nil → Xh, take_succ_cons → Xi, take_zero → Xj, take_nil → Xk, drop_zero → Xl, drop_succ_cons → Xm, drop_nil → Xn, contains_nil → Xo, contains_cons → Xp
open Option renaming bind_some → X7, map_some → X8, map_none → X9
open Bool renaming or_false → Xq, false_or → Xr, or_true → Xs, true_or → Xt, false_eq_true → XC, not_true → XD, not_false → XE, and_true → XF, true_and → XG, and_self → XH
open Nat renaming reduceEqDiff → Xu, reduceAdd → Xv, reduceSub → Xw, reduceMul → Xx, reduceLT → Xy, reduceLeDiff → Xz, reduceBNe → XA, reduceBEq → XB, zero_add → XL, add_zero → XM
open UInt8 renaming reduceToNat → XJ
open Int renaming cast_ofNat_Int → XK, reduceToNat → XN, reduceLT → XO, reduceLE → XP, reduceNeg → XQ, reduceEq → XR, reduceNe → XS
set_option linter.unusedSimpArgs false
set_option linter.unusedVariables false
set_option maxRecDepth 20000
set_option maxHeartbeats 4000000

theorem sumL_small {f : Ent → Int} {es : List Ent} (hl : es.length ≤ 20000) (h : ∀ e ∈ es, 0 ≤ f e ∧ f e ≤ 1099511627776) : 0 ≤ sumL f es ∧ sumL f es ≤ 1099511627776 * 20000 := by
  have := sumL_bound h
  omega

/-- What Balance answers. -/
def balQ (es : List Ent) (a c d : Int) : Int × Int := if badQ a c [d] = true then (0, 1) else (sumL (inF a c 0 d) es - sumL (outF a c 0 d) es, 0)

theorem c_Balance (es : List Ent) (hl : es.length ≤ 20000) (hV : ∀ e ∈ es, Val e) (a c d : Int) (j : AV) (σ : Store) (id : Nat) (h0 : σ[id]? = some (.box [esV es, j])) :
    ACalls Try.prog 18 [.ptr id 0, .int .i64 a, .int .i64 c, .int .i64 d] σ (fun r s => r = .tup [.int .i64 (balQ es a c d).1, .int .i64 (balQ es a c d).2] ∧ s = σ) := by
  have k1 := c_check a c [d] (by simp)
  have k2 := c_sums es hl hV a c 0 d j σ id h0
  have b1 := sumL_small hl fun x hx => inF_b (hV x hx) a c 0 d
  have b2 := sumL_small hl fun x hx => outF_b (hV x hx) a c 0 d
  unfold balQ
  generalize sumL (inF a c 0 d) es = u at *
  generalize sumL (outF a c 0 d) es = v at *
  have w : IntKind.i64.wrap (u - v) = u - v := wrap_i64 (by omega) (by omega)
  cases hb : badQ a c [d] with
  | true =>
    simp only [hb, if_true] at k1
    rw [if_pos rfl]
    refine acalls_of_vc (fn := Try.f18) Try.call18 Try.func18 rfl (by kernel_rfl) (by simp [Try.ntmps18]) ?_; simp -implicitDefEqProofs only [Try.ntmps18,Try.results18,Q0,Q1,Q2,Q3,Q4,Q5,Q6,Q7,Q8,Q9,Qa,Qb,Qc,Qd,Qe,Qf,Qg,Qh,Qi,Qj,Qk,Ql,Qm,Qn,Qo,Qp,Qq,Qr,Qs,Qt,Qu,Qv,Qw,Qx,Qy,Qz,QA,QB,QC,QD,QE,QF,QG,QH,QI,QJ,QK,QL,QM,QN,QO,QP,QQ,QR,QS,QT,QU,QV,QW,QX,QY,QZ,X0,X1,X2,X3,X4,X5,X6,X7,X8,X9,Xa,Xb,Xc,Xd,Xe,Xf,Xg,Xh,Xi,Xj,Xk,Xl,Xm,Xn,Xo,Xp,Xq,Xr,Xs,Xt,Xu,Xv,Xw,Xx,Xy,Xz,XA,XB,reduceIte,reduceCtorEq,XC,XD,XE,XF,XG,XH,XI,XJ,XK,XL,XM,XN,XO,XP,XQ,XR,XS,XT,XU,XV,XW,XX,XY,XZ,Y0,Try.q3,Try.q4,Try.q22,Try.q23,Try.q27]
    refine acalls_then (k1 _) ?_
    simp -implicitDefEqProofs only [Q0,Q1,Q2,Q3,Q4,Q5,Q6,Q7,Q8,Q9,Qa,Qb,Qc,Qd,Qe,Qf,Qg,Qh,Qi,Qj,Qk,Ql,Qm,Qn,Qo,Qp,Qq,Qr,Qs,Qt,Qu,Qv,Qw,Qx,Qy,Qz,QA,QB,QC,QD,QE,QF,QG,QH,QI,QJ,QK,QL,QM,QN,QO,QP,QQ,QR,QS,QT,QU,QV,QW,QX,QY,QZ,X0,X1,X2,X3,X4,X5,X6,X7,X8,X9,Xa,Xb,Xc,Xd,Xe,Xf,Xg,Xh,Xi,Xj,Xk,Xl,Xm,Xn,Xo,Xp,Xq,Xr,Xs,Xt,Xu,Xv,Xw,Xx,Xy,Xz,XA,XB,reduceIte,reduceCtorEq,XC,XD,XE,XF,XG,XH,XI,XJ,XK,XL,XM,XN,XO,XP,XQ,XR,XS,XT,XU,XV,XW,XX,XY,XZ,Y0,Try.q3,Try.q4,Try.q22,Try.q23,Try.q27]
  | false =>
    simp only [hb, Bool.false_eq_true, if_false] at k1
    rw [if_neg (by decide)]
    refine acalls_of_vc (fn := Try.f18) Try.call18 Try.func18 rfl (by kernel_rfl) (by simp [Try.ntmps18]) ?_; simp -implicitDefEqProofs only [Try.ntmps18,Try.results18,Q0,Q1,Q2,Q3,Q4,Q5,Q6,Q7,Q8,Q9,Qa,Qb,Qc,Qd,Qe,Qf,Qg,Qh,Qi,Qj,Qk,Ql,Qm,Qn,Qo,Qp,Qq,Qr,Qs,Qt,Qu,Qv,Qw,Qx,Qy,Qz,QA,QB,QC,QD,QE,QF,QG,QH,QI,QJ,QK,QL,QM,QN,QO,QP,QQ,QR,QS,QT,QU,QV,QW,QX,QY,QZ,X0,X1,X2,X3,X4,X5,X6,X7,X8,X9,Xa,Xb,Xc,Xd,Xe,Xf,Xg,Xh,Xi,Xj,Xk,Xl,Xm,Xn,Xo,Xp,Xq,Xr,Xs,Xt,Xu,Xv,Xw,Xx,Xy,Xz,XA,XB,reduceIte,reduceCtorEq,XC,XD,XE,XF,XG,XH,XI,XJ,XK,XL,XM,XN,XO,XP,XQ,XR,XS,XT,XU,XV,XW,XX,XY,XZ,Y0,Try.q3,Try.q4,Try.q22,Try.q23,Try.q27]
    refine acalls_then (k1 _) ?_
    simp -implicitDefEqProofs only [Q0,Q1,Q2,Q3,Q4,Q5,Q6,Q7,Q8,Q9,Qa,Qb,Qc,Qd,Qe,Qf,Qg,Qh,Qi,Qj,Qk,Ql,Qm,Qn,Qo,Qp,Qq,Qr,Qs,Qt,Qu,Qv,Qw,Qx,Qy,Qz,QA,QB,QC,QD,QE,QF,QG,QH,QI,QJ,QK,QL,QM,QN,QO,QP,QQ,QR,QS,QT,QU,QV,QW,QX,QY,QZ,X0,X1,X2,X3,X4,X5,X6,X7,X8,X9,Xa,Xb,Xc,Xd,Xe,Xf,Xg,Xh,Xi,Xj,Xk,Xl,Xm,Xn,Xo,Xp,Xq,Xr,Xs,Xt,Xu,Xv,Xw,Xx,Xy,Xz,XA,XB,reduceIte,reduceCtorEq,XC,XD,XE,XF,XG,XH,XI,XJ,XK,XL,XM,XN,XO,XP,XQ,XR,XS,XT,XU,XV,XW,XX,XY,XZ,Y0,Try.q3,Try.q4,Try.q22,Try.q23,Try.q27]
    refine acalls_then (k2) ?_
    simp -implicitDefEqProofs only [w,Q0,Q1,Q2,Q3,Q4,Q5,Q6,Q7,Q8,Q9,Qa,Qb,Qc,Qd,Qe,Qf,Qg,Qh,Qi,Qj,Qk,Ql,Qm,Qn,Qo,Qp,Qq,Qr,Qs,Qt,Qu,Qv,Qw,Qx,Qy,Qz,QA,QB,QC,QD,QE,QF,QG,QH,QI,QJ,QK,QL,QM,QN,QO,QP,QQ,QR,QS,QT,QU,QV,QW,QX,QY,QZ,X0,X1,X2,X3,X4,X5,X6,X7,X8,X9,Xa,Xb,Xc,Xd,Xe,Xf,Xg,Xh,Xi,Xj,Xk,Xl,Xm,Xn,Xo,Xp,Xq,Xr,Xs,Xt,Xu,Xv,Xw,Xx,Xy,Xz,XA,XB,reduceIte,reduceCtorEq,XC,XD,XE,XF,XG,XH,XI,XJ,XK,XL,XM,XN,XO,XP,XQ,XR,XS,XT,XU,XV,XW,XX,XY,XZ,Y0,Try.q3,Try.q4,Try.q22,Try.q23,Try.q27]

/-- What Turnover answers. -/
def turnQ (es : List Ent) (a c lo hi : Int) : Int × Int × Int := if badQ a c [lo, hi] = true ∨ hi < lo then (0, 0, 1) else (sumL (inF a c lo hi) es, sumL (outF a c lo hi) es, 0)

theorem c_Turnover (es : List Ent) (hl : es.length ≤ 20000) (hV : ∀ e ∈ es, Val e) (a c lo hi : Int) (j : AV) (σ : Store) (id : Nat) (h0 : σ[id]? = some (.box [esV es, j])) :
    ACalls Try.prog 20 [.ptr id 0, .int .i64 a, .int .i64 c, .int .i64 lo, .int .i64 hi] σ (fun r s => r = .tup [.int .i64 (turnQ es a c lo hi).1, .int .i64 (turnQ es a c lo hi).2.1, .int .i64 (turnQ es a c lo hi).2.2] ∧ s = σ) := by
  have k1 := c_check a c [lo, hi] (by simp)
  have k2 := c_sums es hl hV a c lo hi j σ id h0
  unfold turnQ
  generalize sumL (inF a c lo hi) es = u at *
  generalize sumL (outF a c lo hi) es = v at *
  cases hb : badQ a c [lo, hi] with
  | true =>
    simp only [hb, if_true] at k1
    rw [if_pos (.inl rfl)]
    refine acalls_of_vc (fn := Try.f20) Try.call20 Try.func20 rfl (by kernel_rfl) (by simp [Try.ntmps20]) ?_; simp -implicitDefEqProofs only [Try.ntmps20,Try.results20,Q0,Q1,Q2,Q3,Q4,Q5,Q6,Q7,Q8,Q9,Qa,Qb,Qc,Qd,Qe,Qf,Qg,Qh,Qi,Qj,Qk,Ql,Qm,Qn,Qo,Qp,Qq,Qr,Qs,Qt,Qu,Qv,Qw,Qx,Qy,Qz,QA,QB,QC,QD,QE,QF,QG,QH,QI,QJ,QK,QL,QM,QN,QO,QP,QQ,QR,QS,QT,QU,QV,QW,QX,QY,QZ,X0,X1,X2,X3,X4,X5,X6,X7,X8,X9,Xa,Xb,Xc,Xd,Xe,Xf,Xg,Xh,Xi,Xj,Xk,Xl,Xm,Xn,Xo,Xp,Xq,Xr,Xs,Xt,Xu,Xv,Xw,Xx,Xy,Xz,XA,XB,reduceIte,reduceCtorEq,XC,XD,XE,XF,XG,XH,XI,XJ,XK,XL,XM,XN,XO,XP,XQ,XR,XS,XT,XU,XV,XW,XX,XY,XZ,Y0,Try.q3,Try.q4,Try.q22,Try.q23,Try.q27]
    refine acalls_then (k1 _) ?_
    simp -implicitDefEqProofs only [Q0,Q1,Q2,Q3,Q4,Q5,Q6,Q7,Q8,Q9,Qa,Qb,Qc,Qd,Qe,Qf,Qg,Qh,Qi,Qj,Qk,Ql,Qm,Qn,Qo,Qp,Qq,Qr,Qs,Qt,Qu,Qv,Qw,Qx,Qy,Qz,QA,QB,QC,QD,QE,QF,QG,QH,QI,QJ,QK,QL,QM,QN,QO,QP,QQ,QR,QS,QT,QU,QV,QW,QX,QY,QZ,X0,X1,X2,X3,X4,X5,X6,X7,X8,X9,Xa,Xb,Xc,Xd,Xe,Xf,Xg,Xh,Xi,Xj,Xk,Xl,Xm,Xn,Xo,Xp,Xq,Xr,Xs,Xt,Xu,Xv,Xw,Xx,Xy,Xz,XA,XB,reduceIte,reduceCtorEq,XC,XD,XE,XF,XG,XH,XI,XJ,XK,XL,XM,XN,XO,XP,XQ,XR,XS,XT,XU,XV,XW,XX,XY,XZ,Y0,Try.q3,Try.q4,Try.q22,Try.q23,Try.q27]
  | false =>
    simp only [hb, Bool.false_eq_true, if_false] at k1
    by_cases hlt : hi < lo
    · have d1 : decide (hi < lo) = true := decide_eq_true hlt
      rw [if_pos (.inr hlt)]
      refine acalls_of_vc (fn := Try.f20) Try.call20 Try.func20 rfl (by kernel_rfl) (by simp [Try.ntmps20]) ?_; simp -implicitDefEqProofs only [Try.ntmps20,Try.results20,Q0,Q1,Q2,Q3,Q4,Q5,Q6,Q7,Q8,Q9,Qa,Qb,Qc,Qd,Qe,Qf,Qg,Qh,Qi,Qj,Qk,Ql,Qm,Qn,Qo,Qp,Qq,Qr,Qs,Qt,Qu,Qv,Qw,Qx,Qy,Qz,QA,QB,QC,QD,QE,QF,QG,QH,QI,QJ,QK,QL,QM,QN,QO,QP,QQ,QR,QS,QT,QU,QV,QW,QX,QY,QZ,X0,X1,X2,X3,X4,X5,X6,X7,X8,X9,Xa,Xb,Xc,Xd,Xe,Xf,Xg,Xh,Xi,Xj,Xk,Xl,Xm,Xn,Xo,Xp,Xq,Xr,Xs,Xt,Xu,Xv,Xw,Xx,Xy,Xz,XA,XB,reduceIte,reduceCtorEq,XC,XD,XE,XF,XG,XH,XI,XJ,XK,XL,XM,XN,XO,XP,XQ,XR,XS,XT,XU,XV,XW,XX,XY,XZ,Y0,Try.q3,Try.q4,Try.q22,Try.q23,Try.q27]
      refine acalls_then (k1 _) ?_
      simp -implicitDefEqProofs only [d1,Q0,Q1,Q2,Q3,Q4,Q5,Q6,Q7,Q8,Q9,Qa,Qb,Qc,Qd,Qe,Qf,Qg,Qh,Qi,Qj,Qk,Ql,Qm,Qn,Qo,Qp,Qq,Qr,Qs,Qt,Qu,Qv,Qw,Qx,Qy,Qz,QA,QB,QC,QD,QE,QF,QG,QH,QI,QJ,QK,QL,QM,QN,QO,QP,QQ,QR,QS,QT,QU,QV,QW,QX,QY,QZ,X0,X1,X2,X3,X4,X5,X6,X7,X8,X9,Xa,Xb,Xc,Xd,Xe,Xf,Xg,Xh,Xi,Xj,Xk,Xl,Xm,Xn,Xo,Xp,Xq,Xr,Xs,Xt,Xu,Xv,Xw,Xx,Xy,Xz,XA,XB,reduceIte,reduceCtorEq,XC,XD,XE,XF,XG,XH,XI,XJ,XK,XL,XM,XN,XO,XP,XQ,XR,XS,XT,XU,XV,XW,XX,XY,XZ,Y0,Try.q3,Try.q4,Try.q22,Try.q23,Try.q27]
    · have d1 : decide (hi < lo) = false := decide_eq_false hlt
      rw [if_neg (by rintro (h | h); cases h; exact hlt h)]
      refine acalls_of_vc (fn := Try.f20) Try.call20 Try.func20 rfl (by kernel_rfl) (by simp [Try.ntmps20]) ?_; simp -implicitDefEqProofs only [Try.ntmps20,Try.results20,Q0,Q1,Q2,Q3,Q4,Q5,Q6,Q7,Q8,Q9,Qa,Qb,Qc,Qd,Qe,Qf,Qg,Qh,Qi,Qj,Qk,Ql,Qm,Qn,Qo,Qp,Qq,Qr,Qs,Qt,Qu,Qv,Qw,Qx,Qy,Qz,QA,QB,QC,QD,QE,QF,QG,QH,QI,QJ,QK,QL,QM,QN,QO,QP,QQ,QR,QS,QT,QU,QV,QW,QX,QY,QZ,X0,X1,X2,X3,X4,X5,X6,X7,X8,X9,Xa,Xb,Xc,Xd,Xe,Xf,Xg,Xh,Xi,Xj,Xk,Xl,Xm,Xn,Xo,Xp,Xq,Xr,Xs,Xt,Xu,Xv,Xw,Xx,Xy,Xz,XA,XB,reduceIte,reduceCtorEq,XC,XD,XE,XF,XG,XH,XI,XJ,XK,XL,XM,XN,XO,XP,XQ,XR,XS,XT,XU,XV,XW,XX,XY,XZ,Y0,Try.q3,Try.q4,Try.q22,Try.q23,Try.q27]
      refine acalls_then (k1 _) ?_
      simp -implicitDefEqProofs only [d1,Q0,Q1,Q2,Q3,Q4,Q5,Q6,Q7,Q8,Q9,Qa,Qb,Qc,Qd,Qe,Qf,Qg,Qh,Qi,Qj,Qk,Ql,Qm,Qn,Qo,Qp,Qq,Qr,Qs,Qt,Qu,Qv,Qw,Qx,Qy,Qz,QA,QB,QC,QD,QE,QF,QG,QH,QI,QJ,QK,QL,QM,QN,QO,QP,QQ,QR,QS,QT,QU,QV,QW,QX,QY,QZ,X0,X1,X2,X3,X4,X5,X6,X7,X8,X9,Xa,Xb,Xc,Xd,Xe,Xf,Xg,Xh,Xi,Xj,Xk,Xl,Xm,Xn,Xo,Xp,Xq,Xr,Xs,Xt,Xu,Xv,Xw,Xx,Xy,Xz,XA,XB,reduceIte,reduceCtorEq,XC,XD,XE,XF,XG,XH,XI,XJ,XK,XL,XM,XN,XO,XP,XQ,XR,XS,XT,XU,XV,XW,XX,XY,XZ,Y0,Try.q3,Try.q4,Try.q22,Try.q23,Try.q27]
      refine acalls_then (k2) ?_
      simp -implicitDefEqProofs only [Q0,Q1,Q2,Q3,Q4,Q5,Q6,Q7,Q8,Q9,Qa,Qb,Qc,Qd,Qe,Qf,Qg,Qh,Qi,Qj,Qk,Ql,Qm,Qn,Qo,Qp,Qq,Qr,Qs,Qt,Qu,Qv,Qw,Qx,Qy,Qz,QA,QB,QC,QD,QE,QF,QG,QH,QI,QJ,QK,QL,QM,QN,QO,QP,QQ,QR,QS,QT,QU,QV,QW,QX,QY,QZ,X0,X1,X2,X3,X4,X5,X6,X7,X8,X9,Xa,Xb,Xc,Xd,Xe,Xf,Xg,Xh,Xi,Xj,Xk,Xl,Xm,Xn,Xo,Xp,Xq,Xr,Xs,Xt,Xu,Xv,Xw,Xx,Xy,Xz,XA,XB,reduceIte,reduceCtorEq,XC,XD,XE,XF,XG,XH,XI,XJ,XK,XL,XM,XN,XO,XP,XQ,XR,XS,XT,XU,XV,XW,XX,XY,XZ,Y0,Try.q3,Try.q4,Try.q22,Try.q23,Try.q27]

theorem c_Entries (es : List Ent) (hl : es.length ≤ 20000) (j : AV) (σ : Store) (id : Nat) (h0 : σ[id]? = some (.box [esV es, j])) :
    ACalls Try.prog 14 [.ptr id 0] σ (fun r s => r = esV es ∧ s = σ) := by
  have k := c_cloneE es (by omega) σ
  refine acalls_of_vc (fn := Try.f14) Try.call14 Try.func14 rfl (by kernel_rfl) (by simp [Try.ntmps14]) ?_; simp -implicitDefEqProofs only [Try.ntmps14,Try.results14,Q0,Q1,Q2,Q3,Q4,Q5,Q6,Q7,Q8,Q9,Qa,Qb,Qc,Qd,Qe,Qf,Qg,Qh,Qi,Qj,Qk,Ql,Qm,Qn,Qo,Qp,Qq,Qr,Qs,Qt,Qu,Qv,Qw,Qx,Qy,Qz,QA,QB,QC,QD,QE,QF,QG,QH,QI,QJ,QK,QL,QM,QN,QO,QP,QQ,QR,QS,QT,QU,QV,QW,QX,QY,QZ,X0,X1,X2,X3,X4,X5,X6,X7,X8,X9,Xa,Xb,Xc,Xd,Xe,Xf,Xg,Xh,Xi,Xj,Xk,Xl,Xm,Xn,Xo,Xp,Xq,Xr,Xs,Xt,Xu,Xv,Xw,Xx,Xy,Xz,XA,XB,reduceIte,reduceCtorEq,XC,XD,XE,XF,XG,XH,XI,XJ,XK,XL,XM,XN,XO,XP,XQ,XR,XS,XT,XU,XV,XW,XX,XY,XZ,Y0,Try.q23,Try.q29,Try.underlying37,Try.q37,Try.underlying64,Try.q64,Try.underlying66,Try.q66]
  simp -implicitDefEqProofs only [h0,Q0,Q1,Q2,Q3,Q4,Q5,Q6,Q7,Q8,Q9,Qa,Qb,Qc,Qd,Qe,Qf,Qg,Qh,Qi,Qj,Qk,Ql,Qm,Qn,Qo,Qp,Qq,Qr,Qs,Qt,Qu,Qv,Qw,Qx,Qy,Qz,QA,QB,QC,QD,QE,QF,QG,QH,QI,QJ,QK,QL,QM,QN,QO,QP,QQ,QR,QS,QT,QU,QV,QW,QX,QY,QZ,X0,X1,X2,X3,X4,X5,X6,X7,X8,X9,Xa,Xb,Xc,Xd,Xe,Xf,Xg,Xh,Xi,Xj,Xk,Xl,Xm,Xn,Xo,Xp,Xq,Xr,Xs,Xt,Xu,Xv,Xw,Xx,Xy,Xz,XA,XB,reduceIte,reduceCtorEq,XC,XD,XE,XF,XG,XH,XI,XJ,XK,XL,XM,XN,XO,XP,XQ,XR,XS,XT,XU,XV,XW,XX,XY,XZ,Y0,Try.q23,Try.q29,Try.underlying37,Try.q37,Try.underlying64,Try.q64,Try.underlying66,Try.q66]
  refine acalls_then (k) ?_
  simp -implicitDefEqProofs only [Q0,Q1,Q2,Q3,Q4,Q5,Q6,Q7,Q8,Q9,Qa,Qb,Qc,Qd,Qe,Qf,Qg,Qh,Qi,Qj,Qk,Ql,Qm,Qn,Qo,Qp,Qq,Qr,Qs,Qt,Qu,Qv,Qw,Qx,Qy,Qz,QA,QB,QC,QD,QE,QF,QG,QH,QI,QJ,QK,QL,QM,QN,QO,QP,QQ,QR,QS,QT,QU,QV,QW,QX,QY,QZ,X0,X1,X2,X3,X4,X5,X6,X7,X8,X9,Xa,Xb,Xc,Xd,Xe,Xf,Xg,Xh,Xi,Xj,Xk,Xl,Xm,Xn,Xo,Xp,Xq,Xr,Xs,Xt,Xu,Xv,Xw,Xx,Xy,Xz,XA,XB,reduceIte,reduceCtorEq,XC,XD,XE,XF,XG,XH,XI,XJ,XK,XL,XM,XN,XO,XP,XQ,XR,XS,XT,XU,XV,XW,XX,XY,XZ,Y0,Try.q23,Try.q29,Try.underlying37,Try.q37,Try.underlying64,Try.q64,Try.underlying66,Try.q66]

/-- Keys that are integers. -/
def IK (k : AV) : Prop := ∃ n, Okk .i64 n ∧ k = .int .i64 n
theorem ik_ok {k : AV} (h : IK k) : keyOkA Try.prog 3 k := by
  obtain ⟨n, hn, rfl⟩ := h
  exact keyOk_int (q := .i64) (by kernel_rfl) hn

/-- A ledger: its entries, and the numbers of those that were taken back or are opposites. -/
def Led (s : Store) (id j : Nat) (es : List Ent) (dn : List Int) : Prop :=
  s[id]? = some (.box [esV es, .mp j]) ∧ ∃ l c, s[j]? = some (.mp (.kv l c)) ∧ KvOk IK l c ∧ ∀ n : Int, valKV l (.int .i64 n) = if n ∈ dn then some (.bool true) else none

/-- What is not the ledger's own stays. -/
def Fr (σ s : Store) (id j : Nat) : Prop := σ.length ≤ s.length ∧ ∀ k x, σ[k]? = some x → k ≠ id → k ≠ j → s[k]? = some x

theorem Led.ne {s : Store} {id j : Nat} {es : List Ent} {dn : List Int} (h : Led s id j es dn) : id ≠ j := by
  obtain ⟨h1, l, c, h2, _⟩ := h
  rintro rfl
  rw [h1] at h2; cases h2

theorem Led.keep {σ s : Store} {id j a b : Nat} {es : List Ent} {dn : List Int} (h : Led σ a b es dn) (hf : Fr σ s id j) (h1 : a ≠ id) (h2 : a ≠ j) (h3 : b ≠ id) (h4 : b ≠ j) : Led s a b es dn := by
  obtain ⟨g1, l, c, g2, g3⟩ := h
  exact ⟨hf.2 _ _ g1 h1 h2, l, c, hf.2 _ _ g2 h3 h4, g3⟩
theorem Led.ext {σ s : Store} {a b : Nat} {es : List Ent} {dn : List Int} (h : Led σ a b es dn) (hx : Ext σ s) : Led s a b es dn := by
  obtain ⟨g1, l, c, g2, g3⟩ := h
  exact ⟨hx _ _ g1, l, c, hx _ _ g2, g3⟩

theorem c_NewL (σ : Store) : ACalls Try.prog 10 [] σ (fun r s => ∃ id j, r = .ptr id 0 ∧ Ext σ s ∧ σ.length ≤ id ∧ σ.length ≤ j ∧ Led s id j [] []) := by
  refine ACalls.shutP (ACalls.mono (R := fun r s => r = .ptr (σ.length + 1) 0 ∧ s = σ ++ [.mp (.kv [] 0), .box [.nils, .mp σ.length]]) ?_ ?_)
  · skip
    refine acalls_of_vc (fn := Try.f10) Try.call10 Try.func10 rfl (by kernel_rfl) (by simp [Try.ntmps10]) ?_; simp -implicitDefEqProofs only [Try.ntmps10,Try.results10,Q0,Q1,Q2,Q3,Q4,Q5,Q6,Q7,Q8,Q9,Qa,Qb,Qc,Qd,Qe,Qf,Qg,Qh,Qi,Qj,Qk,Ql,Qm,Qn,Qo,Qp,Qq,Qr,Qs,Qt,Qu,Qv,Qw,Qx,Qy,Qz,QA,QB,QC,QD,QE,QF,QG,QH,QI,QJ,QK,QL,QM,QN,QO,QP,QQ,QR,QS,QT,QU,QV,QW,QX,QY,QZ,X0,X1,X2,X3,X4,X5,X6,X7,X8,X9,Xa,Xb,Xc,Xd,Xe,Xf,Xg,Xh,Xi,Xj,Xk,Xl,Xm,Xn,Xo,Xp,Xq,Xr,Xs,Xt,Xu,Xv,Xw,Xx,Xy,Xz,XA,XB,reduceIte,reduceCtorEq,XC,XD,XE,XF,XG,XH,XI,XJ,XK,XL,XM,XN,XO,XP,XQ,XR,XS,XT,XU,XV,XW,XX,XY,XZ,Y0,Try.q23,Try.q29,Try.underlying64,Try.q64,Try.underlying66,Try.q66]
  · rintro r s ⟨rfl, rfl⟩
    refine ⟨fun _ => False, .ptr (σ.length + 1) 0, σ ++ [.mp (.kv [] 0), .box [esV [], .mp σ.length]], ⟨by simp, fun i y hy => .inr ⟨fun h => h, ?_⟩⟩, .same _, σ.length + 1, σ.length, rfl, Ext.app _ _, by omega, by omega, by simp, [], 0, by simp, .nil _, fun n => rfl⟩
    rcases Nat.lt_or_ge i σ.length with h | h
    · rw [List.getElem?_append_left h] at hy ⊢
      exact ⟨y, hy, .same _⟩
    · rw [List.getElem?_append_right h] at hy ⊢
      generalize i - σ.length = k at hy
      match k with
      | 0 => exact ⟨y, hy, .same _⟩
      | 1 =>
        cases hy
        refine ⟨_, rfl, .box _ _ rfl fun i x y hx hy => ?_⟩
        match i with
        | 0 => cases hx; cases hy; exact .nilR 6
        | 1 => cases hx; cases hy; exact .same _
        | i + 2 => cases hx
      | k + 2 => cases hy

theorem c_PostL (es e : List Ent) (dn : List Int) (hl : es.length ≤ 16384) (he : e.length ≤ 1000) (hV : ∀ x ∈ es, Val x) (σ : Store) (id j : Nat) (h0 : Led σ id j es dn) :
    ACalls Try.prog 12 [.ptr id 0, esV e] σ (fun r s => r = .int .i64 (postR es e).1 ∧ Led s id j (postR es e).2 dn ∧ Fr σ s id j ∧ s.length = σ.length) := by
  have hne := h0.ne
  obtain ⟨g1, l, c, g2, g3⟩ := h0
  refine (c_Post es e hl he hV σ id j g1).mono ?_
  rintro r s ⟨rfl, rfl⟩
  refine ⟨rfl, ⟨List.getElem?_set_self (List.getElem?_eq_some_iff.1 g1).1, l, c, by rw [List.getElem?_set_ne hne]; exact g2, g3⟩, ⟨by simp, fun k x hk h1 h2 => by rw [List.getElem?_set_ne (Ne.symm h1)]; exact hk⟩, by simp⟩

end Go.Proofs
