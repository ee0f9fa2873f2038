/-
  The ledger: whether entries are sound, none among them; adding entries; contracts.
-/
import Derived.Test.YtdioiegkpkjmkaaJl
namespace Go.Proofs
open Go.Pa
open Go.Pa renaming VB → Q0, condV_bool → Q1, guardV_bool → Q2, vcS → Q3, evA → Q4, evBin → Q5, nilA → Q6, nilOf → Q7, intOp → Q8, strOp → Q9, evUn → Qa, evConv → Qb, evField → Qc, evFieldAddr → Qd, evIndexAddr → Qe, evIndex → Qf, evIndexA → Qg, bnd → Qh, evSlice → Qi, evLen → Qj, evPick → Qk, evExtract → Ql, evNilCheck → Qm, evMin → Qn, evMax → Qo, evLoadI → Qp, partsOne → Qr, intsOf → Qs, rowsAV → Qt, evBuildSlice → Qu, evBuild → Qv, fillA → Qw, splice → Qx, evBuiltin → Qy, guardD_bool → Qz, dOp → QA, cl → QB, vcLoad → QC, vcStore → QD, vcMake → QE, convA → QF, evIndexArr → QG, retA → QH, ressA → QI, resA → QJ, envOf → QK, condR_bool → QO, asgEnv → QP, parEnv → QQ, dstAt → Xz, vcLook → XK, vcPut → XL, vcEnt → XM, vcESt → XN, vcMLen → XO, vcDel → XP, vcClear → XQ, vcLookD → XR
open Go.Pa.AV renaming cell → Qq
open Go.Pa.Env renaming put → QL
open List renaming set_cons_zero → QM, set_cons_succ → QN, foldl_cons → QR, foldl_nil → QS, map_cons → QT, map_nil → QU, toList_toArray → QV, getElem?_cons_zero → QW, getElem?_cons_succ → QX, nil_append → X1, append_nil → X2, cons_append → X3, singleton_append → X4, length_cons → X5, length_nil → X6, all_cons → X7, all_nil → X8, take_succ_cons → X9, take_zero → Xa, take_nil → Xb, drop_zero → Xc, drop_succ_cons → Xd, drop_nil → Xe, contains_nil → Xf, contains_cons → Xg
open Option renaming bind_some → QY, map_some → QZ, map_none → X0
open Bool renaming or_false → Xh, false_or → Xi, or_true → Xj, true_or → Xk, false_eq_true → Xt, not_true → Xu, not_false → Xv, and_true → Xw, true_and → Xx, and_self → Xy
open Nat renaming reduceEqDiff → Xl, reduceAdd → Xm, reduceSub → Xn, reduceMul → Xo, reduceLT → Xp, reduceLeDiff → Xq, reduceBNe → Xr, reduceBEq → Xs, zero_add → XC, add_zero → XD
open UInt8 renaming reduceToNat → XA
open Int renaming cast_ofNat_Int → XB, reduceToNat → XE, reduceLT → XF, reduceLE → XG, reduceNeg → XH, reduceEq → XI, reduceNe → XJ
set_option linter.unusedSimpArgs false
set_option linter.unusedVariables false
set_option maxRecDepth 20000
set_option maxHeartbeats 4000000

theorem c_insert0 (x : AV) (hx : x = .nils ∨ x = .emp) (σ : Store) : ACalls Try.prog 65 [x, .int .i64 0, .int .i64 0, cmpV] σ (fun r s => s = σ) := by
  have w1 : IntKind.i64.wrap ((0 : Int) + 1) = 1 := rfl
  have d1 : decide ((1 : Int) < 0) = false := rfl
  refine acalls_of_vc (fn := Try.f65) Try.call65 Try.func65 rfl (by kernel_rfl) (by simp [Try.ntmps65]) ?_; simp -implicitDefEqProofs only [Try.ntmps65,Try.results65,Q0,Q1,Q2,Q3,Q4,Q5,Q6,Q7,Q8,Q9,Qa,Qb,Qc,Qd,Qe,Qf,Qg,Qh,Qi,Qj,Qk,Ql,Qm,Qn,Qo,Qp,Qq,Qr,Qs,Qt,Qu,Qv,Qw,Qx,Qy,Qz,QA,QB,QC,QD,QE,QF,QG,QH,QI,QJ,QK,QL,QM,QN,QO,QP,QQ,QR,QS,QT,QU,QV,QW,QX,QY,QZ,X0,X1,X2,X3,X4,X5,X6,X7,X8,X9,Xa,Xb,Xc,Xd,Xe,Xf,Xg,Xh,Xi,Xj,Xk,Xl,Xm,Xn,Xo,Xp,Xq,Xr,Xs,reduceIte,reduceCtorEq,ite_true,ite_false,if_true,if_false,Xt,Xu,Xv,Xw,Xx,Xy,and_true,true_and,and_self,true_imp_iff,false_imp_iff,eq_self,not_true_eq_false,not_false_eq_true,ne_eq,decide_true,decide_false,Xz,XA,XB,XC,XD,XE,XF,XG,XH,XI,XJ,XK,XL,XM,XN,XO,XP,XQ,XR,Try.q3,Try.q4,Try.q29,Try.q37,Try.q97]
  simp -implicitDefEqProofs only [w1,Q0,Q1,Q2,Q3,Q4,Q5,Q6,Q7,Q8,Q9,Qa,Qb,Qc,Qd,Qe,Qf,Qg,Qh,Qi,Qj,Qk,Ql,Qm,Qn,Qo,Qp,Qq,Qr,Qs,Qt,Qu,Qv,Qw,Qx,Qy,Qz,QA,QB,QC,QD,QE,QF,QG,QH,QI,QJ,QK,QL,QM,QN,QO,QP,QQ,QR,QS,QT,QU,QV,QW,QX,QY,QZ,X0,X1,X2,X3,X4,X5,X6,X7,X8,X9,Xa,Xb,Xc,Xd,Xe,Xf,Xg,Xh,Xi,Xj,Xk,Xl,Xm,Xn,Xo,Xp,Xq,Xr,Xs,reduceIte,reduceCtorEq,ite_true,ite_false,if_true,if_false,Xt,Xu,Xv,Xw,Xx,Xy,and_true,true_and,and_self,true_imp_iff,false_imp_iff,eq_self,not_true_eq_false,not_false_eq_true,ne_eq,decide_true,decide_false,Xz,XA,XB,XC,XD,XE,XF,XG,XH,XI,XJ,XK,XL,XM,XN,XO,XP,XQ,XR,Try.q3,Try.q4,Try.q29,Try.q37,Try.q97]
  refine awp_loop (fun z : Unit => [(8, .int .i64 1), (2, .int .i64 0)]) (fun z s => s = σ) (fun z => 0) () (by kernel_rfl) (by simp [sub_cons, sub_nil, get_cons]) rfl ?_
  rintro _ s rfl
  simp -implicitDefEqProofs only [d1,Q0,Q1,Q2,Q3,Q4,Q5,Q6,Q7,Q8,Q9,Qa,Qb,Qc,Qd,Qe,Qf,Qg,Qh,Qi,Qj,Qk,Ql,Qm,Qn,Qo,Qp,Qq,Qr,Qs,Qt,Qu,Qv,Qw,Qx,Qy,Qz,QA,QB,QC,QD,QE,QF,QG,QH,QI,QJ,QK,QL,QM,QN,QO,QP,QQ,QR,QS,QT,QU,QV,QW,QX,QY,QZ,X0,X1,X2,X3,X4,X5,X6,X7,X8,X9,Xa,Xb,Xc,Xd,Xe,Xf,Xg,Xh,Xi,Xj,Xk,Xl,Xm,Xn,Xo,Xp,Xq,Xr,Xs,reduceIte,reduceCtorEq,ite_true,ite_false,if_true,if_false,Xt,Xu,Xv,Xw,Xx,Xy,and_true,true_and,and_self,true_imp_iff,false_imp_iff,eq_self,not_true_eq_false,not_false_eq_true,ne_eq,decide_true,decide_false,Xz,XA,XB,XC,XD,XE,XF,XG,XH,XI,XJ,XK,XL,XM,XN,XO,XP,XQ,XR,Try.q3,Try.q4,Try.q29,Try.q37,Try.q97]

theorem c_stable0 (x : AV) (hx : x = .nils ∨ x = .emp) (σ : Store) : ACalls Try.prog 64 [x, .int .i64 0, cmpV] σ (fun r s => s = σ) := by
  have d1 : decide ((20 : Int) ≤ 0) = false := rfl
  have d2 : decide ((20 : Int) < 0) = false := rfl
  have k := c_insert0 x hx
  refine acalls_of_vc (fn := Try.f64) Try.call64 Try.func64 rfl (by kernel_rfl) (by simp [Try.ntmps64]) ?_; simp -implicitDefEqProofs only [Try.ntmps64,Try.results64,Q0,Q1,Q2,Q3,Q4,Q5,Q6,Q7,Q8,Q9,Qa,Qb,Qc,Qd,Qe,Qf,Qg,Qh,Qi,Qj,Qk,Ql,Qm,Qn,Qo,Qp,Qq,Qr,Qs,Qt,Qu,Qv,Qw,Qx,Qy,Qz,QA,QB,QC,QD,QE,QF,QG,QH,QI,QJ,QK,QL,QM,QN,QO,QP,QQ,QR,QS,QT,QU,QV,QW,QX,QY,QZ,X0,X1,X2,X3,X4,X5,X6,X7,X8,X9,Xa,Xb,Xc,Xd,Xe,Xf,Xg,Xh,Xi,Xj,Xk,Xl,Xm,Xn,Xo,Xp,Xq,Xr,Xs,reduceIte,reduceCtorEq,ite_true,ite_false,if_true,if_false,Xt,Xu,Xv,Xw,Xx,Xy,and_true,true_and,and_self,true_imp_iff,false_imp_iff,eq_self,not_true_eq_false,not_false_eq_true,ne_eq,decide_true,decide_false,Xz,XA,XB,XC,XD,XE,XF,XG,XH,XI,XJ,XK,XL,XM,XN,XO,XP,XQ,XR,Try.q3,Try.q4,Try.q29,Try.q37,Try.q97]
  refine awp_loop (fun z : Unit => [(6, .int .i64 20), (7, .int .i64 0), (8, .int .i64 20), (0, x), (1, .int .i64 0), (2, cmpV)]) (fun z s => s = σ) (fun z => 0) () (by kernel_rfl) (by simp [sub_cons, sub_nil, get_cons]) rfl ?_
  rintro _ s rfl
  simp -implicitDefEqProofs only [d1,Q0,Q1,Q2,Q3,Q4,Q5,Q6,Q7,Q8,Q9,Qa,Qb,Qc,Qd,Qe,Qf,Qg,Qh,Qi,Qj,Qk,Ql,Qm,Qn,Qo,Qp,Qq,Qr,Qs,Qt,Qu,Qv,Qw,Qx,Qy,Qz,QA,QB,QC,QD,QE,QF,QG,QH,QI,QJ,QK,QL,QM,QN,QO,QP,QQ,QR,QS,QT,QU,QV,QW,QX,QY,QZ,X0,X1,X2,X3,X4,X5,X6,X7,X8,X9,Xa,Xb,Xc,Xd,Xe,Xf,Xg,Xh,Xi,Xj,Xk,Xl,Xm,Xn,Xo,Xp,Xq,Xr,Xs,reduceIte,reduceCtorEq,ite_true,ite_false,if_true,if_false,Xt,Xu,Xv,Xw,Xx,Xy,and_true,true_and,and_self,true_imp_iff,false_imp_iff,eq_self,not_true_eq_false,not_false_eq_true,ne_eq,decide_true,decide_false,Xz,XA,XB,XC,XD,XE,XF,XG,XH,XI,XJ,XK,XL,XM,XN,XO,XP,XQ,XR,Try.q3,Try.q4,Try.q29,Try.q37,Try.q97]
  refine ACalls.mono (k s) ?_
  rintro r s2 rfl
  simp -implicitDefEqProofs only [Q0,Q1,Q2,Q3,Q4,Q5,Q6,Q7,Q8,Q9,Qa,Qb,Qc,Qd,Qe,Qf,Qg,Qh,Qi,Qj,Qk,Ql,Qm,Qn,Qo,Qp,Qq,Qr,Qs,Qt,Qu,Qv,Qw,Qx,Qy,Qz,QA,QB,QC,QD,QE,QF,QG,QH,QI,QJ,QK,QL,QM,QN,QO,QP,QQ,QR,QS,QT,QU,QV,QW,QX,QY,QZ,X0,X1,X2,X3,X4,X5,X6,X7,X8,X9,Xa,Xb,Xc,Xd,Xe,Xf,Xg,Xh,Xi,Xj,Xk,Xl,Xm,Xn,Xo,Xp,Xq,Xr,Xs,reduceIte,reduceCtorEq,ite_true,ite_false,if_true,if_false,Xt,Xu,Xv,Xw,Xx,Xy,and_true,true_and,and_self,true_imp_iff,false_imp_iff,eq_self,not_true_eq_false,not_false_eq_true,ne_eq,decide_true,decide_false,Xz,XA,XB,XC,XD,XE,XF,XG,XH,XI,XJ,XK,XL,XM,XN,XO,XP,XQ,XR,Try.q3,Try.q4,Try.q29,Try.q37,Try.q97]
  refine awp_loop (fun z : Unit => [(6, .int .i64 20), (1, .int .i64 0)]) (fun z s => s = s2) (fun z => 0) () (by kernel_rfl) (by simp [sub_cons, sub_nil, get_cons]) rfl ?_
  rintro _ s rfl
  simp -implicitDefEqProofs only [d2,Q0,Q1,Q2,Q3,Q4,Q5,Q6,Q7,Q8,Q9,Qa,Qb,Qc,Qd,Qe,Qf,Qg,Qh,Qi,Qj,Qk,Ql,Qm,Qn,Qo,Qp,Qq,Qr,Qs,Qt,Qu,Qv,Qw,Qx,Qy,Qz,QA,QB,QC,QD,QE,QF,QG,QH,QI,QJ,QK,QL,QM,QN,QO,QP,QQ,QR,QS,QT,QU,QV,QW,QX,QY,QZ,X0,X1,X2,X3,X4,X5,X6,X7,X8,X9,Xa,Xb,Xc,Xd,Xe,Xf,Xg,Xh,Xi,Xj,Xk,Xl,Xm,Xn,Xo,Xp,Xq,Xr,Xs,reduceIte,reduceCtorEq,ite_true,ite_false,if_true,if_false,Xt,Xu,Xv,Xw,Xx,Xy,and_true,true_and,and_self,true_imp_iff,false_imp_iff,eq_self,not_true_eq_false,not_false_eq_true,ne_eq,decide_true,decide_false,Xz,XA,XB,XC,XD,XE,XF,XG,XH,XI,XJ,XK,XL,XM,XN,XO,XP,XQ,XR,Try.q3,Try.q4,Try.q29,Try.q37,Try.q97]

theorem c_sort0 (x : AV) (hx : x = .nils ∨ x = .emp) (σ : Store) : ACalls Try.prog 60 [x, cmpV] σ (fun r s => s = σ) := by
  have k := c_stable0 x hx σ
  rcases hx with rfl | rfl
  · refine acalls_of_vc (fn := Try.f60) Try.call60 Try.func60 rfl (by kernel_rfl) (by simp [Try.ntmps60]) ?_; simp -implicitDefEqProofs only [Try.ntmps60,Try.results60,Q0,Q1,Q2,Q3,Q4,Q5,Q6,Q7,Q8,Q9,Qa,Qb,Qc,Qd,Qe,Qf,Qg,Qh,Qi,Qj,Qk,Ql,Qm,Qn,Qo,Qp,Qq,Qr,Qs,Qt,Qu,Qv,Qw,Qx,Qy,Qz,QA,QB,QC,QD,QE,QF,QG,QH,QI,QJ,QK,QL,QM,QN,QO,QP,QQ,QR,QS,QT,QU,QV,QW,QX,QY,QZ,X0,X1,X2,X3,X4,X5,X6,X7,X8,X9,Xa,Xb,Xc,Xd,Xe,Xf,Xg,Xh,Xi,Xj,Xk,Xl,Xm,Xn,Xo,Xp,Xq,Xr,Xs,reduceIte,reduceCtorEq,ite_true,ite_false,if_true,if_false,Xt,Xu,Xv,Xw,Xx,Xy,and_true,true_and,and_self,true_imp_iff,false_imp_iff,eq_self,not_true_eq_false,not_false_eq_true,ne_eq,decide_true,decide_false,Xz,XA,XB,XC,XD,XE,XF,XG,XH,XI,XJ,XK,XL,XM,XN,XO,XP,XQ,XR,Try.q3,Try.q29,Try.q37,Try.q97]
    refine ACalls.mono k ?_
    rintro r s rfl
    simp -implicitDefEqProofs only [Q0,Q1,Q2,Q3,Q4,Q5,Q6,Q7,Q8,Q9,Qa,Qb,Qc,Qd,Qe,Qf,Qg,Qh,Qi,Qj,Qk,Ql,Qm,Qn,Qo,Qp,Qq,Qr,Qs,Qt,Qu,Qv,Qw,Qx,Qy,Qz,QA,QB,QC,QD,QE,QF,QG,QH,QI,QJ,QK,QL,QM,QN,QO,QP,QQ,QR,QS,QT,QU,QV,QW,QX,QY,QZ,X0,X1,X2,X3,X4,X5,X6,X7,X8,X9,Xa,Xb,Xc,Xd,Xe,Xf,Xg,Xh,Xi,Xj,Xk,Xl,Xm,Xn,Xo,Xp,Xq,Xr,Xs,reduceIte,reduceCtorEq,ite_true,ite_false,if_true,if_false,Xt,Xu,Xv,Xw,Xx,Xy,and_true,true_and,and_self,true_imp_iff,false_imp_iff,eq_self,not_true_eq_false,not_false_eq_true,ne_eq,decide_true,decide_false,Xz,XA,XB,XC,XD,XE,XF,XG,XH,XI,XJ,XK,XL,XM,XN,XO,XP,XQ,XR,Try.q3,Try.q29,Try.q37,Try.q97]
  · refine acalls_of_vc (fn := Try.f60) Try.call60 Try.func60 rfl (by kernel_rfl) (by simp [Try.ntmps60]) ?_; simp -implicitDefEqProofs only [Try.ntmps60,Try.results60,Q0,Q1,Q2,Q3,Q4,Q5,Q6,Q7,Q8,Q9,Qa,Qb,Qc,Qd,Qe,Qf,Qg,Qh,Qi,Qj,Qk,Ql,Qm,Qn,Qo,Qp,Qq,Qr,Qs,Qt,Qu,Qv,Qw,Qx,Qy,Qz,QA,QB,QC,QD,QE,QF,QG,QH,QI,QJ,QK,QL,QM,QN,QO,QP,QQ,QR,QS,QT,QU,QV,QW,QX,QY,QZ,X0,X1,X2,X3,X4,X5,X6,X7,X8,X9,Xa,Xb,Xc,Xd,Xe,Xf,Xg,Xh,Xi,Xj,Xk,Xl,Xm,Xn,Xo,Xp,Xq,Xr,Xs,reduceIte,reduceCtorEq,ite_true,ite_false,if_true,if_false,Xt,Xu,Xv,Xw,Xx,Xy,and_true,true_and,and_self,true_imp_iff,false_imp_iff,eq_self,not_true_eq_false,not_false_eq_true,ne_eq,decide_true,decide_false,Xz,XA,XB,XC,XD,XE,XF,XG,XH,XI,XJ,XK,XL,XM,XN,XO,XP,XQ,XR,Try.q3,Try.q29,Try.q37,Try.q97]
    refine ACalls.mono k ?_
    rintro r s rfl
    simp -implicitDefEqProofs only [Q0,Q1,Q2,Q3,Q4,Q5,Q6,Q7,Q8,Q9,Qa,Qb,Qc,Qd,Qe,Qf,Qg,Qh,Qi,Qj,Qk,Ql,Qm,Qn,Qo,Qp,Qq,Qr,Qs,Qt,Qu,Qv,Qw,Qx,Qy,Qz,QA,QB,QC,QD,QE,QF,QG,QH,QI,QJ,QK,QL,QM,QN,QO,QP,QQ,QR,QS,QT,QU,QV,QW,QX,QY,QZ,X0,X1,X2,X3,X4,X5,X6,X7,X8,X9,Xa,Xb,Xc,Xd,Xe,Xf,Xg,Xh,Xi,Xj,Xk,Xl,Xm,Xn,Xo,Xp,Xq,Xr,Xs,reduceIte,reduceCtorEq,ite_true,ite_false,if_true,if_false,Xt,Xu,Xv,Xw,Xx,Xy,and_true,true_and,and_self,true_imp_iff,false_imp_iff,eq_self,not_true_eq_false,not_false_eq_true,ne_eq,decide_true,decide_false,Xz,XA,XB,XC,XD,XE,XF,XG,XH,XI,XJ,XK,XL,XM,XN,XO,XP,XQ,XR,Try.q3,Try.q29,Try.q37,Try.q97]

theorem snd_nil : Snd [] := fun a c d _ => by simp [bal, balP]

theorem clone_nil (σ : Store) : ACalls Try.prog 35 [esV []] σ (fun r s => (r = .nils ∨ r = .emp) ∧ s = σ) := by
  refine acalls_of_awp (fn := Try.f35) Try.call35 Try.func35 rfl (by simp [Try.ntmps35]) ?_
  simp only [Try.ntmps35, Try.results35]
  refine awp_seq (awp_vc (by kernel_rfl) ?_)
  simp -implicitDefEqProofs only [seqA_normal,seqA_ret,seqA_exit,Q0,Q1,Q2,Q3,Q4,Q5,Q6,Q7,Q8,Q9,Qa,Qb,Qc,Qd,Qe,Qf,Qg,Qh,Qi,Qj,Qk,Ql,Qm,Qn,Qo,Qp,Qq,Qr,Qs,Qt,Qu,Qv,Qw,Qx,Qy,Qz,QA,QB,QC,QD,QE,QF,QG,QH,QI,QJ,QK,QL,QM,QN,QO,QP,QQ,QR,QS,QT,QU,QV,QW,QX,QY,QZ,X0,X1,X2,X3,X4,X5,X6,X7,X8,X9,Xa,Xb,Xc,Xd,Xe,Xf,Xg,Xh,Xi,Xj,Xk,Xl,Xm,Xn,Xo,Xp,Xq,Xr,Xs,reduceIte,reduceCtorEq,ite_true,ite_false,if_true,if_false,Xt,Xu,Xv,Xw,Xx,Xy,and_true,true_and,and_self,true_imp_iff,false_imp_iff,eq_self,not_true_eq_false,not_false_eq_true,ne_eq,decide_true,decide_false,Xz,XA,XB,XC,XD,XE,XF,XG,XH,XI,XJ,XK,XL,XM,XN,XO,XP,XQ,XR,Try.q4,Try.q29,Try.q37]
  refine awp_seq (awp_seq (awp_ops (by kernel_rfl) ?_))
  refine ⟨rfl, vcOp_sound ?_⟩
  simp -implicitDefEqProofs only [QL,Q0,Q1,Q2,Q3,Q4,Q5,Q6,Q7,Q8,Q9,Qa,Qb,Qc,Qd,Qe,Qf,Qg,Qh,Qi,Qj,Qk,Ql,Qm,Qn,Qo,Qp,Qq,Qr,Qs,Qt,Qu,Qv,Qw,Qx,Qy,Qz,QA,QB,QC,QD,QE,QF,QG,QH,QI,QJ,QK,QL,QM,QN,QO,QP,QQ,QR,QS,QT,QU,QV,QW,QX,QY,QZ,X0,X1,X2,X3,X4,X5,X6,X7,X8,X9,Xa,Xb,Xc,Xd,Xe,Xf,Xg,Xh,Xi,Xj,Xk,Xl,Xm,Xn,Xo,Xp,Xq,Xr,Xs,reduceIte,reduceCtorEq,ite_true,ite_false,if_true,if_false,Xt,Xu,Xv,Xw,Xx,Xy,and_true,true_and,and_self,true_imp_iff,false_imp_iff,eq_self,not_true_eq_false,not_false_eq_true,ne_eq,decide_true,decide_false,Xz,XA,XB,XC,XD,XE,XF,XG,XH,XI,XJ,XK,XL,XM,XN,XO,XP,XQ,XR,Try.q4,Try.q29,Try.q37]
  refine ⟨rfl, opj_nilR Try.underlying29 rfl fun b => ?_⟩
  show seqA _ _ _ _ .normal _ _
  rw [seqA_normal]
  cases b with
  | true =>
    refine awp_condT rfl ?_
    refine awp_vc (by kernel_rfl) ?_
    simp -implicitDefEqProofs only [seqA_ret,Q0,Q1,Q2,Q3,Q4,Q5,Q6,Q7,Q8,Q9,Qa,Qb,Qc,Qd,Qe,Qf,Qg,Qh,Qi,Qj,Qk,Ql,Qm,Qn,Qo,Qp,Qq,Qr,Qs,Qt,Qu,Qv,Qw,Qx,Qy,Qz,QA,QB,QC,QD,QE,QF,QG,QH,QI,QJ,QK,QL,QM,QN,QO,QP,QQ,QR,QS,QT,QU,QV,QW,QX,QY,QZ,X0,X1,X2,X3,X4,X5,X6,X7,X8,X9,Xa,Xb,Xc,Xd,Xe,Xf,Xg,Xh,Xi,Xj,Xk,Xl,Xm,Xn,Xo,Xp,Xq,Xr,Xs,reduceIte,reduceCtorEq,ite_true,ite_false,if_true,if_false,Xt,Xu,Xv,Xw,Xx,Xy,and_true,true_and,and_self,true_imp_iff,false_imp_iff,eq_self,not_true_eq_false,not_false_eq_true,ne_eq,decide_true,decide_false,Xz,XA,XB,XC,XD,XE,XF,XG,XH,XI,XJ,XK,XL,XM,XN,XO,XP,XQ,XR,Try.q4,Try.q29,Try.q37]
    first | exact .inl trivial | exact .inl rfl | exact ⟨.inl rfl, rfl⟩
  | false =>
    refine awp_condF rfl ?_
    refine awp_vc (by kernel_rfl) ?_
    simp -implicitDefEqProofs only [seqA_normal,Q0,Q1,Q2,Q3,Q4,Q5,Q6,Q7,Q8,Q9,Qa,Qb,Qc,Qd,Qe,Qf,Qg,Qh,Qi,Qj,Qk,Ql,Qm,Qn,Qo,Qp,Qq,Qr,Qs,Qt,Qu,Qv,Qw,Qx,Qy,Qz,QA,QB,QC,QD,QE,QF,QG,QH,QI,QJ,QK,QL,QM,QN,QO,QP,QQ,QR,QS,QT,QU,QV,QW,QX,QY,QZ,X0,X1,X2,X3,X4,X5,X6,X7,X8,X9,Xa,Xb,Xc,Xd,Xe,Xf,Xg,Xh,Xi,Xj,Xk,Xl,Xm,Xn,Xo,Xp,Xq,Xr,Xs,reduceIte,reduceCtorEq,ite_true,ite_false,if_true,if_false,Xt,Xu,Xv,Xw,Xx,Xy,and_true,true_and,and_self,true_imp_iff,false_imp_iff,eq_self,not_true_eq_false,not_false_eq_true,ne_eq,decide_true,decide_false,Xz,XA,XB,XC,XD,XE,XF,XG,XH,XI,XJ,XK,XL,XM,XN,XO,XP,XQ,XR,Try.q4,Try.q29,Try.q37]
    refine awp_vc (by kernel_rfl) ?_
    simp -implicitDefEqProofs only [seqA_ret,Q0,Q1,Q2,Q3,Q4,Q5,Q6,Q7,Q8,Q9,Qa,Qb,Qc,Qd,Qe,Qf,Qg,Qh,Qi,Qj,Qk,Ql,Qm,Qn,Qo,Qp,Qq,Qr,Qs,Qt,Qu,Qv,Qw,Qx,Qy,Qz,QA,QB,QC,QD,QE,QF,QG,QH,QI,QJ,QK,QL,QM,QN,QO,QP,QQ,QR,QS,QT,QU,QV,QW,QX,QY,QZ,X0,X1,X2,X3,X4,X5,X6,X7,X8,X9,Xa,Xb,Xc,Xd,Xe,Xf,Xg,Xh,Xi,Xj,Xk,Xl,Xm,Xn,Xo,Xp,Xq,Xr,Xs,reduceIte,reduceCtorEq,ite_true,ite_false,if_true,if_false,Xt,Xu,Xv,Xw,Xx,Xy,and_true,true_and,and_self,true_imp_iff,false_imp_iff,eq_self,not_true_eq_false,not_false_eq_true,ne_eq,decide_true,decide_false,Xz,XA,XB,XC,XD,XE,XF,XG,XH,XI,XJ,XK,XL,XM,XN,XO,XP,XQ,XR,Try.q4,Try.q29,Try.q37]
    simp only [vcAppend, Try.sl29, contA]
    refine ⟨by simp [Try.bt37], trivial, by simp, fun _ => ?_, fun h => absurd rfl h⟩
    simp -implicitDefEqProofs only [seqA_ret,Q0,Q1,Q2,Q3,Q4,Q5,Q6,Q7,Q8,Q9,Qa,Qb,Qc,Qd,Qe,Qf,Qg,Qh,Qi,Qj,Qk,Ql,Qm,Qn,Qo,Qp,Qq,Qr,Qs,Qt,Qu,Qv,Qw,Qx,Qy,Qz,QA,QB,QC,QD,QE,QF,QG,QH,QI,QJ,QK,QL,QM,QN,QO,QP,QQ,QR,QS,QT,QU,QV,QW,QX,QY,QZ,X0,X1,X2,X3,X4,X5,X6,X7,X8,X9,Xa,Xb,Xc,Xd,Xe,Xf,Xg,Xh,Xi,Xj,Xk,Xl,Xm,Xn,Xo,Xp,Xq,Xr,Xs,reduceIte,reduceCtorEq,ite_true,ite_false,if_true,if_false,Xt,Xu,Xv,Xw,Xx,Xy,and_true,true_and,and_self,true_imp_iff,false_imp_iff,eq_self,not_true_eq_false,not_false_eq_true,ne_eq,decide_true,decide_false,Xz,XA,XB,XC,XD,XE,XF,XG,XH,XI,XJ,XK,XL,XM,XN,XO,XP,XQ,XR,Try.q4,Try.q29,Try.q37]
    first | exact .inr trivial | exact .inr rfl | exact ⟨.inr rfl, rfl⟩

theorem c_sound0 (σ : Store) : ACalls Try.prog 49 [esV []] σ (fun r s => r = .bool (sndB []) ∧ s = σ) := by
  refine ACalls.frozen (ACalls.mono (R := fun r s => r = .bool (sndB []) ∧ Ext σ s) ?_ fun r s ⟨h1, h2⟩ => ⟨h2, by rw [h1]; exact .same _ rfl⟩)
  rw [sndB_t snd_nil]
  have d1 : decide ((0 : Int) < 0) = false := rfl
  refine acalls_of_awp (fn := Try.f49) Try.call49 Try.func49 rfl (by simp [Try.ntmps49]) ?_
  simp only [Try.ntmps49, Try.results49]
  refine awp_seq (awp_vc (by kernel_rfl) ?_)
  simp -implicitDefEqProofs only [seqA_normal,seqA_ret,seqA_exit,Q0,Q1,Q2,Q3,Q4,Q5,Q6,Q7,Q8,Q9,Qa,Qb,Qc,Qd,Qe,Qf,Qg,Qh,Qi,Qj,Qk,Ql,Qm,Qn,Qo,Qp,Qq,Qr,Qs,Qt,Qu,Qv,Qw,Qx,Qy,Qz,QA,QB,QC,QD,QE,QF,QG,QH,QI,QJ,QK,QL,QM,QN,QO,QP,QQ,QR,QS,QT,QU,QV,QW,QX,QY,QZ,X0,X1,X2,X3,X4,X5,X6,X7,X8,X9,Xa,Xb,Xc,Xd,Xe,Xf,Xg,Xh,Xi,Xj,Xk,Xl,Xm,Xn,Xo,Xp,Xq,Xr,Xs,reduceIte,reduceCtorEq,ite_true,ite_false,if_true,if_false,Xt,Xu,Xv,Xw,Xx,Xy,and_true,true_and,and_self,true_imp_iff,false_imp_iff,eq_self,not_true_eq_false,not_false_eq_true,ne_eq,decide_true,decide_false,Xz,XA,XB,XC,XD,XE,XF,XG,XH,XI,XJ,XK,XL,XM,XN,XO,XP,XQ,XR,Try.q3,Try.q4,Try.q29,Try.q37,Try.q98,Try.q99,Try.q101,Try.q102]
  refine awp_seq (awp_vc (by kernel_rfl) ?_)
  simp -implicitDefEqProofs only [seqA_normal,seqA_ret,seqA_exit,Q0,Q1,Q2,Q3,Q4,Q5,Q6,Q7,Q8,Q9,Qa,Qb,Qc,Qd,Qe,Qf,Qg,Qh,Qi,Qj,Qk,Ql,Qm,Qn,Qo,Qp,Qq,Qr,Qs,Qt,Qu,Qv,Qw,Qx,Qy,Qz,QA,QB,QC,QD,QE,QF,QG,QH,QI,QJ,QK,QL,QM,QN,QO,QP,QQ,QR,QS,QT,QU,QV,QW,QX,QY,QZ,X0,X1,X2,X3,X4,X5,X6,X7,X8,X9,Xa,Xb,Xc,Xd,Xe,Xf,Xg,Xh,Xi,Xj,Xk,Xl,Xm,Xn,Xo,Xp,Xq,Xr,Xs,reduceIte,reduceCtorEq,ite_true,ite_false,if_true,if_false,Xt,Xu,Xv,Xw,Xx,Xy,and_true,true_and,and_self,true_imp_iff,false_imp_iff,eq_self,not_true_eq_false,not_false_eq_true,ne_eq,decide_true,decide_false,Xz,XA,XB,XC,XD,XE,XF,XG,XH,XI,XJ,XK,XL,XM,XN,XO,XP,XQ,XR,Try.q3,Try.q4,Try.q29,Try.q37,Try.q98,Try.q99,Try.q101,Try.q102]
  refine ACalls.mono (clone_nil σ) ?_
  rintro r s ⟨hr, rfl⟩
  have k := c_sort0 r hr
  simp -implicitDefEqProofs only [seqA_normal,Q0,Q1,Q2,Q3,Q4,Q5,Q6,Q7,Q8,Q9,Qa,Qb,Qc,Qd,Qe,Qf,Qg,Qh,Qi,Qj,Qk,Ql,Qm,Qn,Qo,Qp,Qq,Qr,Qs,Qt,Qu,Qv,Qw,Qx,Qy,Qz,QA,QB,QC,QD,QE,QF,QG,QH,QI,QJ,QK,QL,QM,QN,QO,QP,QQ,QR,QS,QT,QU,QV,QW,QX,QY,QZ,X0,X1,X2,X3,X4,X5,X6,X7,X8,X9,Xa,Xb,Xc,Xd,Xe,Xf,Xg,Xh,Xi,Xj,Xk,Xl,Xm,Xn,Xo,Xp,Xq,Xr,Xs,reduceIte,reduceCtorEq,ite_true,ite_false,if_true,if_false,Xt,Xu,Xv,Xw,Xx,Xy,and_true,true_and,and_self,true_imp_iff,false_imp_iff,eq_self,not_true_eq_false,not_false_eq_true,ne_eq,decide_true,decide_false,Xz,XA,XB,XC,XD,XE,XF,XG,XH,XI,XJ,XK,XL,XM,XN,XO,XP,XQ,XR,Try.q3,Try.q4,Try.q29,Try.q37,Try.q98,Try.q99,Try.q101,Try.q102]
  refine awp_seq (awp_vc (by kernel_rfl) ?_)
  simp -implicitDefEqProofs only [seqA_normal,seqA_ret,seqA_exit,Q0,Q1,Q2,Q3,Q4,Q5,Q6,Q7,Q8,Q9,Qa,Qb,Qc,Qd,Qe,Qf,Qg,Qh,Qi,Qj,Qk,Ql,Qm,Qn,Qo,Qp,Qq,Qr,Qs,Qt,Qu,Qv,Qw,Qx,Qy,Qz,QA,QB,QC,QD,QE,QF,QG,QH,QI,QJ,QK,QL,QM,QN,QO,QP,QQ,QR,QS,QT,QU,QV,QW,QX,QY,QZ,X0,X1,X2,X3,X4,X5,X6,X7,X8,X9,Xa,Xb,Xc,Xd,Xe,Xf,Xg,Xh,Xi,Xj,Xk,Xl,Xm,Xn,Xo,Xp,Xq,Xr,Xs,reduceIte,reduceCtorEq,ite_true,ite_false,if_true,if_false,Xt,Xu,Xv,Xw,Xx,Xy,and_true,true_and,and_self,true_imp_iff,false_imp_iff,eq_self,not_true_eq_false,not_false_eq_true,ne_eq,decide_true,decide_false,Xz,XA,XB,XC,XD,XE,XF,XG,XH,XI,XJ,XK,XL,XM,XN,XO,XP,XQ,XR,Try.q3,Try.q4,Try.q29,Try.q37,Try.q98,Try.q99,Try.q101,Try.q102]
  refine ACalls.mono (k s) ?_
  rintro r2 s2 rfl
  simp -implicitDefEqProofs only [seqA_normal,Q0,Q1,Q2,Q3,Q4,Q5,Q6,Q7,Q8,Q9,Qa,Qb,Qc,Qd,Qe,Qf,Qg,Qh,Qi,Qj,Qk,Ql,Qm,Qn,Qo,Qp,Qq,Qr,Qs,Qt,Qu,Qv,Qw,Qx,Qy,Qz,QA,QB,QC,QD,QE,QF,QG,QH,QI,QJ,QK,QL,QM,QN,QO,QP,QQ,QR,QS,QT,QU,QV,QW,QX,QY,QZ,X0,X1,X2,X3,X4,X5,X6,X7,X8,X9,Xa,Xb,Xc,Xd,Xe,Xf,Xg,Xh,Xi,Xj,Xk,Xl,Xm,Xn,Xo,Xp,Xq,Xr,Xs,reduceIte,reduceCtorEq,ite_true,ite_false,if_true,if_false,Xt,Xu,Xv,Xw,Xx,Xy,and_true,true_and,and_self,true_imp_iff,false_imp_iff,eq_self,not_true_eq_false,not_false_eq_true,ne_eq,decide_true,decide_false,Xz,XA,XB,XC,XD,XE,XF,XG,XH,XI,XJ,XK,XL,XM,XN,XO,XP,XQ,XR,Try.q3,Try.q4,Try.q29,Try.q37,Try.q98,Try.q99,Try.q101,Try.q102]
  refine awp_seq (awp_vc (by kernel_rfl) ?_)
  simp -implicitDefEqProofs only [seqA_normal,seqA_ret,seqA_exit,Q0,Q1,Q2,Q3,Q4,Q5,Q6,Q7,Q8,Q9,Qa,Qb,Qc,Qd,Qe,Qf,Qg,Qh,Qi,Qj,Qk,Ql,Qm,Qn,Qo,Qp,Qq,Qr,Qs,Qt,Qu,Qv,Qw,Qx,Qy,Qz,QA,QB,QC,QD,QE,QF,QG,QH,QI,QJ,QK,QL,QM,QN,QO,QP,QQ,QR,QS,QT,QU,QV,QW,QX,QY,QZ,X0,X1,X2,X3,X4,X5,X6,X7,X8,X9,Xa,Xb,Xc,Xd,Xe,Xf,Xg,Xh,Xi,Xj,Xk,Xl,Xm,Xn,Xo,Xp,Xq,Xr,Xs,reduceIte,reduceCtorEq,ite_true,ite_false,if_true,if_false,Xt,Xu,Xv,Xw,Xx,Xy,and_true,true_and,and_self,true_imp_iff,false_imp_iff,eq_self,not_true_eq_false,not_false_eq_true,ne_eq,decide_true,decide_false,Xz,XA,XB,XC,XD,XE,XF,XG,XH,XI,XJ,XK,XL,XM,XN,XO,XP,XQ,XR,Try.q3,Try.q4,Try.q29,Try.q37,Try.q98,Try.q99,Try.q101,Try.q102]
  refine awp_seq (awp_vc (by kernel_rfl) ?_)
  simp -implicitDefEqProofs only [seqA_normal,seqA_ret,seqA_exit,Q0,Q1,Q2,Q3,Q4,Q5,Q6,Q7,Q8,Q9,Qa,Qb,Qc,Qd,Qe,Qf,Qg,Qh,Qi,Qj,Qk,Ql,Qm,Qn,Qo,Qp,Qq,Qr,Qs,Qt,Qu,Qv,Qw,Qx,Qy,Qz,QA,QB,QC,QD,QE,QF,QG,QH,QI,QJ,QK,QL,QM,QN,QO,QP,QQ,QR,QS,QT,QU,QV,QW,QX,QY,QZ,X0,X1,X2,X3,X4,X5,X6,X7,X8,X9,Xa,Xb,Xc,Xd,Xe,Xf,Xg,Xh,Xi,Xj,Xk,Xl,Xm,Xn,Xo,Xp,Xq,Xr,Xs,reduceIte,reduceCtorEq,ite_true,ite_false,if_true,if_false,Xt,Xu,Xv,Xw,Xx,Xy,and_true,true_and,and_self,true_imp_iff,false_imp_iff,eq_self,not_true_eq_false,not_false_eq_true,ne_eq,decide_true,decide_false,Xz,XA,XB,XC,XD,XE,XF,XG,XH,XI,XJ,XK,XL,XM,XN,XO,XP,XQ,XR,Try.q3,Try.q4,Try.q29,Try.q37,Try.q98,Try.q99,Try.q101,Try.q102]
  rcases hr with rfl | rfl
  · refine awp_seq (awp_vc (by kernel_rfl) ?_)
    simp -implicitDefEqProofs only [seqA_normal,seqA_ret,seqA_exit,Q0,Q1,Q2,Q3,Q4,Q5,Q6,Q7,Q8,Q9,Qa,Qb,Qc,Qd,Qe,Qf,Qg,Qh,Qi,Qj,Qk,Ql,Qm,Qn,Qo,Qp,Qq,Qr,Qs,Qt,Qu,Qv,Qw,Qx,Qy,Qz,QA,QB,QC,QD,QE,QF,QG,QH,QI,QJ,QK,QL,QM,QN,QO,QP,QQ,QR,QS,QT,QU,QV,QW,QX,QY,QZ,X0,X1,X2,X3,X4,X5,X6,X7,X8,X9,Xa,Xb,Xc,Xd,Xe,Xf,Xg,Xh,Xi,Xj,Xk,Xl,Xm,Xn,Xo,Xp,Xq,Xr,Xs,reduceIte,reduceCtorEq,ite_true,ite_false,if_true,if_false,Xt,Xu,Xv,Xw,Xx,Xy,and_true,true_and,and_self,true_imp_iff,false_imp_iff,eq_self,not_true_eq_false,not_false_eq_true,ne_eq,decide_true,decide_false,Xz,XA,XB,XC,XD,XE,XF,XG,XH,XI,XJ,XK,XL,XM,XN,XO,XP,XQ,XR,Try.q3,Try.q4,Try.q29,Try.q37,Try.q98,Try.q99,Try.q101,Try.q102]
    refine awp_loopW (fun i : Unit => [(21, .int .i64 0), (20, .int .i64 0)]) (fun _ s => Ext s2 s) (fun i => 0) () (by simp [sub_cons, sub_nil, get_cons]) (by simpa using Ext.app s2 [.mp (.kv [] 0), .mp (.kv [] 0)]) ?_
    rintro _ s hx
    refine awp_vc (by kernel_rfl) ?_
    simp -implicitDefEqProofs only [d1,seqA_normal,Q0,Q1,Q2,Q3,Q4,Q5,Q6,Q7,Q8,Q9,Qa,Qb,Qc,Qd,Qe,Qf,Qg,Qh,Qi,Qj,Qk,Ql,Qm,Qn,Qo,Qp,Qq,Qr,Qs,Qt,Qu,Qv,Qw,Qx,Qy,Qz,QA,QB,QC,QD,QE,QF,QG,QH,QI,QJ,QK,QL,QM,QN,QO,QP,QQ,QR,QS,QT,QU,QV,QW,QX,QY,QZ,X0,X1,X2,X3,X4,X5,X6,X7,X8,X9,Xa,Xb,Xc,Xd,Xe,Xf,Xg,Xh,Xi,Xj,Xk,Xl,Xm,Xn,Xo,Xp,Xq,Xr,Xs,reduceIte,reduceCtorEq,ite_true,ite_false,if_true,if_false,Xt,Xu,Xv,Xw,Xx,Xy,and_true,true_and,and_self,true_imp_iff,false_imp_iff,eq_self,not_true_eq_false,not_false_eq_true,ne_eq,decide_true,decide_false,Xz,XA,XB,XC,XD,XE,XF,XG,XH,XI,XJ,XK,XL,XM,XN,XO,XP,XQ,XR,Try.q3,Try.q4,Try.q29,Try.q37,Try.q98,Try.q99,Try.q101,Try.q102]
    refine awp_vc (by kernel_rfl) ?_
    simp -implicitDefEqProofs only [Q0,Q1,Q2,Q3,Q4,Q5,Q6,Q7,Q8,Q9,Qa,Qb,Qc,Qd,Qe,Qf,Qg,Qh,Qi,Qj,Qk,Ql,Qm,Qn,Qo,Qp,Qq,Qr,Qs,Qt,Qu,Qv,Qw,Qx,Qy,Qz,QA,QB,QC,QD,QE,QF,QG,QH,QI,QJ,QK,QL,QM,QN,QO,QP,QQ,QR,QS,QT,QU,QV,QW,QX,QY,QZ,X0,X1,X2,X3,X4,X5,X6,X7,X8,X9,Xa,Xb,Xc,Xd,Xe,Xf,Xg,Xh,Xi,Xj,Xk,Xl,Xm,Xn,Xo,Xp,Xq,Xr,Xs,reduceIte,reduceCtorEq,ite_true,ite_false,if_true,if_false,Xt,Xu,Xv,Xw,Xx,Xy,and_true,true_and,and_self,true_imp_iff,false_imp_iff,eq_self,not_true_eq_false,not_false_eq_true,ne_eq,decide_true,decide_false,Xz,XA,XB,XC,XD,XE,XF,XG,XH,XI,XJ,XK,XL,XM,XN,XO,XP,XQ,XR,Try.q3,Try.q4,Try.q29,Try.q37,Try.q98,Try.q99,Try.q101,Try.q102]
    exact hx
  · refine awp_seq (awp_vc (by kernel_rfl) ?_)
    simp -implicitDefEqProofs only [seqA_normal,seqA_ret,seqA_exit,Q0,Q1,Q2,Q3,Q4,Q5,Q6,Q7,Q8,Q9,Qa,Qb,Qc,Qd,Qe,Qf,Qg,Qh,Qi,Qj,Qk,Ql,Qm,Qn,Qo,Qp,Qq,Qr,Qs,Qt,Qu,Qv,Qw,Qx,Qy,Qz,QA,QB,QC,QD,QE,QF,QG,QH,QI,QJ,QK,QL,QM,QN,QO,QP,QQ,QR,QS,QT,QU,QV,QW,QX,QY,QZ,X0,X1,X2,X3,X4,X5,X6,X7,X8,X9,Xa,Xb,Xc,Xd,Xe,Xf,Xg,Xh,Xi,Xj,Xk,Xl,Xm,Xn,Xo,Xp,Xq,Xr,Xs,reduceIte,reduceCtorEq,ite_true,ite_false,if_true,if_false,Xt,Xu,Xv,Xw,Xx,Xy,and_true,true_and,and_self,true_imp_iff,false_imp_iff,eq_self,not_true_eq_false,not_false_eq_true,ne_eq,decide_true,decide_false,Xz,XA,XB,XC,XD,XE,XF,XG,XH,XI,XJ,XK,XL,XM,XN,XO,XP,XQ,XR,Try.q3,Try.q4,Try.q29,Try.q37,Try.q98,Try.q99,Try.q101,Try.q102]
    refine awp_loopW (fun i : Unit => [(21, .int .i64 0), (20, .int .i64 0)]) (fun _ s => Ext s2 s) (fun i => 0) () (by simp [sub_cons, sub_nil, get_cons]) (by simpa using Ext.app s2 [.mp (.kv [] 0), .mp (.kv [] 0)]) ?_
    rintro _ s hx
    refine awp_vc (by kernel_rfl) ?_
    simp -implicitDefEqProofs only [d1,seqA_normal,Q0,Q1,Q2,Q3,Q4,Q5,Q6,Q7,Q8,Q9,Qa,Qb,Qc,Qd,Qe,Qf,Qg,Qh,Qi,Qj,Qk,Ql,Qm,Qn,Qo,Qp,Qq,Qr,Qs,Qt,Qu,Qv,Qw,Qx,Qy,Qz,QA,QB,QC,QD,QE,QF,QG,QH,QI,QJ,QK,QL,QM,QN,QO,QP,QQ,QR,QS,QT,QU,QV,QW,QX,QY,QZ,X0,X1,X2,X3,X4,X5,X6,X7,X8,X9,Xa,Xb,Xc,Xd,Xe,Xf,Xg,Xh,Xi,Xj,Xk,Xl,Xm,Xn,Xo,Xp,Xq,Xr,Xs,reduceIte,reduceCtorEq,ite_true,ite_false,if_true,if_false,Xt,Xu,Xv,Xw,Xx,Xy,and_true,true_and,and_self,true_imp_iff,false_imp_iff,eq_self,not_true_eq_false,not_false_eq_true,ne_eq,decide_true,decide_false,Xz,XA,XB,XC,XD,XE,XF,XG,XH,XI,XJ,XK,XL,XM,XN,XO,XP,XQ,XR,Try.q3,Try.q4,Try.q29,Try.q37,Try.q98,Try.q99,Try.q101,Try.q102]
    refine awp_vc (by kernel_rfl) ?_
    simp -implicitDefEqProofs only [Q0,Q1,Q2,Q3,Q4,Q5,Q6,Q7,Q8,Q9,Qa,Qb,Qc,Qd,Qe,Qf,Qg,Qh,Qi,Qj,Qk,Ql,Qm,Qn,Qo,Qp,Qq,Qr,Qs,Qt,Qu,Qv,Qw,Qx,Qy,Qz,QA,QB,QC,QD,QE,QF,QG,QH,QI,QJ,QK,QL,QM,QN,QO,QP,QQ,QR,QS,QT,QU,QV,QW,QX,QY,QZ,X0,X1,X2,X3,X4,X5,X6,X7,X8,X9,Xa,Xb,Xc,Xd,Xe,Xf,Xg,Xh,Xi,Xj,Xk,Xl,Xm,Xn,Xo,Xp,Xq,Xr,Xs,reduceIte,reduceCtorEq,ite_true,ite_false,if_true,if_false,Xt,Xu,Xv,Xw,Xx,Xy,and_true,true_and,and_self,true_imp_iff,false_imp_iff,eq_self,not_true_eq_false,not_false_eq_true,ne_eq,decide_true,decide_false,Xz,XA,XB,XC,XD,XE,XF,XG,XH,XI,XJ,XK,XL,XM,XN,XO,XP,XQ,XR,Try.q3,Try.q4,Try.q29,Try.q37,Try.q98,Try.q99,Try.q101,Try.q102]
    exact hx

theorem c_sound (L : List Ent) (hl : L.length ≤ 20000) (hV : ∀ e ∈ L, Val e) (σ : Store) : ACalls Try.prog 49 [esV L] σ (fun r s => r = .bool (sndB L) ∧ s = σ) := by
  by_cases hne : L = []
  · subst hne; exact c_sound0 σ
  · exact c_sound1 L hne hl hV σ

end Go.Proofs
