/-
  Taxonomies as bytes: Decode; contract.
-/
import Derived.Test.YteejpckkgepecaaUb
namespace Go.Proofs
open Go.Pa
open Go.Pa renaming VB0 → Q0, VB1 → Q1, VB2 → Q2, VB3 → Q3, VB4 → Q4, VB5 → Q5, VB6 → Q6, VB7 → Q7, VB8 → Q8, VB9 → Q9, condV_bool → Qa, guardV_bool → Qb, vcS → Qc, evA → Qd, evBin → Qe, nilA → Qf, nilOf → Qg, intOp → Qh, strOp → Qi, evUn → Qj, evConv → Qk, evField → Ql, evFieldAddr → Qm, evIndexAddr → Qn, evIndex → Qo, evIndexA → Qp, bnd → Qq, evSlice → Qr, evLen → Qs, evPick → Qt, evExtract → Qu, evNilCheck → Qv, evMin → Qw, evMax → Qx, evLoadI → Qy, partsOne → QA, intsOf → QB, rowsAV → QC, evBuildSlice → QD, evBuild → QE, fillA → QF, splice → QG, evBuiltin → QH, guardD_bool → QI, dOp → QJ, cl → QK, vcLoad → QL, vcStore → QM, vcMake → QN, convA → QO, evIndexArr → QP, retA → QQ, ressA → QR, resA → QS, envOf → QT, condR_bool → QX, asgEnv → QY, parEnv → QZ, dstAt → XI, vcLook → XT, vcPut → XU, vcEnt → XV, vcESt → XW, vcMLen → XX, vcDel → XY, vcClear → XZ, vcLookD → Y0
open Go.Pa.AV renaming cell → Qz
open Go.Pa.Env renaming put → QU
open List renaming set_cons_zero → QV, set_cons_succ → QW, foldl_cons → X0, foldl_nil → X1, map_cons → X2, map_nil → X3, toList_toArray → X4, getElem?_cons_zero → X5, getElem?_cons_succ → X6, nil_append → Xa, append_nil → Xb, cons_append → Xc, singleton_append → Xd, length_cons → Xe, length_nil → Xf, all_cons → Xg, all_nil → Xh, take_succ_cons → Xi, take_zero → Xj, take_nil → Xk, drop_zero → Xl, drop_succ_cons → Xm, drop_nil → Xn, contains_nil → Xo, contains_cons → Xp
open Option renaming bind_some → X7, map_some → X8, map_none → X9
open Bool renaming or_false → Xq, false_or → Xr, or_true → Xs, true_or → Xt, false_eq_true → XC, not_true → XD, not_false → XE, and_true → XF, true_and → XG, and_self → XH
open Nat renaming reduceEqDiff → Xu, reduceAdd → Xv, reduceSub → Xw, reduceMul → Xx, reduceLT → Xy, reduceLeDiff → Xz, reduceBNe → XA, reduceBEq → XB, zero_add → XL, add_zero → XM
open UInt8 renaming reduceToNat → XJ
open Int renaming cast_ofNat_Int → XK, reduceToNat → XN, reduceLT → XO, reduceLE → XP, reduceNeg → XQ, reduceEq → XR, reduceNe → XS
set_option linter.unusedSimpArgs false
set_option linter.unusedVariables false
set_option maxRecDepth 20000
set_option maxHeartbeats 4000000

theorem clone_bytes (l : List Int) (hl : l.length < 2000000) (s : Store) : ACalls Try.prog 59 [.ints .u8 l] s (FreshI s .u8 l) := by
  by_cases hne : l = []
  · subst hne
    refine acalls_of_awp (fn := Try.f59) Try.call59 Try.func59 rfl (by simp [Try.ntmps59]) ?_
    simp only [Try.ntmps59, Try.results59]
    refine awp_seq (awp_vc (by kernel_rfl) ?_)
    simp -implicitDefEqProofs only [seqA_normal,seqA_ret,seqA_exit,Q0,Q1,Q2,Q3,Q4,Q5,Q6,Q7,Q8,Q9,Qa,Qb,Qc,Qd,Qe,Qf,Qg,Qh,Qi,Qj,Qk,Ql,Qm,Qn,Qo,Qp,Qq,Qr,Qs,Qt,Qu,Qv,Qw,Qx,Qy,Qz,QA,QB,QC,QD,QE,QF,QG,QH,QI,QJ,QK,QL,QM,QN,QO,QP,QQ,QR,QS,QT,QU,QV,QW,QX,QY,QZ,X0,X1,X2,X3,X4,X5,X6,X7,X8,X9,Xa,Xb,Xc,Xd,Xe,Xf,Xg,Xh,Xi,Xj,Xk,Xl,Xm,Xn,Xo,Xp,Xq,Xr,Xs,Xt,Xu,Xv,Xw,Xx,Xy,Xz,XA,XB,reduceIte,reduceCtorEq,XC,XD,XE,XF,XG,XH,XI,XJ,XK,XL,XM,XN,XO,XP,XQ,XR,XS,XT,XU,XV,XW,XX,XY,XZ,Y0,Try.q4,Try.q5,Try.q52]
    refine awp_seq (awp_seq (awp_ops (by kernel_rfl) ?_))
    refine ⟨rfl, vcOp_sound ?_⟩
    simp -implicitDefEqProofs only [QU,Q0,Q1,Q2,Q3,Q4,Q5,Q6,Q7,Q8,Q9,Qa,Qb,Qc,Qd,Qe,Qf,Qg,Qh,Qi,Qj,Qk,Ql,Qm,Qn,Qo,Qp,Qq,Qr,Qs,Qt,Qu,Qv,Qw,Qx,Qy,Qz,QA,QB,QC,QD,QE,QF,QG,QH,QI,QJ,QK,QL,QM,QN,QO,QP,QQ,QR,QS,QT,QU,QV,QW,QX,QY,QZ,X0,X1,X2,X3,X4,X5,X6,X7,X8,X9,Xa,Xb,Xc,Xd,Xe,Xf,Xg,Xh,Xi,Xj,Xk,Xl,Xm,Xn,Xo,Xp,Xq,Xr,Xs,Xt,Xu,Xv,Xw,Xx,Xy,Xz,XA,XB,reduceIte,reduceCtorEq,XC,XD,XE,XF,XG,XH,XI,XJ,XK,XL,XM,XN,XO,XP,XQ,XR,XS,XT,XU,XV,XW,XX,XY,XZ,Y0,Try.q4,Try.q5,Try.q52]
    refine ⟨rfl, opj_nil Try.underlying52 rfl fun b => ?_⟩
    show seqA _ _ _ _ .normal _ _
    rw [seqA_normal]
    cases b with
    | true =>
      refine awp_condT rfl ?_
      refine awp_vc (by kernel_rfl) ?_
      simp -implicitDefEqProofs only [seqA_ret,Q0,Q1,Q2,Q3,Q4,Q5,Q6,Q7,Q8,Q9,Qa,Qb,Qc,Qd,Qe,Qf,Qg,Qh,Qi,Qj,Qk,Ql,Qm,Qn,Qo,Qp,Qq,Qr,Qs,Qt,Qu,Qv,Qw,Qx,Qy,Qz,QA,QB,QC,QD,QE,QF,QG,QH,QI,QJ,QK,QL,QM,QN,QO,QP,QQ,QR,QS,QT,QU,QV,QW,QX,QY,QZ,X0,X1,X2,X3,X4,X5,X6,X7,X8,X9,Xa,Xb,Xc,Xd,Xe,Xf,Xg,Xh,Xi,Xj,Xk,Xl,Xm,Xn,Xo,Xp,Xq,Xr,Xs,Xt,Xu,Xv,Xw,Xx,Xy,Xz,XA,XB,reduceIte,reduceCtorEq,XC,XD,XE,XF,XG,XH,XI,XJ,XK,XL,XM,XN,XO,XP,XQ,XR,XS,XT,XU,XV,XW,XX,XY,XZ,Y0,Try.q4,Try.q5,Try.q52]
      exact .inl ⟨.inl rfl, rfl, rfl⟩
    | false =>
      refine awp_condF rfl ?_
      refine awp_vc (by kernel_rfl) ?_
      simp -implicitDefEqProofs only [seqA_normal,Q0,Q1,Q2,Q3,Q4,Q5,Q6,Q7,Q8,Q9,Qa,Qb,Qc,Qd,Qe,Qf,Qg,Qh,Qi,Qj,Qk,Ql,Qm,Qn,Qo,Qp,Qq,Qr,Qs,Qt,Qu,Qv,Qw,Qx,Qy,Qz,QA,QB,QC,QD,QE,QF,QG,QH,QI,QJ,QK,QL,QM,QN,QO,QP,QQ,QR,QS,QT,QU,QV,QW,QX,QY,QZ,X0,X1,X2,X3,X4,X5,X6,X7,X8,X9,Xa,Xb,Xc,Xd,Xe,Xf,Xg,Xh,Xi,Xj,Xk,Xl,Xm,Xn,Xo,Xp,Xq,Xr,Xs,Xt,Xu,Xv,Xw,Xx,Xy,Xz,XA,XB,reduceIte,reduceCtorEq,XC,XD,XE,XF,XG,XH,XI,XJ,XK,XL,XM,XN,XO,XP,XQ,XR,XS,XT,XU,XV,XW,XX,XY,XZ,Y0,Try.q4,Try.q5,Try.q52]
      refine awp_vc (by kernel_rfl) ?_
      simp -implicitDefEqProofs only [seqA_ret,Q0,Q1,Q2,Q3,Q4,Q5,Q6,Q7,Q8,Q9,Qa,Qb,Qc,Qd,Qe,Qf,Qg,Qh,Qi,Qj,Qk,Ql,Qm,Qn,Qo,Qp,Qq,Qr,Qs,Qt,Qu,Qv,Qw,Qx,Qy,Qz,QA,QB,QC,QD,QE,QF,QG,QH,QI,QJ,QK,QL,QM,QN,QO,QP,QQ,QR,QS,QT,QU,QV,QW,QX,QY,QZ,X0,X1,X2,X3,X4,X5,X6,X7,X8,X9,Xa,Xb,Xc,Xd,Xe,Xf,Xg,Xh,Xi,Xj,Xk,Xl,Xm,Xn,Xo,Xp,Xq,Xr,Xs,Xt,Xu,Xv,Xw,Xx,Xy,Xz,XA,XB,reduceIte,reduceCtorEq,XC,XD,XE,XF,XG,XH,XI,XJ,XK,XL,XM,XN,XO,XP,XQ,XR,XS,XT,XU,XV,XW,XX,XY,XZ,Y0,Try.q4,Try.q5,Try.q52]
      simp only [vcAppend, Try.sl52, contA]
      refine ⟨by simp [Try.bt5], trivial, fun _ => ?_, fun h => absurd rfl h⟩
      simp -implicitDefEqProofs only [seqA_ret,Q0,Q1,Q2,Q3,Q4,Q5,Q6,Q7,Q8,Q9,Qa,Qb,Qc,Qd,Qe,Qf,Qg,Qh,Qi,Qj,Qk,Ql,Qm,Qn,Qo,Qp,Qq,Qr,Qs,Qt,Qu,Qv,Qw,Qx,Qy,Qz,QA,QB,QC,QD,QE,QF,QG,QH,QI,QJ,QK,QL,QM,QN,QO,QP,QQ,QR,QS,QT,QU,QV,QW,QX,QY,QZ,X0,X1,X2,X3,X4,X5,X6,X7,X8,X9,Xa,Xb,Xc,Xd,Xe,Xf,Xg,Xh,Xi,Xj,Xk,Xl,Xm,Xn,Xo,Xp,Xq,Xr,Xs,Xt,Xu,Xv,Xw,Xx,Xy,Xz,XA,XB,reduceIte,reduceCtorEq,XC,XD,XE,XF,XG,XH,XI,XJ,XK,XL,XM,XN,XO,XP,XQ,XR,XS,XT,XU,XV,XW,XX,XY,XZ,Y0,Try.q4,Try.q5,Try.q52]
      exact .inl ⟨.inr rfl, rfl, rfl⟩
  · skip
    refine acalls_of_vc (fn := Try.f59) Try.call59 Try.func59 rfl (by kernel_rfl) (by simp [Try.ntmps59]) ?_; simp -implicitDefEqProofs only [Try.ntmps59,Try.results59,Q0,Q1,Q2,Q3,Q4,Q5,Q6,Q7,Q8,Q9,Qa,Qb,Qc,Qd,Qe,Qf,Qg,Qh,Qi,Qj,Qk,Ql,Qm,Qn,Qo,Qp,Qq,Qr,Qs,Qt,Qu,Qv,Qw,Qx,Qy,Qz,QA,QB,QC,QD,QE,QF,QG,QH,QI,QJ,QK,QL,QM,QN,QO,QP,QQ,QR,QS,QT,QU,QV,QW,QX,QY,QZ,X0,X1,X2,X3,X4,X5,X6,X7,X8,X9,Xa,Xb,Xc,Xd,Xe,Xf,Xg,Xh,Xi,Xj,Xk,Xl,Xm,Xn,Xo,Xp,Xq,Xr,Xs,Xt,Xu,Xv,Xw,Xx,Xy,Xz,XA,XB,reduceIte,reduceCtorEq,XC,XD,XE,XF,XG,XH,XI,XJ,XK,XL,XM,XN,XO,XP,XQ,XR,XS,XT,XU,XV,XW,XX,XY,XZ,Y0,Try.q4,Try.q5,Try.q52]
    refine ⟨hne, ?_⟩
    simp only [vcAppend, Try.sl52, contA]
    refine ⟨by simp [Try.bt5], trivial, fun h0 => absurd h0 hne, fun h0 => ⟨by simp [appFits, Try.bt5]; omega, ?_⟩⟩
    simp -implicitDefEqProofs only [Q0,Q1,Q2,Q3,Q4,Q5,Q6,Q7,Q8,Q9,Qa,Qb,Qc,Qd,Qe,Qf,Qg,Qh,Qi,Qj,Qk,Ql,Qm,Qn,Qo,Qp,Qq,Qr,Qs,Qt,Qu,Qv,Qw,Qx,Qy,Qz,QA,QB,QC,QD,QE,QF,QG,QH,QI,QJ,QK,QL,QM,QN,QO,QP,QQ,QR,QS,QT,QU,QV,QW,QX,QY,QZ,X0,X1,X2,X3,X4,X5,X6,X7,X8,X9,Xa,Xb,Xc,Xd,Xe,Xf,Xg,Xh,Xi,Xj,Xk,Xl,Xm,Xn,Xo,Xp,Xq,Xr,Xs,Xt,Xu,Xv,Xw,Xx,Xy,Xz,XA,XB,reduceIte,reduceCtorEq,XC,XD,XE,XF,XG,XH,XI,XJ,XK,XL,XM,XN,XO,XP,XQ,XR,XS,XT,XU,XV,XW,XX,XY,XZ,Y0,Try.q4,Try.q5,Try.q52]
    exact .inr ⟨rfl, rfl⟩

theorem rd_readV {s : Store} (l : List Int) (hl : l.length < 2000000) : ACalls Try.prog 33 [.ints .u8 l] s (NewRd s l) := by
  have hc := clone_bytes l hl s
  refine ACalls.tidy ?_
  refine acalls_of_vc (fn := Try.f33) Try.call33 Try.func33 rfl (by kernel_rfl) (by simp [Try.ntmps33]) ?_; simp -implicitDefEqProofs only [Try.ntmps33,Try.results33,Q0,Q1,Q2,Q3,Q4,Q5,Q6,Q7,Q8,Q9,Qa,Qb,Qc,Qd,Qe,Qf,Qg,Qh,Qi,Qj,Qk,Ql,Qm,Qn,Qo,Qp,Qq,Qr,Qs,Qt,Qu,Qv,Qw,Qx,Qy,Qz,QA,QB,QC,QD,QE,QF,QG,QH,QI,QJ,QK,QL,QM,QN,QO,QP,QQ,QR,QS,QT,QU,QV,QW,QX,QY,QZ,X0,X1,X2,X3,X4,X5,X6,X7,X8,X9,Xa,Xb,Xc,Xd,Xe,Xf,Xg,Xh,Xi,Xj,Xk,Xl,Xm,Xn,Xo,Xp,Xq,Xr,Xs,Xt,Xu,Xv,Xw,Xx,Xy,Xz,XA,XB,reduceIte,reduceCtorEq,XC,XD,XE,XF,XG,XH,XI,XJ,XK,XL,XM,XN,XO,XP,XQ,XR,XS,XT,XU,XV,XW,XX,XY,XZ,Y0,Try.q5,Try.q26,Try.q52,Try.q55,Try.underlying83,Try.q83]
  refine ACalls.mono hc ?_
  intro r2 s2 hf
  rcases hf with ⟨h1, rfl, rfl⟩ | ⟨rfl, rfl⟩
  · rcases h1 with rfl | rfl
    · simp -implicitDefEqProofs only [Q0,Q1,Q2,Q3,Q4,Q5,Q6,Q7,Q8,Q9,Qa,Qb,Qc,Qd,Qe,Qf,Qg,Qh,Qi,Qj,Qk,Ql,Qm,Qn,Qo,Qp,Qq,Qr,Qs,Qt,Qu,Qv,Qw,Qx,Qy,Qz,QA,QB,QC,QD,QE,QF,QG,QH,QI,QJ,QK,QL,QM,QN,QO,QP,QQ,QR,QS,QT,QU,QV,QW,QX,QY,QZ,X0,X1,X2,X3,X4,X5,X6,X7,X8,X9,Xa,Xb,Xc,Xd,Xe,Xf,Xg,Xh,Xi,Xj,Xk,Xl,Xm,Xn,Xo,Xp,Xq,Xr,Xs,Xt,Xu,Xv,Xw,Xx,Xy,Xz,XA,XB,reduceIte,reduceCtorEq,XC,XD,XE,XF,XG,XH,XI,XJ,XK,XL,XM,XN,XO,XP,XQ,XR,XS,XT,XU,XV,XW,XX,XY,XZ,Y0,Try.q5,Try.q26,Try.q52,Try.q55,Try.underlying83,Try.q83]
      refine .inr ⟨_, s2 ++ [rdO [] 0], Wk.refl _, by simp, wk_last (.box _ _ rfl ?_), _, rfl, by omega, (Ext.refl _).push _, by simp, by simp⟩
      intro j x y hx hy
      match j with
      | 0 => cases hx; cases hy; exact .nilI .u8
      | 1 => cases hx; cases hy; exact .refl _
    · simp -implicitDefEqProofs only [Q0,Q1,Q2,Q3,Q4,Q5,Q6,Q7,Q8,Q9,Qa,Qb,Qc,Qd,Qe,Qf,Qg,Qh,Qi,Qj,Qk,Ql,Qm,Qn,Qo,Qp,Qq,Qr,Qs,Qt,Qu,Qv,Qw,Qx,Qy,Qz,QA,QB,QC,QD,QE,QF,QG,QH,QI,QJ,QK,QL,QM,QN,QO,QP,QQ,QR,QS,QT,QU,QV,QW,QX,QY,QZ,X0,X1,X2,X3,X4,X5,X6,X7,X8,X9,Xa,Xb,Xc,Xd,Xe,Xf,Xg,Xh,Xi,Xj,Xk,Xl,Xm,Xn,Xo,Xp,Xq,Xr,Xs,Xt,Xu,Xv,Xw,Xx,Xy,Xz,XA,XB,reduceIte,reduceCtorEq,XC,XD,XE,XF,XG,XH,XI,XJ,XK,XL,XM,XN,XO,XP,XQ,XR,XS,XT,XU,XV,XW,XX,XY,XZ,Y0,Try.q5,Try.q26,Try.q52,Try.q55,Try.underlying83,Try.q83]
      refine .inr ⟨_, s2 ++ [rdO [] 0], Wk.refl _, by simp, wk_last (.box _ _ rfl ?_), _, rfl, by omega, (Ext.refl _).push _, by simp, by simp⟩
      intro j x y hx hy
      match j with
      | 0 => cases hx; cases hy; exact .empI .u8
      | 1 => cases hx; cases hy; exact .refl _
  · simp -implicitDefEqProofs only [Q0,Q1,Q2,Q3,Q4,Q5,Q6,Q7,Q8,Q9,Qa,Qb,Qc,Qd,Qe,Qf,Qg,Qh,Qi,Qj,Qk,Ql,Qm,Qn,Qo,Qp,Qq,Qr,Qs,Qt,Qu,Qv,Qw,Qx,Qy,Qz,QA,QB,QC,QD,QE,QF,QG,QH,QI,QJ,QK,QL,QM,QN,QO,QP,QQ,QR,QS,QT,QU,QV,QW,QX,QY,QZ,X0,X1,X2,X3,X4,X5,X6,X7,X8,X9,Xa,Xb,Xc,Xd,Xe,Xf,Xg,Xh,Xi,Xj,Xk,Xl,Xm,Xn,Xo,Xp,Xq,Xr,Xs,Xt,Xu,Xv,Xw,Xx,Xy,Xz,XA,XB,reduceIte,reduceCtorEq,XC,XD,XE,XF,XG,XH,XI,XJ,XK,XL,XM,XN,XO,XP,XQ,XR,XS,XT,XU,XV,XW,XX,XY,XZ,Y0,Try.q5,Try.q26,Try.q52,Try.q55,Try.underlying83,Try.q83]
    refine .inl ⟨s.length, .vecI .u8 l, l.map (AV.int .u8), _, s ++ [.dead, rdO l 0], by simp, rfl, .same _, fz_last (.box _ _ rfl ?_), _, rfl, by omega, fun i x hx => ?_, by simp, by simp⟩
    · intro j x y hx hy
      match j with
      | 0 => cases hx; cases hy; exact .all
      | 1 => cases hx; cases hy; exact .same _
    · rw [List.getElem?_append_left (List.getElem?_eq_some_iff.1 hx).1]; exact hx

theorem c_eqB (a b : List Int) (ha : a.length < 1000000) (σ : Store) : ACalls Try.prog 58 [.ints .u8 a, .ints .u8 b] σ (fun r s => r = .bool (decide (a = b)) ∧ s = σ) := by
  by_cases hl : a.length = b.length
  · have d0 : decide ((a.length : Int) = (b.length : Int)) = true := decide_eq_true (by omega)
    refine acalls_of_awp (fn := Try.f58) Try.call58 Try.func58 rfl (by simp [Try.ntmps58]) ?_
    simp only [Try.ntmps58, Try.results58]
    refine awp_seq (awp_vc (by kernel_rfl) ?_)
    simp -implicitDefEqProofs only [seqA_normal,seqA_ret,seqA_exit,d0,Q0,Q1,Q2,Q3,Q4,Q5,Q6,Q7,Q8,Q9,Qa,Qb,Qc,Qd,Qe,Qf,Qg,Qh,Qi,Qj,Qk,Ql,Qm,Qn,Qo,Qp,Qq,Qr,Qs,Qt,Qu,Qv,Qw,Qx,Qy,Qz,QA,QB,QC,QD,QE,QF,QG,QH,QI,QJ,QK,QL,QM,QN,QO,QP,QQ,QR,QS,QT,QU,QV,QW,QX,QY,QZ,X0,X1,X2,X3,X4,X5,X6,X7,X8,X9,Xa,Xb,Xc,Xd,Xe,Xf,Xg,Xh,Xi,Xj,Xk,Xl,Xm,Xn,Xo,Xp,Xq,Xr,Xs,Xt,Xu,Xv,Xw,Xx,Xy,Xz,XA,XB,reduceIte,reduceCtorEq,XC,XD,XE,XF,XG,XH,XI,XJ,XK,XL,XM,XN,XO,XP,XQ,XR,XS,XT,XU,XV,XW,XX,XY,XZ,Y0,Try.q3,Try.q4,Try.q5,Try.q52]
    refine awp_seq (awp_vc (by kernel_rfl) ?_)
    simp -implicitDefEqProofs only [seqA_normal,seqA_ret,seqA_exit,d0,Q0,Q1,Q2,Q3,Q4,Q5,Q6,Q7,Q8,Q9,Qa,Qb,Qc,Qd,Qe,Qf,Qg,Qh,Qi,Qj,Qk,Ql,Qm,Qn,Qo,Qp,Qq,Qr,Qs,Qt,Qu,Qv,Qw,Qx,Qy,Qz,QA,QB,QC,QD,QE,QF,QG,QH,QI,QJ,QK,QL,QM,QN,QO,QP,QQ,QR,QS,QT,QU,QV,QW,QX,QY,QZ,X0,X1,X2,X3,X4,X5,X6,X7,X8,X9,Xa,Xb,Xc,Xd,Xe,Xf,Xg,Xh,Xi,Xj,Xk,Xl,Xm,Xn,Xo,Xp,Xq,Xr,Xs,Xt,Xu,Xv,Xw,Xx,Xy,Xz,XA,XB,reduceIte,reduceCtorEq,XC,XD,XE,XF,XG,XH,XI,XJ,XK,XL,XM,XN,XO,XP,XQ,XR,XS,XT,XU,XV,XW,XX,XY,XZ,Y0,Try.q3,Try.q4,Try.q5,Try.q52]
    refine awp_seq (awp_vc (by kernel_rfl) ?_)
    simp -implicitDefEqProofs only [seqA_normal,seqA_ret,seqA_exit,d0,Q0,Q1,Q2,Q3,Q4,Q5,Q6,Q7,Q8,Q9,Qa,Qb,Qc,Qd,Qe,Qf,Qg,Qh,Qi,Qj,Qk,Ql,Qm,Qn,Qo,Qp,Qq,Qr,Qs,Qt,Qu,Qv,Qw,Qx,Qy,Qz,QA,QB,QC,QD,QE,QF,QG,QH,QI,QJ,QK,QL,QM,QN,QO,QP,QQ,QR,QS,QT,QU,QV,QW,QX,QY,QZ,X0,X1,X2,X3,X4,X5,X6,X7,X8,X9,Xa,Xb,Xc,Xd,Xe,Xf,Xg,Xh,Xi,Xj,Xk,Xl,Xm,Xn,Xo,Xp,Xq,Xr,Xs,Xt,Xu,Xv,Xw,Xx,Xy,Xz,XA,XB,reduceIte,reduceCtorEq,XC,XD,XE,XF,XG,XH,XI,XJ,XK,XL,XM,XN,XO,XP,XQ,XR,XS,XT,XU,XV,XW,XX,XY,XZ,Y0,Try.q3,Try.q4,Try.q5,Try.q52]
    refine awp_loopW (fun i : Nat => [(13, .int .i64 i), (12, .int .i64 a.length), (0, .ints .u8 a), (1, .ints .u8 b)]) (fun i s => s = σ ∧ i ≤ a.length ∧ a.take i = b.take i) (fun i => a.length - i) 0 (by simp [sub_cons, sub_nil, get_cons]) ⟨rfl, by omega, rfl⟩ ?_
    rintro i s ⟨rfl, hi, hp⟩
    by_cases hlt : i < a.length
    · have d1 : decide ((i : Int) < (a.length : Int)) = true := decide_eq_true (by omega)
      have wi : IntKind.i64.wrap ((i : Int) + 1) = ((i + 1 : Nat) : Int) := by rw [wrap_i64 (by omega) (by omega)]; rfl
      have ga : a.getD (i : Int).toNat 0 = a[i] := by rw [Int.toNat_natCast, getD_get hlt]
      have gb : b.getD (i : Int).toNat 0 = b[i]'(by omega) := by rw [Int.toNat_natCast, getD_get (by omega)]
      have t1 := List.take_succ_eq_append_getElem hlt
      have t2 := List.take_succ_eq_append_getElem (show i < b.length by omega)
      have bi : (0 : Int) ≤ (i : Int) ∧ (i : Int) < (a.length : Int) := by omega
      have bj : (0 : Int) ≤ (i : Int) ∧ (i : Int) < (b.length : Int) := by omega
      have hne : a[i] ≠ b[i]'(by omega) → a ≠ b := fun h e => h (by subst e; rfl)
      generalize a[i] = x at *
      generalize b[i]'(by omega) = y at *
      refine awp_vc (by kernel_rfl) ?_
      simp -implicitDefEqProofs only [d1,Q0,Q1,Q2,Q3,Q4,Q5,Q6,Q7,Q8,Q9,Qa,Qb,Qc,Qd,Qe,Qf,Qg,Qh,Qi,Qj,Qk,Ql,Qm,Qn,Qo,Qp,Qq,Qr,Qs,Qt,Qu,Qv,Qw,Qx,Qy,Qz,QA,QB,QC,QD,QE,QF,QG,QH,QI,QJ,QK,QL,QM,QN,QO,QP,QQ,QR,QS,QT,QU,QV,QW,QX,QY,QZ,X0,X1,X2,X3,X4,X5,X6,X7,X8,X9,Xa,Xb,Xc,Xd,Xe,Xf,Xg,Xh,Xi,Xj,Xk,Xl,Xm,Xn,Xo,Xp,Xq,Xr,Xs,Xt,Xu,Xv,Xw,Xx,Xy,Xz,XA,XB,reduceIte,reduceCtorEq,XC,XD,XE,XF,XG,XH,XI,XJ,XK,XL,XM,XN,XO,XP,XQ,XR,XS,XT,XU,XV,XW,XX,XY,XZ,Y0,Try.q3,Try.q4,Try.q5,Try.q52]
      refine awp_draws [] Try.mixed (by kernel_rfl) ?_
      by_cases hxy : x = y
      · have d2 : decide (x = y) = true := decide_eq_true hxy
        simp -implicitDefEqProofs only [ga,gb,d2,wi,Q0,Q1,Q2,Q3,Q4,Q5,Q6,Q7,Q8,Q9,Qa,Qb,Qc,Qd,Qe,Qf,Qg,Qh,Qi,Qj,Qk,Ql,Qm,Qn,Qo,Qp,Qq,Qr,Qs,Qt,Qu,Qv,Qw,Qx,Qy,Qz,QA,QB,QC,QD,QE,QF,QG,QH,QI,QJ,QK,QL,QM,QN,QO,QP,QQ,QR,QS,QT,QU,QV,QW,QX,QY,QZ,X0,X1,X2,X3,X4,X5,X6,X7,X8,X9,Xa,Xb,Xc,Xd,Xe,Xf,Xg,Xh,Xi,Xj,Xk,Xl,Xm,Xn,Xo,Xp,Xq,Xr,Xs,Xt,Xu,Xv,Xw,Xx,Xy,Xz,XA,XB,reduceIte,reduceCtorEq,XC,XD,XE,XF,XG,XH,XI,XJ,XK,XL,XM,XN,XO,XP,XQ,XR,XS,XT,XU,XV,XW,XX,XY,XZ,Y0,Try.q3,Try.q4,Try.q5,Try.q52]
        exact ⟨bi, bj, i + 1, by simp, ⟨by omega, by rw [t1, t2, hp, hxy]⟩, by omega⟩
      · have d2 : decide (x = y) = false := decide_eq_false hxy
        rw [decide_eq_false (hne hxy)]
        simp -implicitDefEqProofs only [ga,gb,d2,seqA_ret,blkK_ret,Q0,Q1,Q2,Q3,Q4,Q5,Q6,Q7,Q8,Q9,Qa,Qb,Qc,Qd,Qe,Qf,Qg,Qh,Qi,Qj,Qk,Ql,Qm,Qn,Qo,Qp,Qq,Qr,Qs,Qt,Qu,Qv,Qw,Qx,Qy,Qz,QA,QB,QC,QD,QE,QF,QG,QH,QI,QJ,QK,QL,QM,QN,QO,QP,QQ,QR,QS,QT,QU,QV,QW,QX,QY,QZ,X0,X1,X2,X3,X4,X5,X6,X7,X8,X9,Xa,Xb,Xc,Xd,Xe,Xf,Xg,Xh,Xi,Xj,Xk,Xl,Xm,Xn,Xo,Xp,Xq,Xr,Xs,Xt,Xu,Xv,Xw,Xx,Xy,Xz,XA,XB,reduceIte,reduceCtorEq,XC,XD,XE,XF,XG,XH,XI,XJ,XK,XL,XM,XN,XO,XP,XQ,XR,XS,XT,XU,XV,XW,XX,XY,XZ,Y0,Try.q3,Try.q4,Try.q5,Try.q52]
        first | exact ⟨bi, bj⟩ | exact ⟨bi, bj, trivial⟩
    · have d1 : decide ((i : Int) < (a.length : Int)) = false := decide_eq_false (by omega)
      have he : a = b := by
        rw [List.take_of_length_le (by omega), List.take_of_length_le (by omega)] at hp; exact hp
      rw [decide_eq_true he]
      refine awp_vc (by kernel_rfl) ?_
      simp -implicitDefEqProofs only [d1,seqA_normal,Q0,Q1,Q2,Q3,Q4,Q5,Q6,Q7,Q8,Q9,Qa,Qb,Qc,Qd,Qe,Qf,Qg,Qh,Qi,Qj,Qk,Ql,Qm,Qn,Qo,Qp,Qq,Qr,Qs,Qt,Qu,Qv,Qw,Qx,Qy,Qz,QA,QB,QC,QD,QE,QF,QG,QH,QI,QJ,QK,QL,QM,QN,QO,QP,QQ,QR,QS,QT,QU,QV,QW,QX,QY,QZ,X0,X1,X2,X3,X4,X5,X6,X7,X8,X9,Xa,Xb,Xc,Xd,Xe,Xf,Xg,Xh,Xi,Xj,Xk,Xl,Xm,Xn,Xo,Xp,Xq,Xr,Xs,Xt,Xu,Xv,Xw,Xx,Xy,Xz,XA,XB,reduceIte,reduceCtorEq,XC,XD,XE,XF,XG,XH,XI,XJ,XK,XL,XM,XN,XO,XP,XQ,XR,XS,XT,XU,XV,XW,XX,XY,XZ,Y0,Try.q3,Try.q4,Try.q5,Try.q52]
      refine awp_vc (by kernel_rfl) ?_
      simp -implicitDefEqProofs only [Q0,Q1,Q2,Q3,Q4,Q5,Q6,Q7,Q8,Q9,Qa,Qb,Qc,Qd,Qe,Qf,Qg,Qh,Qi,Qj,Qk,Ql,Qm,Qn,Qo,Qp,Qq,Qr,Qs,Qt,Qu,Qv,Qw,Qx,Qy,Qz,QA,QB,QC,QD,QE,QF,QG,QH,QI,QJ,QK,QL,QM,QN,QO,QP,QQ,QR,QS,QT,QU,QV,QW,QX,QY,QZ,X0,X1,X2,X3,X4,X5,X6,X7,X8,X9,Xa,Xb,Xc,Xd,Xe,Xf,Xg,Xh,Xi,Xj,Xk,Xl,Xm,Xn,Xo,Xp,Xq,Xr,Xs,Xt,Xu,Xv,Xw,Xx,Xy,Xz,XA,XB,reduceIte,reduceCtorEq,XC,XD,XE,XF,XG,XH,XI,XJ,XK,XL,XM,XN,XO,XP,XQ,XR,XS,XT,XU,XV,XW,XX,XY,XZ,Y0,Try.q3,Try.q4,Try.q5,Try.q52]
  · have d0 : decide ((a.length : Int) = (b.length : Int)) = false := decide_eq_false (by omega)
    rw [decide_eq_false (fun e => hl (by rw [e]))]
    refine acalls_of_awp (fn := Try.f58) Try.call58 Try.func58 rfl (by simp [Try.ntmps58]) ?_
    simp only [Try.ntmps58, Try.results58]
    refine awp_seq (awp_vc (by kernel_rfl) ?_)
    simp -implicitDefEqProofs only [seqA_normal,seqA_ret,seqA_exit,d0,Q0,Q1,Q2,Q3,Q4,Q5,Q6,Q7,Q8,Q9,Qa,Qb,Qc,Qd,Qe,Qf,Qg,Qh,Qi,Qj,Qk,Ql,Qm,Qn,Qo,Qp,Qq,Qr,Qs,Qt,Qu,Qv,Qw,Qx,Qy,Qz,QA,QB,QC,QD,QE,QF,QG,QH,QI,QJ,QK,QL,QM,QN,QO,QP,QQ,QR,QS,QT,QU,QV,QW,QX,QY,QZ,X0,X1,X2,X3,X4,X5,X6,X7,X8,X9,Xa,Xb,Xc,Xd,Xe,Xf,Xg,Xh,Xi,Xj,Xk,Xl,Xm,Xn,Xo,Xp,Xq,Xr,Xs,Xt,Xu,Xv,Xw,Xx,Xy,Xz,XA,XB,reduceIte,reduceCtorEq,XC,XD,XE,XF,XG,XH,XI,XJ,XK,XL,XM,XN,XO,XP,XQ,XR,XS,XT,XU,XV,XW,XX,XY,XZ,Y0,Try.q3,Try.q4,Try.q5,Try.q52]
    refine awp_vc (by kernel_rfl) ?_
    simp -implicitDefEqProofs only [d0,Q0,Q1,Q2,Q3,Q4,Q5,Q6,Q7,Q8,Q9,Qa,Qb,Qc,Qd,Qe,Qf,Qg,Qh,Qi,Qj,Qk,Ql,Qm,Qn,Qo,Qp,Qq,Qr,Qs,Qt,Qu,Qv,Qw,Qx,Qy,Qz,QA,QB,QC,QD,QE,QF,QG,QH,QI,QJ,QK,QL,QM,QN,QO,QP,QQ,QR,QS,QT,QU,QV,QW,QX,QY,QZ,X0,X1,X2,X3,X4,X5,X6,X7,X8,X9,Xa,Xb,Xc,Xd,Xe,Xf,Xg,Xh,Xi,Xj,Xk,Xl,Xm,Xn,Xo,Xp,Xq,Xr,Xs,Xt,Xu,Xv,Xw,Xx,Xy,Xz,XA,XB,reduceIte,reduceCtorEq,XC,XD,XE,XF,XG,XH,XI,XJ,XK,XL,XM,XN,XO,XP,XQ,XR,XS,XT,XU,XV,XW,XX,XY,XZ,Y0,Try.q3,Try.q4,Try.q5,Try.q52]

/-! ### What is read -/

def rowsA : Nat → List (List Int) → St → List (List Int) × St
  | 0, acc, st => (acc, st)
  | k + 1, acc, st => rowsA k (acc ++ [(intsT st).1]) (intsT st).2

theorem rowsA_enc : ∀ (p acc : List (List Int)) (r : List Int), (∀ x ∈ p, x.length < 18446744073709551616 ∧ ∀ n ∈ x, In63 n) → rowsA p.length acc (.ok (p.flatMap intsE ++ r)) = (acc ++ p, .ok r)
  | [], acc, r, _ => by simp [rowsA]
  | x :: p, acc, r, h => by
    have h1 := h x (List.mem_cons_self ..)
    have h2 := rowsA_enc p (acc ++ [x]) r fun y hy => h y (List.mem_cons_of_mem _ hy)
    rw [List.flatMap_cons, List.append_assoc]
    show rowsA p.length (acc ++ [(intsT (.ok (intsE x ++ (p.flatMap intsE ++ r)))).1]) (intsT (.ok (intsE x ++ (p.flatMap intsE ++ r)))).2 = _
    rw [intsT_enc x _ h1.1 h1.2, h2, List.append_assoc]
    rfl

def decN (b : List Int) : Nat := if (intT (.ok b)).1 ≤ 64 then (intT (.ok b)).1.toNat else 0
def decR (b : List Int) : List (List Int) × St := rowsA (decN b) [] (intT (.ok b)).2

open Classical in
noncomputable def decV (b : List Int) : AV :=
  if endT (decR b).2 = 0 ∧ ((decR b).1.length : Int) = (intT (.ok b)).1 ∧ chkI (decR b).1 = 0 ∧ encP (decR b).1 = b then .tup [taxA (decR b).1, .int .i64 0] else .tup [.nilp, .int .i64 2]

theorem small_chk {p : List (List Int)} (h : chkI p = 0) : SmallP p 64 := by
  have h1 := chk_len h
  have h2 : p.any (badL p.length) = false := by
    unfold chkI at h
    split at h
    · cases h
    · split at h
      · cases h
      · simpa using (by assumption : ¬ p.any (badL p.length) = true)
  obtain ⟨h3, h4⟩ := inr_of h2
  exact ⟨by omega, fun r hr => by have := h4 r hr; omega, fun r hr x hx => by have := h3 r hr x hx; exact okk_small (by omega) (by omega)⟩

theorem decV_cases (b : List Int) : (∃ p, chkI p = 0 ∧ encP p = b ∧ decV b = .tup [taxA p, .int .i64 0]) ∨ decV b = .tup [.nilp, .int .i64 2] := by
  unfold decV
  split
  · rename_i h
    exact .inl ⟨_, h.2.2.1, h.2.2.2, rfl⟩
  · exact .inr rfl

theorem decV_enc {p : List (List Int)} {m : Nat} (hp : SmallP p m) (hm : m ≤ 64) : decV (encP p) = if chkI p = 0 then .tup [taxA p, .int .i64 0] else .tup [.nilp, .int .i64 2] := by
  have hl := hp.len
  have h1 : intT (.ok (encP p)) = ((p.length : Int), .ok (p.flatMap intsE)) := intT_enc (in63 (okk_small (by omega) (by omega))) _
  by_cases h64 : p.length ≤ 64
  · have h2 : decN (encP p) = p.length := by unfold decN; rw [h1]; simp only; rw [if_pos (by omega)]; omega
    have h3 : decR (encP p) = (p, .ok []) := by
      unfold decR
      rw [h2, h1]
      have := rowsA_enc p [] [] fun x hx => ⟨by have := hp.rows x hx; omega, fun n hn => in63 (hp.okk x hx n hn)⟩
      rw [List.append_nil, List.nil_append] at this
      exact this
    unfold decV
    rw [h3, h1]
    by_cases hc : chkI p = 0
    · rw [if_pos hc, if_pos ⟨rfl, rfl, hc, rfl⟩]
    · rw [if_neg hc, if_neg (fun h => hc h.2.2.1)]
  · have h2 : decN (encP p) = 0 := by unfold decN; rw [h1]; simp only; rw [if_neg (by omega)]
    have h3 : (decR (encP p)).1 = [] := by unfold decR; rw [h2]; rfl
    have hc : chkI p ≠ 0 := fun h => by have := chk_len h; omega
    rw [if_neg hc]
    unfold decV
    rw [if_neg]
    rintro ⟨_, h4, _⟩
    rw [h3, h1] at h4
    simp at h4
    omega

/-- What stays while rows are read of at most n bytes. -/
def SafeSt (n : Nat) : St → Prop
  | .ok l => U8s l ∧ l.length ≤ n
  | .er e => True

theorem safe_int {n : Nat} {st : St} (h : SafeSt n st) : SafeSt n (intT st).2 := by
  cases st with
  | er e => trivial
  | ok l =>
    cases hq : intT (.ok l) with
    | mk v st' =>
      cases st' with
      | er e => trivial
      | ok r =>
        have h1 := (intT_back h.1 hq).1
        have h2 := h.1
        rw [h1] at h2
        have h3 := congrArg List.length h1
        have h4 := h.2
        rw [List.length_append] at h3
        exact ⟨U8s.right h2, by omega⟩

theorem safe_ints {n : Nat} {st : St} (h : SafeSt n st) : SafeSt n (intsT st).2 ∧ (intsT st).1.length ≤ n := by
  cases st with
  | er e => exact ⟨trivial, by simp [intsT, uintT]⟩
  | ok l =>
    cases hq : intsT (.ok l) with
    | mk v st' =>
      cases st' with
      | ok r =>
        have h1 := (intsT_back h.1 hq).1
        have h2 := h.1
        rw [h1] at h2
        have h3 := congrArg List.length h1
        have h4 := h.2
        have h5 := flatMap_ge v
        simp only [intsE, List.length_append] at h3
        exact ⟨⟨U8s.right h2, by omega⟩, by simp only; omega⟩
      | er e =>
        have hm : ∀ (k : Nat) (acc l : List Int) (v : List Int) (e : Int), manyT k acc (.ok l) = (v, .er e) → v = [] := by
          intro k
          induction k with
          | zero => intro acc l v e h; simp [manyT] at h
          | succ k ih =>
            intro acc l v e h
            rw [manyT_step] at h
            cases hi : (intT (.ok l)).2 with
            | ok l' => rw [hi] at h; exact ih _ _ _ _ h
            | er e' => rw [hi, manyT_er] at h; simp at h; exact h.1
        have : v = [] := by
          unfold intsT at hq
          split at hq
          · split at hq
            · simp at hq; exact hq.1
            · exact hm _ _ _ _ _ hq
          · simp at hq; exact hq.1
        rw [this]
        exact ⟨trivial, by simp⟩

theorem keep_set {s : Store} {id : Nat} {n : Nat} {r : AV} {sz : Nat} {rs : List (List AV)} {o o' : AObj} (h : BufR s n r sz rs) (hid : s[id]? = some o) (hb : ∀ a b, o ≠ .vecR a b) : BufR (s.set id o') n r sz rs := by
  rcases h with h | ⟨k, h1, h2, h3⟩
  · exact .inl h
  · refine .inr ⟨k, h1, ?_, h3⟩
    rw [List.getElem?_set_ne (fun e => by subst e; rw [hid] at h2; cases h2; exact hb _ _ rfl)]
    exact h2

theorem rdO_box {st : St} {o : AObj} (h : RdO st o) : ∀ a b, o ≠ .vecR a b := by
  obtain ⟨l, e, h1, -⟩ := h.form
  intro a b hh
  rw [h1] at hh
  cases hh

theorem c_Decode (b : List Int) (hu : U8s b) (hl : b.length ≤ 100000) (σ : Store) : ACalls Try.prog 32 [.ints .u8 b] σ (fun r s => r = decV b ∧ s = σ) := by
  refine ACalls.frozen (ACalls.mono (R := fun r s => Ext σ s ∧ r = decV b) ?_ fun r s ⟨h1, h2⟩ => ⟨h1, by
    rw [h2]
    rcases decV_cases b with ⟨p, -, -, h3⟩ | h3
    · rw [h3]
      refine .same _ ?_
      have h := tax_lt p
      generalize taxA p = t at h
      show (t.lt 0 && (true && true)) = true
      rw [h]; rfl
    · rw [h3]; exact .same _ rfl⟩)
  obtain ⟨n, hn⟩ : ∃ n, n = (intT (.ok b)).1 := ⟨_, rfl⟩
  have hN : decN b = if n ≤ 64 then n.toNat else 0 := by rw [hn]; rfl
  obtain ⟨k, hk⟩ : ∃ k, k = decN b := ⟨_, rfl⟩
  have hk64 : k ≤ 64 := by rw [hk, hN]; split <;> omega
  refine acalls_of_awp (fn := Try.f32) Try.call32 Try.func32 rfl (by simp [Try.ntmps32]) ?_
  simp only [Try.ntmps32, Try.results32]
  refine awp_seq (awp_vc (by kernel_rfl) ?_)
  simp -implicitDefEqProofs only [seqA_normal,seqA_ret,seqA_exit,Q0,Q1,Q2,Q3,Q4,Q5,Q6,Q7,Q8,Q9,Qa,Qb,Qc,Qd,Qe,Qf,Qg,Qh,Qi,Qj,Qk,Ql,Qm,Qn,Qo,Qp,Qq,Qr,Qs,Qt,Qu,Qv,Qw,Qx,Qy,Qz,QA,QB,QC,QD,QE,QF,QG,QH,QI,QJ,QK,QL,QM,QN,QO,QP,QQ,QR,QS,QT,QU,QV,QW,QX,QY,QZ,X0,X1,X2,X3,X4,X5,X6,X7,X8,X9,Xa,Xb,Xc,Xd,Xe,Xf,Xg,Xh,Xi,Xj,Xk,Xl,Xm,Xn,Xo,Xp,Xq,Xr,Xs,Xt,Xu,Xv,Xw,Xx,Xy,Xz,XA,XB,reduceIte,reduceCtorEq,XC,XD,XE,XF,XG,XH,XI,XJ,XK,XL,XM,XN,XO,XP,XQ,XR,XS,XT,XU,XV,XW,XX,XY,XZ,Y0,Try.q3,Try.q4,Try.q5,Try.q22,Try.q23,Try.q25,Try.q26,Try.q52,Try.q55]
  refine awp_seq (awp_vc (by kernel_rfl) ?_)
  simp -implicitDefEqProofs only [seqA_normal,seqA_ret,seqA_exit,Q0,Q1,Q2,Q3,Q4,Q5,Q6,Q7,Q8,Q9,Qa,Qb,Qc,Qd,Qe,Qf,Qg,Qh,Qi,Qj,Qk,Ql,Qm,Qn,Qo,Qp,Qq,Qr,Qs,Qt,Qu,Qv,Qw,Qx,Qy,Qz,QA,QB,QC,QD,QE,QF,QG,QH,QI,QJ,QK,QL,QM,QN,QO,QP,QQ,QR,QS,QT,QU,QV,QW,QX,QY,QZ,X0,X1,X2,X3,X4,X5,X6,X7,X8,X9,Xa,Xb,Xc,Xd,Xe,Xf,Xg,Xh,Xi,Xj,Xk,Xl,Xm,Xn,Xo,Xp,Xq,Xr,Xs,Xt,Xu,Xv,Xw,Xx,Xy,Xz,XA,XB,reduceIte,reduceCtorEq,XC,XD,XE,XF,XG,XH,XI,XJ,XK,XL,XM,XN,XO,XP,XQ,XR,XS,XT,XU,XV,XW,XX,XY,XZ,Y0,Try.q3,Try.q4,Try.q5,Try.q22,Try.q23,Try.q25,Try.q26,Try.q52,Try.q55]
  refine ACalls.mono (rd_readV b (by omega)) ?_
  rintro _ s1 ⟨id, rfl, g1, g2, g3, g4⟩
  simp -implicitDefEqProofs only [seqA_normal,Q0,Q1,Q2,Q3,Q4,Q5,Q6,Q7,Q8,Q9,Qa,Qb,Qc,Qd,Qe,Qf,Qg,Qh,Qi,Qj,Qk,Ql,Qm,Qn,Qo,Qp,Qq,Qr,Qs,Qt,Qu,Qv,Qw,Qx,Qy,Qz,QA,QB,QC,QD,QE,QF,QG,QH,QI,QJ,QK,QL,QM,QN,QO,QP,QQ,QR,QS,QT,QU,QV,QW,QX,QY,QZ,X0,X1,X2,X3,X4,X5,X6,X7,X8,X9,Xa,Xb,Xc,Xd,Xe,Xf,Xg,Xh,Xi,Xj,Xk,Xl,Xm,Xn,Xo,Xp,Xq,Xr,Xs,Xt,Xu,Xv,Xw,Xx,Xy,Xz,XA,XB,reduceIte,reduceCtorEq,XC,XD,XE,XF,XG,XH,XI,XJ,XK,XL,XM,XN,XO,XP,XQ,XR,XS,XT,XU,XV,XW,XX,XY,XZ,Y0,Try.q3,Try.q4,Try.q5,Try.q22,Try.q23,Try.q25,Try.q26,Try.q52,Try.q55]
  refine awp_seq (awp_vc (by kernel_rfl) ?_)
  simp -implicitDefEqProofs only [seqA_normal,seqA_ret,seqA_exit,Q0,Q1,Q2,Q3,Q4,Q5,Q6,Q7,Q8,Q9,Qa,Qb,Qc,Qd,Qe,Qf,Qg,Qh,Qi,Qj,Qk,Ql,Qm,Qn,Qo,Qp,Qq,Qr,Qs,Qt,Qu,Qv,Qw,Qx,Qy,Qz,QA,QB,QC,QD,QE,QF,QG,QH,QI,QJ,QK,QL,QM,QN,QO,QP,QQ,QR,QS,QT,QU,QV,QW,QX,QY,QZ,X0,X1,X2,X3,X4,X5,X6,X7,X8,X9,Xa,Xb,Xc,Xd,Xe,Xf,Xg,Xh,Xi,Xj,Xk,Xl,Xm,Xn,Xo,Xp,Xq,Xr,Xs,Xt,Xu,Xv,Xw,Xx,Xy,Xz,XA,XB,reduceIte,reduceCtorEq,XC,XD,XE,XF,XG,XH,XI,XJ,XK,XL,XM,XN,XO,XP,XQ,XR,XS,XT,XU,XV,XW,XX,XY,XZ,Y0,Try.q3,Try.q4,Try.q5,Try.q22,Try.q23,Try.q25,Try.q26,Try.q52,Try.q55]
  refine ACalls.mono (rd_int' (.ok b) g3 ⟨rfl, by omega, hu⟩) ?_
  rintro _ _ ⟨rfl, o1, rfl, ho1⟩
  have sf1 : SafeSt b.length (intT (.ok b)).2 := safe_int (st := .ok b) ⟨hu, Nat.le_refl _⟩
  have hid1 := (List.getElem?_eq_some_iff.1 g3).1
  have hs1 : (s1.set id o1)[id]? = some o1 := List.getElem?_set_self hid1
  have hx1 : Ext σ (s1.set id o1) := g2.set g1 _
  have hR0 : rowsA (k - 0) [] (intT (.ok b)).2 = decR b := by rw [hk]; rfl
  rw [← hn]
  generalize (intT (.ok b)).2 = st0 at *
  generalize s1.set id o1 = s2 at *
  simp -implicitDefEqProofs only [seqA_normal,Q0,Q1,Q2,Q3,Q4,Q5,Q6,Q7,Q8,Q9,Qa,Qb,Qc,Qd,Qe,Qf,Qg,Qh,Qi,Qj,Qk,Ql,Qm,Qn,Qo,Qp,Qq,Qr,Qs,Qt,Qu,Qv,Qw,Qx,Qy,Qz,QA,QB,QC,QD,QE,QF,QG,QH,QI,QJ,QK,QL,QM,QN,QO,QP,QQ,QR,QS,QT,QU,QV,QW,QX,QY,QZ,X0,X1,X2,X3,X4,X5,X6,X7,X8,X9,Xa,Xb,Xc,Xd,Xe,Xf,Xg,Xh,Xi,Xj,Xk,Xl,Xm,Xn,Xo,Xp,Xq,Xr,Xs,Xt,Xu,Xv,Xw,Xx,Xy,Xz,XA,XB,reduceIte,reduceCtorEq,XC,XD,XE,XF,XG,XH,XI,XJ,XK,XL,XM,XN,XO,XP,XQ,XR,XS,XT,XU,XV,XW,XX,XY,XZ,Y0,Try.q3,Try.q4,Try.q5,Try.q22,Try.q23,Try.q25,Try.q26,Try.q52,Try.q55]
  clear g2 g3 g4 hid1
  refine awp_seq (awp_vc (by kernel_rfl) ?_)
  simp -implicitDefEqProofs only [seqA_normal,seqA_ret,seqA_exit,Q0,Q1,Q2,Q3,Q4,Q5,Q6,Q7,Q8,Q9,Qa,Qb,Qc,Qd,Qe,Qf,Qg,Qh,Qi,Qj,Qk,Ql,Qm,Qn,Qo,Qp,Qq,Qr,Qs,Qt,Qu,Qv,Qw,Qx,Qy,Qz,QA,QB,QC,QD,QE,QF,QG,QH,QI,QJ,QK,QL,QM,QN,QO,QP,QQ,QR,QS,QT,QU,QV,QW,QX,QY,QZ,X0,X1,X2,X3,X4,X5,X6,X7,X8,X9,Xa,Xb,Xc,Xd,Xe,Xf,Xg,Xh,Xi,Xj,Xk,Xl,Xm,Xn,Xo,Xp,Xq,Xr,Xs,Xt,Xu,Xv,Xw,Xx,Xy,Xz,XA,XB,reduceIte,reduceCtorEq,XC,XD,XE,XF,XG,XH,XI,XJ,XK,XL,XM,XN,XO,XP,XQ,XR,XS,XT,XU,XV,XW,XX,XY,XZ,Y0,Try.q3,Try.q4,Try.q5,Try.q22,Try.q23,Try.q25,Try.q26,Try.q52,Try.q55]
  refine awp_cutK (fun e' s => ∃ r acc st, Ext σ s ∧ (∃ o, s[id]? = some o ∧ RdO st o) ∧ BufR s (id + 1) r 1 (acc.map rowI) ∧ acc.length ≤ 64 ∧ (∀ r ∈ acc, r.length ≤ b.length) ∧ decR b = (acc, st) ∧ Env.sub [(5, .int .i64 n), (6, r), (4, .ptr id 0), (0, .ints .u8 b)] e') ?_ ?_
  · refine awp_seq (awp_vc (by kernel_rfl) ?_)
    simp -implicitDefEqProofs only [seqA_normal,seqA_ret,seqA_exit,Q0,Q1,Q2,Q3,Q4,Q5,Q6,Q7,Q8,Q9,Qa,Qb,Qc,Qd,Qe,Qf,Qg,Qh,Qi,Qj,Qk,Ql,Qm,Qn,Qo,Qp,Qq,Qr,Qs,Qt,Qu,Qv,Qw,Qx,Qy,Qz,QA,QB,QC,QD,QE,QF,QG,QH,QI,QJ,QK,QL,QM,QN,QO,QP,QQ,QR,QS,QT,QU,QV,QW,QX,QY,QZ,X0,X1,X2,X3,X4,X5,X6,X7,X8,X9,Xa,Xb,Xc,Xd,Xe,Xf,Xg,Xh,Xi,Xj,Xk,Xl,Xm,Xn,Xo,Xp,Xq,Xr,Xs,Xt,Xu,Xv,Xw,Xx,Xy,Xz,XA,XB,reduceIte,reduceCtorEq,XC,XD,XE,XF,XG,XH,XI,XJ,XK,XL,XM,XN,XO,XP,XQ,XR,XS,XT,XU,XV,XW,XX,XY,XZ,Y0,Try.q3,Try.q4,Try.q5,Try.q22,Try.q23,Try.q25,Try.q26,Try.q52,Try.q55]
    refine awp_blk ?_
    refine awp_loopW (fun q : Nat × AV × List (List Int) × St => [(7, .int .i64 q.1), (5, .int .i64 n), (6, q.2.1), (4, .ptr id 0), (0, .ints .u8 b)])
      (fun q s => q.1 ≤ k ∧ Ext σ s ∧ (∃ o, s[id]? = some o ∧ RdO q.2.2.2 o) ∧ SafeSt b.length q.2.2.2 ∧ BufR s (id + 1) q.2.1 1 (q.2.2.1.map rowI) ∧ q.2.2.1.length = q.1 ∧ (∀ r ∈ q.2.2.1, r.length ≤ b.length) ∧ rowsA (k - q.1) q.2.2.1 q.2.2.2 = decR b)
      (fun q => k - q.1) (0, .nils, [], st0) (by simp [sub_cons, sub_nil, get_cons]) ⟨by simp, hx1, ⟨o1, hs1, ho1⟩, sf1, .inl ⟨.inl rfl, rfl⟩, rfl, by simp, hR0⟩ ?_
    clear hs1 hx1 hR0 sf1 ho1 s2 st0
    rintro ⟨i, r, acc, st⟩ s ⟨hi, hx, ⟨o, hs, ho⟩, hsf, hbuf, hal, har, hR⟩
    simp only at hi hs ho hsf hbuf hal har hR
    by_cases hlt : i < k
    · have hn64 : n ≤ 64 := by
        by_cases h : n ≤ 64
        · exact h
        · rw [if_neg h] at hN; omega
      have hkn : k = n.toNat := by rw [hk, hN, if_pos hn64]
      have d1 : decide ((i : Int) < n) = true := decide_eq_true (by omega)
      have d2 : decide (n ≤ 64) = true := decide_eq_true hn64
      have wi : IntKind.i64.wrap ((i : Int) + 1) = ((i + 1 : Nat) : Int) := by rw [wrap_i64 (by omega) (by omega)]; rfl
      have hst := safe_ints hsf
      have hR2 : rowsA (k - (i + 1)) (acc ++ [(intsT st).1]) (intsT st).2 = decR b := by
        rw [← hR, show k - i = (k - (i + 1)) + 1 by omega]; rfl
      have hidl := (List.getElem?_eq_some_iff.1 hs).1
      refine awp_vc (by kernel_rfl) ?_
      simp -implicitDefEqProofs only [d1,d2,Q0,Q1,Q2,Q3,Q4,Q5,Q6,Q7,Q8,Q9,Qa,Qb,Qc,Qd,Qe,Qf,Qg,Qh,Qi,Qj,Qk,Ql,Qm,Qn,Qo,Qp,Qq,Qr,Qs,Qt,Qu,Qv,Qw,Qx,Qy,Qz,QA,QB,QC,QD,QE,QF,QG,QH,QI,QJ,QK,QL,QM,QN,QO,QP,QQ,QR,QS,QT,QU,QV,QW,QX,QY,QZ,X0,X1,X2,X3,X4,X5,X6,X7,X8,X9,Xa,Xb,Xc,Xd,Xe,Xf,Xg,Xh,Xi,Xj,Xk,Xl,Xm,Xn,Xo,Xp,Xq,Xr,Xs,Xt,Xu,Xv,Xw,Xx,Xy,Xz,XA,XB,reduceIte,reduceCtorEq,XC,XD,XE,XF,XG,XH,XI,XJ,XK,XL,XM,XN,XO,XP,XQ,XR,XS,XT,XU,XV,XW,XX,XY,XZ,Y0,Try.q3,Try.q4,Try.q5,Try.q22,Try.q23,Try.q25,Try.q26,Try.q52,Try.q55]
      refine ACalls.mono (rd_ints' st hs ho) ?_
      rintro _ _ ⟨rfl, o2, rfl, ho2⟩
      have hs2 : (s.set id o2)[id]? = some o2 := List.getElem?_set_self hidl
      have hx2 : Ext σ (s.set id o2) := hx.set g1 _
      have hb2 : BufR (s.set id o2) (id + 1) r 1 (acc.map rowI) := keep_set hbuf hs (rdO_box ho)
      have hl2 : id + 1 ≤ (s.set id o2).length := by simp; omega
      generalize (intsT st).1 = row at *
      generalize (intsT st).2 = st2 at *
      generalize s.set id o2 = s2 at *
      have htl : (s2.take (id + 1)).length = id + 1 := take_len hl2
      simp -implicitDefEqProofs only [Q0,Q1,Q2,Q3,Q4,Q5,Q6,Q7,Q8,Q9,Qa,Qb,Qc,Qd,Qe,Qf,Qg,Qh,Qi,Qj,Qk,Ql,Qm,Qn,Qo,Qp,Qq,Qr,Qs,Qt,Qu,Qv,Qw,Qx,Qy,Qz,QA,QB,QC,QD,QE,QF,QG,QH,QI,QJ,QK,QL,QM,QN,QO,QP,QQ,QR,QS,QT,QU,QV,QW,QX,QY,QZ,X0,X1,X2,X3,X4,X5,X6,X7,X8,X9,Xa,Xb,Xc,Xd,Xe,Xf,Xg,Xh,Xi,Xj,Xk,Xl,Xm,Xn,Xo,Xp,Xq,Xr,Xs,Xt,Xu,Xv,Xw,Xx,Xy,Xz,XA,XB,reduceIte,reduceCtorEq,XC,XD,XE,XF,XG,XH,XI,XJ,XK,XL,XM,XN,XO,XP,XQ,XR,XS,XT,XU,XV,XW,XX,XY,XZ,Y0,Try.q3,Try.q4,Try.q5,Try.q22,Try.q23,Try.q25,Try.q26,Try.q52,Try.q55]
      refine append_bufR2 (σ := s2.take (id + 1)) (l' := [rowI row]) Try.sl23 (by simp [Try.bt22]) (take_ext s2 _) (by rw [htl]; exact hb2) rfl (by intro r hr; simp at hr; subst hr; rfl) (by simp only [appFits, Try.bt22, List.length_cons, List.length_nil, List.length_map]; omega) fun r3 s3 hx3 hb3 hk3 => ?_
      rw [htl] at hb3
      have hs3 : s3[id]? = some o2 := hk3 id _ hs2 (rdO_box ho2)
      have hx4 : Ext σ s3 := fun j y hj => by
        have hjl := (List.getElem?_eq_some_iff.1 hj).1
        refine hx3 j y ?_
        rw [List.getElem?_take, if_pos (by omega)]
        exact hx2 j y hj
      simp -implicitDefEqProofs only [wi,Q0,Q1,Q2,Q3,Q4,Q5,Q6,Q7,Q8,Q9,Qa,Qb,Qc,Qd,Qe,Qf,Qg,Qh,Qi,Qj,Qk,Ql,Qm,Qn,Qo,Qp,Qq,Qr,Qs,Qt,Qu,Qv,Qw,Qx,Qy,Qz,QA,QB,QC,QD,QE,QF,QG,QH,QI,QJ,QK,QL,QM,QN,QO,QP,QQ,QR,QS,QT,QU,QV,QW,QX,QY,QZ,X0,X1,X2,X3,X4,X5,X6,X7,X8,X9,Xa,Xb,Xc,Xd,Xe,Xf,Xg,Xh,Xi,Xj,Xk,Xl,Xm,Xn,Xo,Xp,Xq,Xr,Xs,Xt,Xu,Xv,Xw,Xx,Xy,Xz,XA,XB,reduceIte,reduceCtorEq,XC,XD,XE,XF,XG,XH,XI,XJ,XK,XL,XM,XN,XO,XP,XQ,XR,XS,XT,XU,XV,XW,XX,XY,XZ,Y0,Try.q3,Try.q4,Try.q5,Try.q22,Try.q23,Try.q25,Try.q26,Try.q52,Try.q55]
      refine ⟨(i + 1, r3, acc ++ [row], st2), by simp [sub_cons, sub_nil, get_cons], ⟨by simp only; omega, hx4, ⟨o2, hs3, ho2⟩, hst.1, by simp only; rw [List.map_append]; exact hb3, by simp [hal], fun x hx => ?_, hR2⟩, by simp only; omega⟩
      rcases List.mem_append.1 hx with h | h
      · exact har x h
      · simp at h; subst h; exact hst.2
    have hik : i = k := by omega
    subst hik
    rw [Nat.sub_self] at hR
    have hfin : decR b = (acc, st) := hR.symm
    by_cases hn64 : n ≤ 64
    · have hkn : i = n.toNat := by rw [hk, hN, if_pos hn64]
      have d1 : decide ((i : Int) < n) = false := decide_eq_false (by omega)
      refine awp_vc (by kernel_rfl) ?_
      simp -implicitDefEqProofs only [d1,seqA_normal,cutK_normal,Q0,Q1,Q2,Q3,Q4,Q5,Q6,Q7,Q8,Q9,Qa,Qb,Qc,Qd,Qe,Qf,Qg,Qh,Qi,Qj,Qk,Ql,Qm,Qn,Qo,Qp,Qq,Qr,Qs,Qt,Qu,Qv,Qw,Qx,Qy,Qz,QA,QB,QC,QD,QE,QF,QG,QH,QI,QJ,QK,QL,QM,QN,QO,QP,QQ,QR,QS,QT,QU,QV,QW,QX,QY,QZ,X0,X1,X2,X3,X4,X5,X6,X7,X8,X9,Xa,Xb,Xc,Xd,Xe,Xf,Xg,Xh,Xi,Xj,Xk,Xl,Xm,Xn,Xo,Xp,Xq,Xr,Xs,Xt,Xu,Xv,Xw,Xx,Xy,Xz,XA,XB,reduceIte,reduceCtorEq,XC,XD,XE,XF,XG,XH,XI,XJ,XK,XL,XM,XN,XO,XP,XQ,XR,XS,XT,XU,XV,XW,XX,XY,XZ,Y0,Try.q3,Try.q4,Try.q5,Try.q22,Try.q23,Try.q25,Try.q26,Try.q52,Try.q55]
      exact ⟨r, acc, st, hx, ⟨o, hs, ho⟩, hbuf, by omega, har, hfin, by simp [sub_cons, sub_nil, get_cons]⟩
    · have d2 : decide (n ≤ 64) = false := decide_eq_false hn64
      have d1 : decide ((i : Int) < n) = true := decide_eq_true (by rw [if_neg hn64] at hN; omega)
      refine awp_vc (by kernel_rfl) ?_
      simp -implicitDefEqProofs only [d1,d2,seqA_normal,cutK_normal,Q0,Q1,Q2,Q3,Q4,Q5,Q6,Q7,Q8,Q9,Qa,Qb,Qc,Qd,Qe,Qf,Qg,Qh,Qi,Qj,Qk,Ql,Qm,Qn,Qo,Qp,Qq,Qr,Qs,Qt,Qu,Qv,Qw,Qx,Qy,Qz,QA,QB,QC,QD,QE,QF,QG,QH,QI,QJ,QK,QL,QM,QN,QO,QP,QQ,QR,QS,QT,QU,QV,QW,QX,QY,QZ,X0,X1,X2,X3,X4,X5,X6,X7,X8,X9,Xa,Xb,Xc,Xd,Xe,Xf,Xg,Xh,Xi,Xj,Xk,Xl,Xm,Xn,Xo,Xp,Xq,Xr,Xs,Xt,Xu,Xv,Xw,Xx,Xy,Xz,XA,XB,reduceIte,reduceCtorEq,XC,XD,XE,XF,XG,XH,XI,XJ,XK,XL,XM,XN,XO,XP,XQ,XR,XS,XT,XU,XV,XW,XX,XY,XZ,Y0,Try.q3,Try.q4,Try.q5,Try.q22,Try.q23,Try.q25,Try.q26,Try.q52,Try.q55]
      exact ⟨r, acc, st, hx, ⟨o, hs, ho⟩, hbuf, by omega, har, hfin, by simp [sub_cons, sub_nil, get_cons]⟩
  rintro e' s ⟨r, acc, st, hx, ⟨o, hs, ho⟩, hbuf, hal, har, hR', he⟩
  refine awp_sub _ he ?_
  clear he e'
  have hV : decV b = if endT st = 0 ∧ (acc.length : Int) = n ∧ chkI acc = 0 ∧ encP acc = b then .tup [taxA acc, .int .i64 0] else .tup [.nilp, .int .i64 2] := by
    unfold decV; rw [hR', hn]
  rw [hV]
  clear hV hR'
  have hml : (acc.map rowI).length = acc.length := by simp
  have hkl : id + 1 ≤ s.length := by have := (List.getElem?_eq_some_iff.1 hs).1; omega
  refine awp_kill (id + 1) s.length hkl (Nat.le_refl _) [(5, .int .i64 n), (6, .rows 1 (acc.map rowI)), (4, .ptr id 0), (0, .ints .u8 b)]
    ⟨⟨_, rfl, .same _⟩, ⟨_, rfl, hbuf.sh (Nat.le_refl _) rfl (rowI_len _) fun i x y h1 h2 => by rw [h1] at h2; cases h2; exact .same _⟩, ⟨_, rfl, .same _⟩, ⟨_, rfl, .same _⟩, trivial⟩ ?_
  have hx4 : Ext σ (killS s (id + 1) s.length) := killS_ext hx hkl (Nat.le_refl _) (by omega)
  have hs4 : (killS s (id + 1) s.length)[id]? = some o := by rw [killS_get hkl (Nat.le_refl _) (by omega)]; exact hs
  generalize killS s (id + 1) s.length = s4 at hx4 hs4
  have ke := rd_end' st hs4 ho
  have kn := c_New acc (by omega) (fun r hr => by have := har r hr; omega) s4
  rw [newV_chk] at kn
  refine awp_vc (by kernel_rfl) ?_
  simp -implicitDefEqProofs only [Q0,Q1,Q2,Q3,Q4,Q5,Q6,Q7,Q8,Q9,Qa,Qb,Qc,Qd,Qe,Qf,Qg,Qh,Qi,Qj,Qk,Ql,Qm,Qn,Qo,Qp,Qq,Qr,Qs,Qt,Qu,Qv,Qw,Qx,Qy,Qz,QA,QB,QC,QD,QE,QF,QG,QH,QI,QJ,QK,QL,QM,QN,QO,QP,QQ,QR,QS,QT,QU,QV,QW,QX,QY,QZ,X0,X1,X2,X3,X4,X5,X6,X7,X8,X9,Xa,Xb,Xc,Xd,Xe,Xf,Xg,Xh,Xi,Xj,Xk,Xl,Xm,Xn,Xo,Xp,Xq,Xr,Xs,Xt,Xu,Xv,Xw,Xx,Xy,Xz,XA,XB,reduceIte,reduceCtorEq,XC,XD,XE,XF,XG,XH,XI,XJ,XK,XL,XM,XN,XO,XP,XQ,XR,XS,XT,XU,XV,XW,XX,XY,XZ,Y0,Try.q3,Try.q4,Try.q5,Try.q22,Try.q23,Try.q25,Try.q26,Try.q52,Try.q55]
  by_cases h1 : endT st = 0
  · have d1 : decide (endT st = 0) = true := decide_eq_true h1
    by_cases h2 : (acc.length : Int) = n
    · have d2 : decide ((acc.length : Int) = n) = true := decide_eq_true h2
      refine acalls_then (ke) ?_
      simp -implicitDefEqProofs only [hml,d1,d2,Q0,Q1,Q2,Q3,Q4,Q5,Q6,Q7,Q8,Q9,Qa,Qb,Qc,Qd,Qe,Qf,Qg,Qh,Qi,Qj,Qk,Ql,Qm,Qn,Qo,Qp,Qq,Qr,Qs,Qt,Qu,Qv,Qw,Qx,Qy,Qz,QA,QB,QC,QD,QE,QF,QG,QH,QI,QJ,QK,QL,QM,QN,QO,QP,QQ,QR,QS,QT,QU,QV,QW,QX,QY,QZ,X0,X1,X2,X3,X4,X5,X6,X7,X8,X9,Xa,Xb,Xc,Xd,Xe,Xf,Xg,Xh,Xi,Xj,Xk,Xl,Xm,Xn,Xo,Xp,Xq,Xr,Xs,Xt,Xu,Xv,Xw,Xx,Xy,Xz,XA,XB,reduceIte,reduceCtorEq,XC,XD,XE,XF,XG,XH,XI,XJ,XK,XL,XM,XN,XO,XP,XQ,XR,XS,XT,XU,XV,XW,XX,XY,XZ,Y0,Try.q3,Try.q4,Try.q5,Try.q22,Try.q23,Try.q25,Try.q26,Try.q52,Try.q55]
      by_cases h3 : chkI acc = 0
      · rw [h3] at kn
        rw [if_pos rfl] at kn
        have d3 : decide ((0 : Int) = 0) = true := rfl
        have kc := ACalls.freshFrozen (c_Encode acc (Nat.le_refl 64) (small_chk h3) s4)
        have kq := c_eqB (encP acc) b (by have := (encP_len (small_chk h3) (Nat.le_refl 64)).2; omega) s4
        obtain ⟨cs, hcs⟩ : ∃ cs, taxA acc = .iptr cs := ⟨_, rfl⟩
        rw [hcs] at kn kc
        refine acalls_then (kn) ?_
        simp -implicitDefEqProofs only [d3,Q0,Q1,Q2,Q3,Q4,Q5,Q6,Q7,Q8,Q9,Qa,Qb,Qc,Qd,Qe,Qf,Qg,Qh,Qi,Qj,Qk,Ql,Qm,Qn,Qo,Qp,Qq,Qr,Qs,Qt,Qu,Qv,Qw,Qx,Qy,Qz,QA,QB,QC,QD,QE,QF,QG,QH,QI,QJ,QK,QL,QM,QN,QO,QP,QQ,QR,QS,QT,QU,QV,QW,QX,QY,QZ,X0,X1,X2,X3,X4,X5,X6,X7,X8,X9,Xa,Xb,Xc,Xd,Xe,Xf,Xg,Xh,Xi,Xj,Xk,Xl,Xm,Xn,Xo,Xp,Xq,Xr,Xs,Xt,Xu,Xv,Xw,Xx,Xy,Xz,XA,XB,reduceIte,reduceCtorEq,XC,XD,XE,XF,XG,XH,XI,XJ,XK,XL,XM,XN,XO,XP,XQ,XR,XS,XT,XU,XV,XW,XX,XY,XZ,Y0,Try.q3,Try.q4,Try.q5,Try.q22,Try.q23,Try.q25,Try.q26,Try.q52,Try.q55]
        refine acalls_then (kc) ?_
        simp -implicitDefEqProofs only [Q0,Q1,Q2,Q3,Q4,Q5,Q6,Q7,Q8,Q9,Qa,Qb,Qc,Qd,Qe,Qf,Qg,Qh,Qi,Qj,Qk,Ql,Qm,Qn,Qo,Qp,Qq,Qr,Qs,Qt,Qu,Qv,Qw,Qx,Qy,Qz,QA,QB,QC,QD,QE,QF,QG,QH,QI,QJ,QK,QL,QM,QN,QO,QP,QQ,QR,QS,QT,QU,QV,QW,QX,QY,QZ,X0,X1,X2,X3,X4,X5,X6,X7,X8,X9,Xa,Xb,Xc,Xd,Xe,Xf,Xg,Xh,Xi,Xj,Xk,Xl,Xm,Xn,Xo,Xp,Xq,Xr,Xs,Xt,Xu,Xv,Xw,Xx,Xy,Xz,XA,XB,reduceIte,reduceCtorEq,XC,XD,XE,XF,XG,XH,XI,XJ,XK,XL,XM,XN,XO,XP,XQ,XR,XS,XT,XU,XV,XW,XX,XY,XZ,Y0,Try.q3,Try.q4,Try.q5,Try.q22,Try.q23,Try.q25,Try.q26,Try.q52,Try.q55]
        by_cases h4 : encP acc = b
        · rw [decide_eq_true h4] at kq
          rw [if_pos ⟨h1, h2, h3, h4⟩, hcs]
          refine acalls_then (kq) ?_
          simp -implicitDefEqProofs only [Q0,Q1,Q2,Q3,Q4,Q5,Q6,Q7,Q8,Q9,Qa,Qb,Qc,Qd,Qe,Qf,Qg,Qh,Qi,Qj,Qk,Ql,Qm,Qn,Qo,Qp,Qq,Qr,Qs,Qt,Qu,Qv,Qw,Qx,Qy,Qz,QA,QB,QC,QD,QE,QF,QG,QH,QI,QJ,QK,QL,QM,QN,QO,QP,QQ,QR,QS,QT,QU,QV,QW,QX,QY,QZ,X0,X1,X2,X3,X4,X5,X6,X7,X8,X9,Xa,Xb,Xc,Xd,Xe,Xf,Xg,Xh,Xi,Xj,Xk,Xl,Xm,Xn,Xo,Xp,Xq,Xr,Xs,Xt,Xu,Xv,Xw,Xx,Xy,Xz,XA,XB,reduceIte,reduceCtorEq,XC,XD,XE,XF,XG,XH,XI,XJ,XK,XL,XM,XN,XO,XP,XQ,XR,XS,XT,XU,XV,XW,XX,XY,XZ,Y0,Try.q3,Try.q4,Try.q5,Try.q22,Try.q23,Try.q25,Try.q26,Try.q52,Try.q55]
          exact hx4
        · rw [decide_eq_false h4] at kq
          rw [if_neg (fun h => h4 h.2.2.2)]
          refine acalls_then (kq) ?_
          simp -implicitDefEqProofs only [Q0,Q1,Q2,Q3,Q4,Q5,Q6,Q7,Q8,Q9,Qa,Qb,Qc,Qd,Qe,Qf,Qg,Qh,Qi,Qj,Qk,Ql,Qm,Qn,Qo,Qp,Qq,Qr,Qs,Qt,Qu,Qv,Qw,Qx,Qy,Qz,QA,QB,QC,QD,QE,QF,QG,QH,QI,QJ,QK,QL,QM,QN,QO,QP,QQ,QR,QS,QT,QU,QV,QW,QX,QY,QZ,X0,X1,X2,X3,X4,X5,X6,X7,X8,X9,Xa,Xb,Xc,Xd,Xe,Xf,Xg,Xh,Xi,Xj,Xk,Xl,Xm,Xn,Xo,Xp,Xq,Xr,Xs,Xt,Xu,Xv,Xw,Xx,Xy,Xz,XA,XB,reduceIte,reduceCtorEq,XC,XD,XE,XF,XG,XH,XI,XJ,XK,XL,XM,XN,XO,XP,XQ,XR,XS,XT,XU,XV,XW,XX,XY,XZ,Y0,Try.q3,Try.q4,Try.q5,Try.q22,Try.q23,Try.q25,Try.q26,Try.q52,Try.q55]
          exact hx4
      · rw [if_neg (fun h => h3 h.2.2.1)]
        rw [if_neg h3] at kn
        have d3 : decide (chkI acc = 0) = false := decide_eq_false h3
        generalize chkI acc = c at *
        refine acalls_then (kn) ?_
        simp -implicitDefEqProofs only [d3,Q0,Q1,Q2,Q3,Q4,Q5,Q6,Q7,Q8,Q9,Qa,Qb,Qc,Qd,Qe,Qf,Qg,Qh,Qi,Qj,Qk,Ql,Qm,Qn,Qo,Qp,Qq,Qr,Qs,Qt,Qu,Qv,Qw,Qx,Qy,Qz,QA,QB,QC,QD,QE,QF,QG,QH,QI,QJ,QK,QL,QM,QN,QO,QP,QQ,QR,QS,QT,QU,QV,QW,QX,QY,QZ,X0,X1,X2,X3,X4,X5,X6,X7,X8,X9,Xa,Xb,Xc,Xd,Xe,Xf,Xg,Xh,Xi,Xj,Xk,Xl,Xm,Xn,Xo,Xp,Xq,Xr,Xs,Xt,Xu,Xv,Xw,Xx,Xy,Xz,XA,XB,reduceIte,reduceCtorEq,XC,XD,XE,XF,XG,XH,XI,XJ,XK,XL,XM,XN,XO,XP,XQ,XR,XS,XT,XU,XV,XW,XX,XY,XZ,Y0,Try.q3,Try.q4,Try.q5,Try.q22,Try.q23,Try.q25,Try.q26,Try.q52,Try.q55]
        exact hx4
    · have d2 : decide ((acc.length : Int) = n) = false := decide_eq_false h2
      rw [if_neg (fun h => h2 h.2.1)]
      refine acalls_then (ke) ?_
      simp -implicitDefEqProofs only [hml,d1,d2,Q0,Q1,Q2,Q3,Q4,Q5,Q6,Q7,Q8,Q9,Qa,Qb,Qc,Qd,Qe,Qf,Qg,Qh,Qi,Qj,Qk,Ql,Qm,Qn,Qo,Qp,Qq,Qr,Qs,Qt,Qu,Qv,Qw,Qx,Qy,Qz,QA,QB,QC,QD,QE,QF,QG,QH,QI,QJ,QK,QL,QM,QN,QO,QP,QQ,QR,QS,QT,QU,QV,QW,QX,QY,QZ,X0,X1,X2,X3,X4,X5,X6,X7,X8,X9,Xa,Xb,Xc,Xd,Xe,Xf,Xg,Xh,Xi,Xj,Xk,Xl,Xm,Xn,Xo,Xp,Xq,Xr,Xs,Xt,Xu,Xv,Xw,Xx,Xy,Xz,XA,XB,reduceIte,reduceCtorEq,XC,XD,XE,XF,XG,XH,XI,XJ,XK,XL,XM,XN,XO,XP,XQ,XR,XS,XT,XU,XV,XW,XX,XY,XZ,Y0,Try.q3,Try.q4,Try.q5,Try.q22,Try.q23,Try.q25,Try.q26,Try.q52,Try.q55]
      exact hx4
  · have d1 : decide (endT st = 0) = false := decide_eq_false h1
    rw [if_neg (fun h => h1 h.1)]
    refine acalls_then (ke) ?_
    simp -implicitDefEqProofs only [d1,Q0,Q1,Q2,Q3,Q4,Q5,Q6,Q7,Q8,Q9,Qa,Qb,Qc,Qd,Qe,Qf,Qg,Qh,Qi,Qj,Qk,Ql,Qm,Qn,Qo,Qp,Qq,Qr,Qs,Qt,Qu,Qv,Qw,Qx,Qy,Qz,QA,QB,QC,QD,QE,QF,QG,QH,QI,QJ,QK,QL,QM,QN,QO,QP,QQ,QR,QS,QT,QU,QV,QW,QX,QY,QZ,X0,X1,X2,X3,X4,X5,X6,X7,X8,X9,Xa,Xb,Xc,Xd,Xe,Xf,Xg,Xh,Xi,Xj,Xk,Xl,Xm,Xn,Xo,Xp,Xq,Xr,Xs,Xt,Xu,Xv,Xw,Xx,Xy,Xz,XA,XB,reduceIte,reduceCtorEq,XC,XD,XE,XF,XG,XH,XI,XJ,XK,XL,XM,XN,XO,XP,XQ,XR,XS,XT,XU,XV,XW,XX,XY,XZ,Y0,Try.q3,Try.q4,Try.q5,Try.q22,Try.q23,Try.q25,Try.q26,Try.q52,Try.q55]
    exact hx4

end Go.Proofs
