/-
  A number picked from a list; contract.
-/
import Derived.Test.YteejpckkgepecaaHa
namespace Go.Proofs
open Go.Pa
open Go.Pa renaming VB0 → Q0, VB1 → Q1, VB2 → Q2, VB3 → Q3, VB4 → Q4, VB5 → Q5, VB6 → Q6, VB7 → Q7, condV_bool → Q8, guardV_bool → Q9, vcS → Qa, evA → Qb, evBin → Qc, nilA → Qd, nilOf → Qe, intOp → Qf, strOp → Qg, evUn → Qh, evConv → Qi, evField → Qj, evFieldAddr → Qk, evIndexAddr → Ql, evIndex → Qm, evIndexA → Qn, bnd → Qo, evSlice → Qp, evLen → Qq, evPick → Qr, evExtract → Qs, evNilCheck → Qt, evMin → Qu, evMax → Qv, evLoadI → Qw, partsOne → Qy, intsOf → Qz, rowsAV → QA, evBuildSlice → QB, evBuild → QC, fillA → QD, splice → QE, evBuiltin → QF, guardD_bool → QG, dOp → QH, cl → QI, vcLoad → QJ, vcStore → QK, vcMake → QL, convA → QM, evIndexArr → QN, retA → QO, ressA → QP, resA → QQ, envOf → QR, condR_bool → QV, asgEnv → QW, parEnv → QX, dstAt → XG, vcLook → XR, vcPut → XS, vcEnt → XT, vcESt → XU, vcMLen → XV, vcDel → XW, vcClear → XX, vcLookD → XY
open Go.Pa.AV renaming cell → Qx
open Go.Pa.Env renaming put → QS
open List renaming set_cons_zero → QT, set_cons_succ → QU, foldl_cons → QY, foldl_nil → QZ, map_cons → X0, map_nil → X1, toList_toArray → X2, getElem?_cons_zero → X3, getElem?_cons_succ → X4, nil_append → X8, append_nil → X9, cons_append → Xa, singleton_append → Xb, length_cons → Xc, length_nil → Xd, all_cons → Xe, all_nil → Xf, take_succ_cons → Xg, take_zero → Xh, take_nil → Xi, drop_zero → Xj, drop_succ_cons → Xk, drop_nil → Xl, contains_nil → Xm, contains_cons → Xn
open Option renaming bind_some → X5, map_some → X6, map_none → X7
open Bool renaming or_false → Xo, false_or → Xp, or_true → Xq, true_or → Xr, false_eq_true → XA, not_true → XB, not_false → XC, and_true → XD, true_and → XE, and_self → XF
open Nat renaming reduceEqDiff → Xs, reduceAdd → Xt, reduceSub → Xu, reduceMul → Xv, reduceLT → Xw, reduceLeDiff → Xx, reduceBNe → Xy, reduceBEq → Xz, zero_add → XJ, add_zero → XK
open UInt8 renaming reduceToNat → XH
open Int renaming cast_ofNat_Int → XI, reduceToNat → XL, reduceLT → XM, reduceLE → XN, reduceNeg → XO, reduceEq → XP, reduceNe → XQ
set_option linter.unusedSimpArgs false
set_option maxRecDepth 20000
set_option maxHeartbeats 2000000

def pickI (l : List Int) (i m : Int) : Int := if i < 0 ∨ (l.length : Int) ≤ i then 0 else aroundI (l.getD i.toNat 0) m

theorem r_pick (l : List Int) (i m : Int) (hm : m ≠ 0) (σ : Store) : ACalls Try.prog 25 [.ints .i64 l, .int .i64 i, .int .i64 m] σ (fun r s => r = .int .i64 (pickI l i m) ∧ s = σ) := by
  unfold pickI
  by_cases h0 : i < 0
  · have d0 : decide (i < 0) = true := decide_eq_true h0
    rw [if_pos (.inl h0)]
    refine acalls_of_vc (fn := Try.f25) Try.call25 Try.func25 rfl (by kernel_rfl) (by simp [Try.ntmps25]) ?_; simp -implicitDefEqProofs only [Try.ntmps25,Try.results25,Q0,Q1,Q2,Q3,Q4,Q5,Q6,Q7,Q8,Q9,Qa,Qb,Qc,Qd,Qe,Qf,Qg,Qh,Qi,Qj,Qk,Ql,Qm,Qn,Qo,Qp,Qq,Qr,Qs,Qt,Qu,Qv,Qw,Qx,Qy,Qz,QA,QB,QC,QD,QE,QF,QG,QH,QI,QJ,QK,QL,QM,QN,QO,QP,QQ,QR,QS,QT,QU,QV,QW,QX,QY,QZ,X0,X1,X2,X3,X4,X5,X6,X7,X8,X9,Xa,Xb,Xc,Xd,Xe,Xf,Xg,Xh,Xi,Xj,Xk,Xl,Xm,Xn,Xo,Xp,Xq,Xr,Xs,Xt,Xu,Xv,Xw,Xx,Xy,Xz,reduceIte,reduceCtorEq,ite_true,ite_false,if_true,if_false,XA,XB,XC,XD,XE,XF,and_true,true_and,and_self,true_imp_iff,false_imp_iff,eq_self,not_true_eq_false,not_false_eq_true,ne_eq,decide_true,decide_false,XG,XH,XI,XJ,XK,XL,XM,XN,XO,XP,XQ,XR,XS,XT,XU,XV,XW,XX,XY,Try.underlying3,Try.q3,Try.underlying4,Try.q4,Try.underlying22,Try.q22]
    simp -implicitDefEqProofs only [d0,Q0,Q1,Q2,Q3,Q4,Q5,Q6,Q7,Q8,Q9,Qa,Qb,Qc,Qd,Qe,Qf,Qg,Qh,Qi,Qj,Qk,Ql,Qm,Qn,Qo,Qp,Qq,Qr,Qs,Qt,Qu,Qv,Qw,Qx,Qy,Qz,QA,QB,QC,QD,QE,QF,QG,QH,QI,QJ,QK,QL,QM,QN,QO,QP,QQ,QR,QS,QT,QU,QV,QW,QX,QY,QZ,X0,X1,X2,X3,X4,X5,X6,X7,X8,X9,Xa,Xb,Xc,Xd,Xe,Xf,Xg,Xh,Xi,Xj,Xk,Xl,Xm,Xn,Xo,Xp,Xq,Xr,Xs,Xt,Xu,Xv,Xw,Xx,Xy,Xz,reduceIte,reduceCtorEq,ite_true,ite_false,if_true,if_false,XA,XB,XC,XD,XE,XF,and_true,true_and,and_self,true_imp_iff,false_imp_iff,eq_self,not_true_eq_false,not_false_eq_true,ne_eq,decide_true,decide_false,XG,XH,XI,XJ,XK,XL,XM,XN,XO,XP,XQ,XR,XS,XT,XU,XV,XW,XX,XY,Try.underlying3,Try.q3,Try.underlying4,Try.q4,Try.underlying22,Try.q22]
  have d0 : decide (i < 0) = false := decide_eq_false h0
  by_cases h1 : (l.length : Int) ≤ i
  · have d1 : decide ((l.length : Int) ≤ i) = true := decide_eq_true h1
    rw [if_pos (.inr h1)]
    refine acalls_of_vc (fn := Try.f25) Try.call25 Try.func25 rfl (by kernel_rfl) (by simp [Try.ntmps25]) ?_; simp -implicitDefEqProofs only [Try.ntmps25,Try.results25,Q0,Q1,Q2,Q3,Q4,Q5,Q6,Q7,Q8,Q9,Qa,Qb,Qc,Qd,Qe,Qf,Qg,Qh,Qi,Qj,Qk,Ql,Qm,Qn,Qo,Qp,Qq,Qr,Qs,Qt,Qu,Qv,Qw,Qx,Qy,Qz,QA,QB,QC,QD,QE,QF,QG,QH,QI,QJ,QK,QL,QM,QN,QO,QP,QQ,QR,QS,QT,QU,QV,QW,QX,QY,QZ,X0,X1,X2,X3,X4,X5,X6,X7,X8,X9,Xa,Xb,Xc,Xd,Xe,Xf,Xg,Xh,Xi,Xj,Xk,Xl,Xm,Xn,Xo,Xp,Xq,Xr,Xs,Xt,Xu,Xv,Xw,Xx,Xy,Xz,reduceIte,reduceCtorEq,ite_true,ite_false,if_true,if_false,XA,XB,XC,XD,XE,XF,and_true,true_and,and_self,true_imp_iff,false_imp_iff,eq_self,not_true_eq_false,not_false_eq_true,ne_eq,decide_true,decide_false,XG,XH,XI,XJ,XK,XL,XM,XN,XO,XP,XQ,XR,XS,XT,XU,XV,XW,XX,XY,Try.underlying3,Try.q3,Try.underlying4,Try.q4,Try.underlying22,Try.q22]
    simp -implicitDefEqProofs only [d0,d1,Q0,Q1,Q2,Q3,Q4,Q5,Q6,Q7,Q8,Q9,Qa,Qb,Qc,Qd,Qe,Qf,Qg,Qh,Qi,Qj,Qk,Ql,Qm,Qn,Qo,Qp,Qq,Qr,Qs,Qt,Qu,Qv,Qw,Qx,Qy,Qz,QA,QB,QC,QD,QE,QF,QG,QH,QI,QJ,QK,QL,QM,QN,QO,QP,QQ,QR,QS,QT,QU,QV,QW,QX,QY,QZ,X0,X1,X2,X3,X4,X5,X6,X7,X8,X9,Xa,Xb,Xc,Xd,Xe,Xf,Xg,Xh,Xi,Xj,Xk,Xl,Xm,Xn,Xo,Xp,Xq,Xr,Xs,Xt,Xu,Xv,Xw,Xx,Xy,Xz,reduceIte,reduceCtorEq,ite_true,ite_false,if_true,if_false,XA,XB,XC,XD,XE,XF,and_true,true_and,and_self,true_imp_iff,false_imp_iff,eq_self,not_true_eq_false,not_false_eq_true,ne_eq,decide_true,decide_false,XG,XH,XI,XJ,XK,XL,XM,XN,XO,XP,XQ,XR,XS,XT,XU,XV,XW,XX,XY,Try.underlying3,Try.q3,Try.underlying4,Try.q4,Try.underlying22,Try.q22]
  · have d1 : decide ((l.length : Int) ≤ i) = false := decide_eq_false h1
    rw [if_neg (by omega)]
    refine acalls_of_vc (fn := Try.f25) Try.call25 Try.func25 rfl (by kernel_rfl) (by simp [Try.ntmps25]) ?_; simp -implicitDefEqProofs only [Try.ntmps25,Try.results25,Q0,Q1,Q2,Q3,Q4,Q5,Q6,Q7,Q8,Q9,Qa,Qb,Qc,Qd,Qe,Qf,Qg,Qh,Qi,Qj,Qk,Ql,Qm,Qn,Qo,Qp,Qq,Qr,Qs,Qt,Qu,Qv,Qw,Qx,Qy,Qz,QA,QB,QC,QD,QE,QF,QG,QH,QI,QJ,QK,QL,QM,QN,QO,QP,QQ,QR,QS,QT,QU,QV,QW,QX,QY,QZ,X0,X1,X2,X3,X4,X5,X6,X7,X8,X9,Xa,Xb,Xc,Xd,Xe,Xf,Xg,Xh,Xi,Xj,Xk,Xl,Xm,Xn,Xo,Xp,Xq,Xr,Xs,Xt,Xu,Xv,Xw,Xx,Xy,Xz,reduceIte,reduceCtorEq,ite_true,ite_false,if_true,if_false,XA,XB,XC,XD,XE,XF,and_true,true_and,and_self,true_imp_iff,false_imp_iff,eq_self,not_true_eq_false,not_false_eq_true,ne_eq,decide_true,decide_false,XG,XH,XI,XJ,XK,XL,XM,XN,XO,XP,XQ,XR,XS,XT,XU,XV,XW,XX,XY,Try.underlying3,Try.q3,Try.underlying4,Try.q4,Try.underlying22,Try.q22]
    simp -implicitDefEqProofs only [d0,d1,Q0,Q1,Q2,Q3,Q4,Q5,Q6,Q7,Q8,Q9,Qa,Qb,Qc,Qd,Qe,Qf,Qg,Qh,Qi,Qj,Qk,Ql,Qm,Qn,Qo,Qp,Qq,Qr,Qs,Qt,Qu,Qv,Qw,Qx,Qy,Qz,QA,QB,QC,QD,QE,QF,QG,QH,QI,QJ,QK,QL,QM,QN,QO,QP,QQ,QR,QS,QT,QU,QV,QW,QX,QY,QZ,X0,X1,X2,X3,X4,X5,X6,X7,X8,X9,Xa,Xb,Xc,Xd,Xe,Xf,Xg,Xh,Xi,Xj,Xk,Xl,Xm,Xn,Xo,Xp,Xq,Xr,Xs,Xt,Xu,Xv,Xw,Xx,Xy,Xz,reduceIte,reduceCtorEq,ite_true,ite_false,if_true,if_false,XA,XB,XC,XD,XE,XF,and_true,true_and,and_self,true_imp_iff,false_imp_iff,eq_self,not_true_eq_false,not_false_eq_true,ne_eq,decide_true,decide_false,XG,XH,XI,XJ,XK,XL,XM,XN,XO,XP,XQ,XR,XS,XT,XU,XV,XW,XX,XY,Try.underlying3,Try.q3,Try.underlying4,Try.q4,Try.underlying22,Try.q22]
    refine ⟨by omega, ?_⟩
    exact around _ _ _ hm

theorem pick_bound {l : List Int} (hl : ∀ x ∈ l, Okk .i64 x) (i : Int) {m : Int} (hm : 0 < m) : 0 ≤ pickI l i m ∧ pickI l i m < m := by
  unfold pickI
  split
  · omega
  · rename_i h
    have hlt : i.toNat < l.length := by omega
    rw [getD_get hlt]
    exact aroundI_bound (hl _ (List.getElem_mem hlt)) hm

end Go.Proofs
