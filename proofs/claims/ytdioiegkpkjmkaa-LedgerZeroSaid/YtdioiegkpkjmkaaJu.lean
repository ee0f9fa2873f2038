/-
  The ledger: balances together; the law.
-/
import Derived.Test.YtdioiegkpkjmkaaJt
namespace Go.Proofs
open Go.Pa
open Go.Pa renaming VB → Q0, condV_bool → Q1, guardV_bool → Q2, vcS → Q3, evA → Q4, evBin → Q5, nilA → Q6, nilOf → Q7, intOp → Q8, strOp → Q9, evUn → Qa, evConv → Qb, evField → Qc, evFieldAddr → Qd, evIndexAddr → Qe, evIndex → Qf, evIndexA → Qg, bnd → Qh, evSlice → Qi, evLen → Qj, evPick → Qk, evExtract → Ql, evNilCheck → Qm, evMin → Qn, evMax → Qo, evLoadI → Qp, partsOne → Qr, intsOf → Qs, rowsAV → Qt, evBuildSlice → Qu, evBuild → Qv, fillA → Qw, splice → Qx, evBuiltin → Qy, guardD_bool → Qz, dOp → QA, cl → QB, vcLoad → QC, vcStore → QD, vcMake → QE, convA → QF, evIndexArr → QG, retA → QH, ressA → QI, resA → QJ, envOf → QK, condR_bool → QO, asgEnv → QP, parEnv → QQ, dstAt → Xz, vcLook → XK, vcPut → XL, vcEnt → XM, vcESt → XN, vcMLen → XO, vcDel → XP, vcClear → XQ, vcLookD → XR
open Go.Pa.AV renaming cell → Qq
open Go.Pa.Env renaming put → QL
open List renaming set_cons_zero → QM, set_cons_succ → QN, foldl_cons → QR, foldl_nil → QS, map_cons → QT, map_nil → QU, toList_toArray → QV, getElem?_cons_zero → QW, getElem?_cons_succ → QX, nil_append → X1, append_nil → X2, cons_append → X3, singleton_append → X4, length_cons → X5, length_nil → X6, all_cons → X7, all_nil → X8, take_succ_cons → X9, take_zero → Xa, take_nil → Xb, drop_zero → Xc, drop_succ_cons → Xd, drop_nil → Xe, contains_nil → Xf, contains_cons → Xg
open Option renaming bind_some → QY, map_some → QZ, map_none → X0
open Bool renaming or_false → Xh, false_or → Xi, or_true → Xj, true_or → Xk, false_eq_true → Xt, not_true → Xu, not_false → Xv, and_true → Xw, true_and → Xx, and_self → Xy
open Nat renaming reduceEqDiff → Xl, reduceAdd → Xm, reduceSub → Xn, reduceMul → Xo, reduceLT → Xp, reduceLeDiff → Xq, reduceBNe → Xr, reduceBEq → Xs, zero_add → XC, add_zero → XD
open UInt8 renaming reduceToNat → XA
open Int renaming cast_ofNat_Int → XB, reduceToNat → XE, reduceLT → XF, reduceLE → XG, reduceNeg → XH, reduceEq → XI, reduceNe → XJ
set_option linter.unusedSimpArgs false
set_option linter.unusedVariables false
set_option maxRecDepth 20000
set_option maxHeartbeats 4000000

theorem law_LedgerZero (l : List Int) (hl : ∀ x ∈ l, Okk .i64 x) (_ : l.length ≤ 9223372036854775807) : ACalls Try.prog 5 [.ints .i64 l] [] (fun r _ => r = .bool true) := by
  have kS := fun σ => r_script l hl 16 (by decide) σ
  have hG := scr_gen hl 16
  have hSl : (scrI l 16).length ≤ 16 := by rw [scrI_len]; omega
  generalize scrI l 16 = ops at *
  have lm : (ops.map opA).length = ops.length := List.length_map _
  have kL := lives16
  refine acalls_of_awp (fn := Try.f5) Try.call5 Try.func5 rfl (by simp [Try.ntmps5]) ?_
  simp only [Try.ntmps5, Try.results5]
  refine awp_seq (awp_vc (by kernel_rfl) ?_)
  simp -implicitDefEqProofs only [seqA_normal,seqA_ret,seqA_exit,Q0,Q1,Q2,Q3,Q4,Q5,Q6,Q7,Q8,Q9,Qa,Qb,Qc,Qd,Qe,Qf,Qg,Qh,Qi,Qj,Qk,Ql,Qm,Qn,Qo,Qp,Qq,Qr,Qs,Qt,Qu,Qv,Qw,Qx,Qy,Qz,QA,QB,QC,QD,QE,QF,QG,QH,QI,QJ,QK,QL,QM,QN,QO,QP,QQ,QR,QS,QT,QU,QV,QW,QX,QY,QZ,X0,X1,X2,X3,X4,X5,X6,X7,X8,X9,Xa,Xb,Xc,Xd,Xe,Xf,Xg,Xh,Xi,Xj,Xk,Xl,Xm,Xn,Xo,Xp,Xq,Xr,Xs,reduceIte,reduceCtorEq,ite_true,ite_false,if_true,if_false,Xt,Xu,Xv,Xw,Xx,Xy,and_true,true_and,and_self,true_imp_iff,false_imp_iff,eq_self,not_true_eq_false,not_false_eq_true,ne_eq,decide_true,decide_false,Xz,XA,XB,XC,XD,XE,XF,XG,XH,XI,XJ,XK,XL,XM,XN,XO,XP,XQ,XR,Try.q3,Try.q4,Try.q22,Try.q23,Try.q25,Try.q27,Try.q29,Try.q31,Try.q33,Try.q36,Try.q37]
  refine awp_seq (awp_vc (by kernel_rfl) ?_)
  simp -implicitDefEqProofs only [seqA_normal,seqA_ret,seqA_exit,Q0,Q1,Q2,Q3,Q4,Q5,Q6,Q7,Q8,Q9,Qa,Qb,Qc,Qd,Qe,Qf,Qg,Qh,Qi,Qj,Qk,Ql,Qm,Qn,Qo,Qp,Qq,Qr,Qs,Qt,Qu,Qv,Qw,Qx,Qy,Qz,QA,QB,QC,QD,QE,QF,QG,QH,QI,QJ,QK,QL,QM,QN,QO,QP,QQ,QR,QS,QT,QU,QV,QW,QX,QY,QZ,X0,X1,X2,X3,X4,X5,X6,X7,X8,X9,Xa,Xb,Xc,Xd,Xe,Xf,Xg,Xh,Xi,Xj,Xk,Xl,Xm,Xn,Xo,Xp,Xq,Xr,Xs,reduceIte,reduceCtorEq,ite_true,ite_false,if_true,if_false,Xt,Xu,Xv,Xw,Xx,Xy,and_true,true_and,and_self,true_imp_iff,false_imp_iff,eq_self,not_true_eq_false,not_false_eq_true,ne_eq,decide_true,decide_false,Xz,XA,XB,XC,XD,XE,XF,XG,XH,XI,XJ,XK,XL,XM,XN,XO,XP,XQ,XR,Try.q3,Try.q4,Try.q22,Try.q23,Try.q25,Try.q27,Try.q29,Try.q31,Try.q33,Try.q36,Try.q37]
  refine ACalls.mono (c_NewL _) ?_
  rintro r s0 ⟨id, j, rfl, hx0, -, -, hL0⟩
  simp -implicitDefEqProofs only [seqA_normal,Q0,Q1,Q2,Q3,Q4,Q5,Q6,Q7,Q8,Q9,Qa,Qb,Qc,Qd,Qe,Qf,Qg,Qh,Qi,Qj,Qk,Ql,Qm,Qn,Qo,Qp,Qq,Qr,Qs,Qt,Qu,Qv,Qw,Qx,Qy,Qz,QA,QB,QC,QD,QE,QF,QG,QH,QI,QJ,QK,QL,QM,QN,QO,QP,QQ,QR,QS,QT,QU,QV,QW,QX,QY,QZ,X0,X1,X2,X3,X4,X5,X6,X7,X8,X9,Xa,Xb,Xc,Xd,Xe,Xf,Xg,Xh,Xi,Xj,Xk,Xl,Xm,Xn,Xo,Xp,Xq,Xr,Xs,reduceIte,reduceCtorEq,ite_true,ite_false,if_true,if_false,Xt,Xu,Xv,Xw,Xx,Xy,and_true,true_and,and_self,true_imp_iff,false_imp_iff,eq_self,not_true_eq_false,not_false_eq_true,ne_eq,decide_true,decide_false,Xz,XA,XB,XC,XD,XE,XF,XG,XH,XI,XJ,XK,XL,XM,XN,XO,XP,XQ,XR,Try.q3,Try.q4,Try.q22,Try.q23,Try.q25,Try.q27,Try.q29,Try.q31,Try.q33,Try.q36,Try.q37]
  refine awp_seq (awp_vc (by kernel_rfl) ?_)
  simp -implicitDefEqProofs only [seqA_normal,seqA_ret,seqA_exit,Q0,Q1,Q2,Q3,Q4,Q5,Q6,Q7,Q8,Q9,Qa,Qb,Qc,Qd,Qe,Qf,Qg,Qh,Qi,Qj,Qk,Ql,Qm,Qn,Qo,Qp,Qq,Qr,Qs,Qt,Qu,Qv,Qw,Qx,Qy,Qz,QA,QB,QC,QD,QE,QF,QG,QH,QI,QJ,QK,QL,QM,QN,QO,QP,QQ,QR,QS,QT,QU,QV,QW,QX,QY,QZ,X0,X1,X2,X3,X4,X5,X6,X7,X8,X9,Xa,Xb,Xc,Xd,Xe,Xf,Xg,Xh,Xi,Xj,Xk,Xl,Xm,Xn,Xo,Xp,Xq,Xr,Xs,reduceIte,reduceCtorEq,ite_true,ite_false,if_true,if_false,Xt,Xu,Xv,Xw,Xx,Xy,and_true,true_and,and_self,true_imp_iff,false_imp_iff,eq_self,not_true_eq_false,not_false_eq_true,ne_eq,decide_true,decide_false,Xz,XA,XB,XC,XD,XE,XF,XG,XH,XI,XJ,XK,XL,XM,XN,XO,XP,XQ,XR,Try.q3,Try.q4,Try.q22,Try.q23,Try.q25,Try.q27,Try.q29,Try.q31,Try.q33,Try.q36,Try.q37]
  refine awp_seq (awp_vc (by kernel_rfl) ?_)
  simp -implicitDefEqProofs only [seqA_normal,seqA_ret,seqA_exit,Q0,Q1,Q2,Q3,Q4,Q5,Q6,Q7,Q8,Q9,Qa,Qb,Qc,Qd,Qe,Qf,Qg,Qh,Qi,Qj,Qk,Ql,Qm,Qn,Qo,Qp,Qq,Qr,Qs,Qt,Qu,Qv,Qw,Qx,Qy,Qz,QA,QB,QC,QD,QE,QF,QG,QH,QI,QJ,QK,QL,QM,QN,QO,QP,QQ,QR,QS,QT,QU,QV,QW,QX,QY,QZ,X0,X1,X2,X3,X4,X5,X6,X7,X8,X9,Xa,Xb,Xc,Xd,Xe,Xf,Xg,Xh,Xi,Xj,Xk,Xl,Xm,Xn,Xo,Xp,Xq,Xr,Xs,reduceIte,reduceCtorEq,ite_true,ite_false,if_true,if_false,Xt,Xu,Xv,Xw,Xx,Xy,and_true,true_and,and_self,true_imp_iff,false_imp_iff,eq_self,not_true_eq_false,not_false_eq_true,ne_eq,decide_true,decide_false,Xz,XA,XB,XC,XD,XE,XF,XG,XH,XI,XJ,XK,XL,XM,XN,XO,XP,XQ,XR,Try.q3,Try.q4,Try.q22,Try.q23,Try.q25,Try.q27,Try.q29,Try.q31,Try.q33,Try.q36,Try.q37]
  refine acalls_then (kS _) ?_
  simp -implicitDefEqProofs only [seqA_normal,Q0,Q1,Q2,Q3,Q4,Q5,Q6,Q7,Q8,Q9,Qa,Qb,Qc,Qd,Qe,Qf,Qg,Qh,Qi,Qj,Qk,Ql,Qm,Qn,Qo,Qp,Qq,Qr,Qs,Qt,Qu,Qv,Qw,Qx,Qy,Qz,QA,QB,QC,QD,QE,QF,QG,QH,QI,QJ,QK,QL,QM,QN,QO,QP,QQ,QR,QS,QT,QU,QV,QW,QX,QY,QZ,X0,X1,X2,X3,X4,X5,X6,X7,X8,X9,Xa,Xb,Xc,Xd,Xe,Xf,Xg,Xh,Xi,Xj,Xk,Xl,Xm,Xn,Xo,Xp,Xq,Xr,Xs,reduceIte,reduceCtorEq,ite_true,ite_false,if_true,if_false,Xt,Xu,Xv,Xw,Xx,Xy,and_true,true_and,and_self,true_imp_iff,false_imp_iff,eq_self,not_true_eq_false,not_false_eq_true,ne_eq,decide_true,decide_false,Xz,XA,XB,XC,XD,XE,XF,XG,XH,XI,XJ,XK,XL,XM,XN,XO,XP,XQ,XR,Try.q3,Try.q4,Try.q22,Try.q23,Try.q25,Try.q27,Try.q29,Try.q31,Try.q33,Try.q36,Try.q37]
  refine awp_cutK (fun e' s' => (∃ es dn, LOk 48 es ∧ Led s' id j es dn) ∧ Env.sub [(3, .ptr id 0)] e') ?_ ?_
  · refine awp_seq (awp_vc (by kernel_rfl) ?_)
    simp -implicitDefEqProofs only [seqA_normal,seqA_ret,seqA_exit,Q0,Q1,Q2,Q3,Q4,Q5,Q6,Q7,Q8,Q9,Qa,Qb,Qc,Qd,Qe,Qf,Qg,Qh,Qi,Qj,Qk,Ql,Qm,Qn,Qo,Qp,Qq,Qr,Qs,Qt,Qu,Qv,Qw,Qx,Qy,Qz,QA,QB,QC,QD,QE,QF,QG,QH,QI,QJ,QK,QL,QM,QN,QO,QP,QQ,QR,QS,QT,QU,QV,QW,QX,QY,QZ,X0,X1,X2,X3,X4,X5,X6,X7,X8,X9,Xa,Xb,Xc,Xd,Xe,Xf,Xg,Xh,Xi,Xj,Xk,Xl,Xm,Xn,Xo,Xp,Xq,Xr,Xs,reduceIte,reduceCtorEq,ite_true,ite_false,if_true,if_false,Xt,Xu,Xv,Xw,Xx,Xy,and_true,true_and,and_self,true_imp_iff,false_imp_iff,eq_self,not_true_eq_false,not_false_eq_true,ne_eq,decide_true,decide_false,Xz,XA,XB,XC,XD,XE,XF,XG,XH,XI,XJ,XK,XL,XM,XN,XO,XP,XQ,XR,Try.q3,Try.q4,Try.q22,Try.q23,Try.q25,Try.q27,Try.q29,Try.q31,Try.q33,Try.q36,Try.q37]
    refine awp_blk ?_
    refine awp_loopW (fun i : Nat => [(5, .int .i64 i), (4, .rows 3 (ops.map opA)), (3, .ptr id 0)]) (fun i s => i ≤ ops.length ∧ ∃ es dn, LOk (3 * i) es ∧ Led s id j es dn) (fun i => ops.length - i) 0 (by simp [sub_cons, sub_nil, get_cons]) ⟨by omega, [], [], LOk.nil, hL0⟩ ?_
    rintro i s ⟨hi, es, dn, hOk, hL⟩
    by_cases hlt : i < ops.length
    · have d1 : decide ((i : Int) < (ops.length : Int)) = true := decide_eq_true (by omega)
      have hrow : (ops.map opA).getD (i : Int).toNat [] = opA ops[i] := by rw [Int.toNat_natCast, getD_get (by simpa using hlt)]; simp
      have wi : IntKind.i64.wrap ((i : Int) + 1) = ((i + 1 : Nat) : Int) := by rw [wrap_i64 (by omega) (by omega)]; rfl
      have bi : (0 : Int) ≤ (i : Int) ∧ (i : Int) < (ops.length : Int) := by omega
      have hg := hG _ (List.getElem_mem hlt)
      generalize ops[i] = o at *
      have hrow2 : (ops.map opA).getD (i : Int).toNat [] = [.rows 6 (o.es.map entA), .int .i64 o.ix, .int .i64 o.dy] := hrow
      have lme : (o.es.map entA).length = o.es.length := List.length_map _
      have hes := hg.len
      have hlen := hOk.len
      have hix := hg.ix
      have hdy := hg.dy
      refine awp_seq (awp_vc (by kernel_rfl) ?_)
      simp -implicitDefEqProofs only [seqA_normal,seqA_ret,seqA_exit,d1,lm,Q0,Q1,Q2,Q3,Q4,Q5,Q6,Q7,Q8,Q9,Qa,Qb,Qc,Qd,Qe,Qf,Qg,Qh,Qi,Qj,Qk,Ql,Qm,Qn,Qo,Qp,Qq,Qr,Qs,Qt,Qu,Qv,Qw,Qx,Qy,Qz,QA,QB,QC,QD,QE,QF,QG,QH,QI,QJ,QK,QL,QM,QN,QO,QP,QQ,QR,QS,QT,QU,QV,QW,QX,QY,QZ,X0,X1,X2,X3,X4,X5,X6,X7,X8,X9,Xa,Xb,Xc,Xd,Xe,Xf,Xg,Xh,Xi,Xj,Xk,Xl,Xm,Xn,Xo,Xp,Xq,Xr,Xs,reduceIte,reduceCtorEq,ite_true,ite_false,if_true,if_false,Xt,Xu,Xv,Xw,Xx,Xy,and_true,true_and,and_self,true_imp_iff,false_imp_iff,eq_self,not_true_eq_false,not_false_eq_true,ne_eq,decide_true,decide_false,Xz,XA,XB,XC,XD,XE,XF,XG,XH,XI,XJ,XK,XL,XM,XN,XO,XP,XQ,XR,Try.q3,Try.q4,Try.q22,Try.q23,Try.q25,Try.q27,Try.q29,Try.q31,Try.q33,Try.q36,Try.q37]
      refine awp_seq (awp_blk ?_)
      refine awp_seq (awp_vc (by kernel_rfl) ?_)
      by_cases h0 : 0 < o.es.length
      · have d2 : decide ((0 : Int) < (o.es.length : Int)) = true := decide_eq_true (by omega)
        have kr := c_real o.es (by omega)
        have kp := c_PostL es o.es dn (by omega) (by omega) hOk.val s id j hL
        simp -implicitDefEqProofs only [lm,hrow2,lme,d2,Q0,Q1,Q2,Q3,Q4,Q5,Q6,Q7,Q8,Q9,Qa,Qb,Qc,Qd,Qe,Qf,Qg,Qh,Qi,Qj,Qk,Ql,Qm,Qn,Qo,Qp,Qq,Qr,Qs,Qt,Qu,Qv,Qw,Qx,Qy,Qz,QA,QB,QC,QD,QE,QF,QG,QH,QI,QJ,QK,QL,QM,QN,QO,QP,QQ,QR,QS,QT,QU,QV,QW,QX,QY,QZ,X0,X1,X2,X3,X4,X5,X6,X7,X8,X9,Xa,Xb,Xc,Xd,Xe,Xf,Xg,Xh,Xi,Xj,Xk,Xl,Xm,Xn,Xo,Xp,Xq,Xr,Xs,reduceIte,reduceCtorEq,ite_true,ite_false,if_true,if_false,Xt,Xu,Xv,Xw,Xx,Xy,and_true,true_and,and_self,true_imp_iff,false_imp_iff,eq_self,not_true_eq_false,not_false_eq_true,ne_eq,decide_true,decide_false,Xz,XA,XB,XC,XD,XE,XF,XG,XH,XI,XJ,XK,XL,XM,XN,XO,XP,XQ,XR,Try.q3,Try.q4,Try.q22,Try.q23,Try.q25,Try.q27,Try.q29,Try.q31,Try.q33,Try.q36,Try.q37]
        refine ⟨bi, ?_⟩
        simp -implicitDefEqProofs only [seqA_normal,Q0,Q1,Q2,Q3,Q4,Q5,Q6,Q7,Q8,Q9,Qa,Qb,Qc,Qd,Qe,Qf,Qg,Qh,Qi,Qj,Qk,Ql,Qm,Qn,Qo,Qp,Qq,Qr,Qs,Qt,Qu,Qv,Qw,Qx,Qy,Qz,QA,QB,QC,QD,QE,QF,QG,QH,QI,QJ,QK,QL,QM,QN,QO,QP,QQ,QR,QS,QT,QU,QV,QW,QX,QY,QZ,X0,X1,X2,X3,X4,X5,X6,X7,X8,X9,Xa,Xb,Xc,Xd,Xe,Xf,Xg,Xh,Xi,Xj,Xk,Xl,Xm,Xn,Xo,Xp,Xq,Xr,Xs,reduceIte,reduceCtorEq,ite_true,ite_false,if_true,if_false,Xt,Xu,Xv,Xw,Xx,Xy,and_true,true_and,and_self,true_imp_iff,false_imp_iff,eq_self,not_true_eq_false,not_false_eq_true,ne_eq,decide_true,decide_false,Xz,XA,XB,XC,XD,XE,XF,XG,XH,XI,XJ,XK,XL,XM,XN,XO,XP,XQ,XR,Try.q3,Try.q4,Try.q22,Try.q23,Try.q25,Try.q27,Try.q29,Try.q31,Try.q33,Try.q36,Try.q37]
        refine awp_condT rfl ?_
        refine awp_vc (by kernel_rfl) ?_
        simp -implicitDefEqProofs only [lm,hrow2,lme,Q0,Q1,Q2,Q3,Q4,Q5,Q6,Q7,Q8,Q9,Qa,Qb,Qc,Qd,Qe,Qf,Qg,Qh,Qi,Qj,Qk,Ql,Qm,Qn,Qo,Qp,Qq,Qr,Qs,Qt,Qu,Qv,Qw,Qx,Qy,Qz,QA,QB,QC,QD,QE,QF,QG,QH,QI,QJ,QK,QL,QM,QN,QO,QP,QQ,QR,QS,QT,QU,QV,QW,QX,QY,QZ,X0,X1,X2,X3,X4,X5,X6,X7,X8,X9,Xa,Xb,Xc,Xd,Xe,Xf,Xg,Xh,Xi,Xj,Xk,Xl,Xm,Xn,Xo,Xp,Xq,Xr,Xs,reduceIte,reduceCtorEq,ite_true,ite_false,if_true,if_false,Xt,Xu,Xv,Xw,Xx,Xy,and_true,true_and,and_self,true_imp_iff,false_imp_iff,eq_self,not_true_eq_false,not_false_eq_true,ne_eq,decide_true,decide_false,Xz,XA,XB,XC,XD,XE,XF,XG,XH,XI,XJ,XK,XL,XM,XN,XO,XP,XQ,XR,Try.q3,Try.q4,Try.q22,Try.q23,Try.q25,Try.q27,Try.q29,Try.q31,Try.q33,Try.q36,Try.q37]
        refine ⟨bi, ?_⟩
        refine acalls_then (kr _) ?_
        simp -implicitDefEqProofs only [Q0,Q1,Q2,Q3,Q4,Q5,Q6,Q7,Q8,Q9,Qa,Qb,Qc,Qd,Qe,Qf,Qg,Qh,Qi,Qj,Qk,Ql,Qm,Qn,Qo,Qp,Qq,Qr,Qs,Qt,Qu,Qv,Qw,Qx,Qy,Qz,QA,QB,QC,QD,QE,QF,QG,QH,QI,QJ,QK,QL,QM,QN,QO,QP,QQ,QR,QS,QT,QU,QV,QW,QX,QY,QZ,X0,X1,X2,X3,X4,X5,X6,X7,X8,X9,Xa,Xb,Xc,Xd,Xe,Xf,Xg,Xh,Xi,Xj,Xk,Xl,Xm,Xn,Xo,Xp,Xq,Xr,Xs,reduceIte,reduceCtorEq,ite_true,ite_false,if_true,if_false,Xt,Xu,Xv,Xw,Xx,Xy,and_true,true_and,and_self,true_imp_iff,false_imp_iff,eq_self,not_true_eq_false,not_false_eq_true,ne_eq,decide_true,decide_false,Xz,XA,XB,XC,XD,XE,XF,XG,XH,XI,XJ,XK,XL,XM,XN,XO,XP,XQ,XR,Try.q3,Try.q4,Try.q22,Try.q23,Try.q25,Try.q27,Try.q29,Try.q31,Try.q33,Try.q36,Try.q37]
        refine ACalls.mono kp ?_
        rintro r s2 ⟨rfl, hL2, hF2, -⟩
        simp -implicitDefEqProofs only [seqA_normal,Q0,Q1,Q2,Q3,Q4,Q5,Q6,Q7,Q8,Q9,Qa,Qb,Qc,Qd,Qe,Qf,Qg,Qh,Qi,Qj,Qk,Ql,Qm,Qn,Qo,Qp,Qq,Qr,Qs,Qt,Qu,Qv,Qw,Qx,Qy,Qz,QA,QB,QC,QD,QE,QF,QG,QH,QI,QJ,QK,QL,QM,QN,QO,QP,QQ,QR,QS,QT,QU,QV,QW,QX,QY,QZ,X0,X1,X2,X3,X4,X5,X6,X7,X8,X9,Xa,Xb,Xc,Xd,Xe,Xf,Xg,Xh,Xi,Xj,Xk,Xl,Xm,Xn,Xo,Xp,Xq,Xr,Xs,reduceIte,reduceCtorEq,ite_true,ite_false,if_true,if_false,Xt,Xu,Xv,Xw,Xx,Xy,and_true,true_and,and_self,true_imp_iff,false_imp_iff,eq_self,not_true_eq_false,not_false_eq_true,ne_eq,decide_true,decide_false,Xz,XA,XB,XC,XD,XE,XF,XG,XH,XI,XJ,XK,XL,XM,XN,XO,XP,XQ,XR,Try.q3,Try.q4,Try.q22,Try.q23,Try.q25,Try.q27,Try.q29,Try.q31,Try.q33,Try.q36,Try.q37]
        refine awp_vc (by kernel_rfl) ?_
        simp -implicitDefEqProofs only [wi,Q0,Q1,Q2,Q3,Q4,Q5,Q6,Q7,Q8,Q9,Qa,Qb,Qc,Qd,Qe,Qf,Qg,Qh,Qi,Qj,Qk,Ql,Qm,Qn,Qo,Qp,Qq,Qr,Qs,Qt,Qu,Qv,Qw,Qx,Qy,Qz,QA,QB,QC,QD,QE,QF,QG,QH,QI,QJ,QK,QL,QM,QN,QO,QP,QQ,QR,QS,QT,QU,QV,QW,QX,QY,QZ,X0,X1,X2,X3,X4,X5,X6,X7,X8,X9,Xa,Xb,Xc,Xd,Xe,Xf,Xg,Xh,Xi,Xj,Xk,Xl,Xm,Xn,Xo,Xp,Xq,Xr,Xs,reduceIte,reduceCtorEq,ite_true,ite_false,if_true,if_false,Xt,Xu,Xv,Xw,Xx,Xy,and_true,true_and,and_self,true_imp_iff,false_imp_iff,eq_self,not_true_eq_false,not_false_eq_true,ne_eq,decide_true,decide_false,Xz,XA,XB,XC,XD,XE,XF,XG,XH,XI,XJ,XK,XL,XM,XN,XO,XP,XQ,XR,Try.q3,Try.q4,Try.q22,Try.q23,Try.q25,Try.q27,Try.q29,Try.q31,Try.q33,Try.q36,Try.q37]
        exact ⟨i + 1, by simp [sub_cons, sub_nil, get_cons], ⟨by omega, _, _, (hOk.post hes hg.acc).up (by omega), hL2⟩, by omega⟩
      · have d2 : decide ((0 : Int) < (o.es.length : Int)) = false := decide_eq_false (by omega)
        obtain ⟨s2, hL2, hF2, kv⟩ := c_VoidD es dn (by omega) hOk.val o.ix o.dy (i64_okk (by omega) (by omega)) s id j hL
        simp -implicitDefEqProofs only [lm,hrow2,lme,d2,Q0,Q1,Q2,Q3,Q4,Q5,Q6,Q7,Q8,Q9,Qa,Qb,Qc,Qd,Qe,Qf,Qg,Qh,Qi,Qj,Qk,Ql,Qm,Qn,Qo,Qp,Qq,Qr,Qs,Qt,Qu,Qv,Qw,Qx,Qy,Qz,QA,QB,QC,QD,QE,QF,QG,QH,QI,QJ,QK,QL,QM,QN,QO,QP,QQ,QR,QS,QT,QU,QV,QW,QX,QY,QZ,X0,X1,X2,X3,X4,X5,X6,X7,X8,X9,Xa,Xb,Xc,Xd,Xe,Xf,Xg,Xh,Xi,Xj,Xk,Xl,Xm,Xn,Xo,Xp,Xq,Xr,Xs,reduceIte,reduceCtorEq,ite_true,ite_false,if_true,if_false,Xt,Xu,Xv,Xw,Xx,Xy,and_true,true_and,and_self,true_imp_iff,false_imp_iff,eq_self,not_true_eq_false,not_false_eq_true,ne_eq,decide_true,decide_false,Xz,XA,XB,XC,XD,XE,XF,XG,XH,XI,XJ,XK,XL,XM,XN,XO,XP,XQ,XR,Try.q3,Try.q4,Try.q22,Try.q23,Try.q25,Try.q27,Try.q29,Try.q31,Try.q33,Try.q36,Try.q37]
        refine ⟨bi, ?_⟩
        simp -implicitDefEqProofs only [seqA_normal,Q0,Q1,Q2,Q3,Q4,Q5,Q6,Q7,Q8,Q9,Qa,Qb,Qc,Qd,Qe,Qf,Qg,Qh,Qi,Qj,Qk,Ql,Qm,Qn,Qo,Qp,Qq,Qr,Qs,Qt,Qu,Qv,Qw,Qx,Qy,Qz,QA,QB,QC,QD,QE,QF,QG,QH,QI,QJ,QK,QL,QM,QN,QO,QP,QQ,QR,QS,QT,QU,QV,QW,QX,QY,QZ,X0,X1,X2,X3,X4,X5,X6,X7,X8,X9,Xa,Xb,Xc,Xd,Xe,Xf,Xg,Xh,Xi,Xj,Xk,Xl,Xm,Xn,Xo,Xp,Xq,Xr,Xs,reduceIte,reduceCtorEq,ite_true,ite_false,if_true,if_false,Xt,Xu,Xv,Xw,Xx,Xy,and_true,true_and,and_self,true_imp_iff,false_imp_iff,eq_self,not_true_eq_false,not_false_eq_true,ne_eq,decide_true,decide_false,Xz,XA,XB,XC,XD,XE,XF,XG,XH,XI,XJ,XK,XL,XM,XN,XO,XP,XQ,XR,Try.q3,Try.q4,Try.q22,Try.q23,Try.q25,Try.q27,Try.q29,Try.q31,Try.q33,Try.q36,Try.q37]
        refine awp_condF rfl ?_
        refine awp_draws [11] Try.mixed (by kernel_rfl) ?_
        simp -implicitDefEqProofs only [lm,hrow2,lme,Q0,Q1,Q2,Q3,Q4,Q5,Q6,Q7,Q8,Q9,Qa,Qb,Qc,Qd,Qe,Qf,Qg,Qh,Qi,Qj,Qk,Ql,Qm,Qn,Qo,Qp,Qq,Qr,Qs,Qt,Qu,Qv,Qw,Qx,Qy,Qz,QA,QB,QC,QD,QE,QF,QG,QH,QI,QJ,QK,QL,QM,QN,QO,QP,QQ,QR,QS,QT,QU,QV,QW,QX,QY,QZ,X0,X1,X2,X3,X4,X5,X6,X7,X8,X9,Xa,Xb,Xc,Xd,Xe,Xf,Xg,Xh,Xi,Xj,Xk,Xl,Xm,Xn,Xo,Xp,Xq,Xr,Xs,reduceIte,reduceCtorEq,ite_true,ite_false,if_true,if_false,Xt,Xu,Xv,Xw,Xx,Xy,and_true,true_and,and_self,true_imp_iff,false_imp_iff,eq_self,not_true_eq_false,not_false_eq_true,ne_eq,decide_true,decide_false,Xz,XA,XB,XC,XD,XE,XF,XG,XH,XI,XJ,XK,XL,XM,XN,XO,XP,XQ,XR,Try.q3,Try.q4,Try.q22,Try.q23,Try.q25,Try.q27,Try.q29,Try.q31,Try.q33,Try.q36,Try.q37]
        refine ⟨bi, bi, ?_⟩
        refine dCall_of2 kv ?_
        simp -implicitDefEqProofs only [seqA_normal,Q0,Q1,Q2,Q3,Q4,Q5,Q6,Q7,Q8,Q9,Qa,Qb,Qc,Qd,Qe,Qf,Qg,Qh,Qi,Qj,Qk,Ql,Qm,Qn,Qo,Qp,Qq,Qr,Qs,Qt,Qu,Qv,Qw,Qx,Qy,Qz,QA,QB,QC,QD,QE,QF,QG,QH,QI,QJ,QK,QL,QM,QN,QO,QP,QQ,QR,QS,QT,QU,QV,QW,QX,QY,QZ,X0,X1,X2,X3,X4,X5,X6,X7,X8,X9,Xa,Xb,Xc,Xd,Xe,Xf,Xg,Xh,Xi,Xj,Xk,Xl,Xm,Xn,Xo,Xp,Xq,Xr,Xs,reduceIte,reduceCtorEq,ite_true,ite_false,if_true,if_false,Xt,Xu,Xv,Xw,Xx,Xy,and_true,true_and,and_self,true_imp_iff,false_imp_iff,eq_self,not_true_eq_false,not_false_eq_true,ne_eq,decide_true,decide_false,Xz,XA,XB,XC,XD,XE,XF,XG,XH,XI,XJ,XK,XL,XM,XN,XO,XP,XQ,XR,Try.q3,Try.q4,Try.q22,Try.q23,Try.q25,Try.q27,Try.q29,Try.q31,Try.q33,Try.q36,Try.q37]
        refine awp_vc (by kernel_rfl) ?_
        simp -implicitDefEqProofs only [wi,Q0,Q1,Q2,Q3,Q4,Q5,Q6,Q7,Q8,Q9,Qa,Qb,Qc,Qd,Qe,Qf,Qg,Qh,Qi,Qj,Qk,Ql,Qm,Qn,Qo,Qp,Qq,Qr,Qs,Qt,Qu,Qv,Qw,Qx,Qy,Qz,QA,QB,QC,QD,QE,QF,QG,QH,QI,QJ,QK,QL,QM,QN,QO,QP,QQ,QR,QS,QT,QU,QV,QW,QX,QY,QZ,X0,X1,X2,X3,X4,X5,X6,X7,X8,X9,Xa,Xb,Xc,Xd,Xe,Xf,Xg,Xh,Xi,Xj,Xk,Xl,Xm,Xn,Xo,Xp,Xq,Xr,Xs,reduceIte,reduceCtorEq,ite_true,ite_false,if_true,if_false,Xt,Xu,Xv,Xw,Xx,Xy,and_true,true_and,and_self,true_imp_iff,false_imp_iff,eq_self,not_true_eq_false,not_false_eq_true,ne_eq,decide_true,decide_false,Xz,XA,XB,XC,XD,XE,XF,XG,XH,XI,XJ,XK,XL,XM,XN,XO,XP,XQ,XR,Try.q3,Try.q4,Try.q22,Try.q23,Try.q25,Try.q27,Try.q29,Try.q31,Try.q33,Try.q36,Try.q37]
        exact ⟨i + 1, by simp [sub_cons, sub_nil, get_cons], ⟨by omega, _, _, (hOk.void (by omega) (k := 3) (by omega) dn o.ix o.dy).up (by omega), hL2⟩, by omega⟩
    · have d1 : decide ((i : Int) < (ops.length : Int)) = false := decide_eq_false (by omega)
      refine awp_vc (by kernel_rfl) ?_
      simp -implicitDefEqProofs only [d1,lm,seqA_normal,cutK_normal,Q0,Q1,Q2,Q3,Q4,Q5,Q6,Q7,Q8,Q9,Qa,Qb,Qc,Qd,Qe,Qf,Qg,Qh,Qi,Qj,Qk,Ql,Qm,Qn,Qo,Qp,Qq,Qr,Qs,Qt,Qu,Qv,Qw,Qx,Qy,Qz,QA,QB,QC,QD,QE,QF,QG,QH,QI,QJ,QK,QL,QM,QN,QO,QP,QQ,QR,QS,QT,QU,QV,QW,QX,QY,QZ,X0,X1,X2,X3,X4,X5,X6,X7,X8,X9,Xa,Xb,Xc,Xd,Xe,Xf,Xg,Xh,Xi,Xj,Xk,Xl,Xm,Xn,Xo,Xp,Xq,Xr,Xs,reduceIte,reduceCtorEq,ite_true,ite_false,if_true,if_false,Xt,Xu,Xv,Xw,Xx,Xy,and_true,true_and,and_self,true_imp_iff,false_imp_iff,eq_self,not_true_eq_false,not_false_eq_true,ne_eq,decide_true,decide_false,Xz,XA,XB,XC,XD,XE,XF,XG,XH,XI,XJ,XK,XL,XM,XN,XO,XP,XQ,XR,Try.q3,Try.q4,Try.q22,Try.q23,Try.q25,Try.q27,Try.q29,Try.q31,Try.q33,Try.q36,Try.q37]
      exact ⟨es, dn, hOk.up (by omega), hL⟩
  rintro e' s' ⟨⟨es, dn, hOk, hL⟩, he⟩
  refine awp_subJ _ he ?_
  clear he e' hL0 hx0 s0
  have hV := hOk.val
  have hes : es.length ≤ 20000 := by have := hOk.len; omega
  have hbox := hL.1
  refine awp_seq (awp_vc (by kernel_rfl) ?_)
  simp -implicitDefEqProofs only [seqA_normal,seqA_ret,seqA_exit,Q0,Q1,Q2,Q3,Q4,Q5,Q6,Q7,Q8,Q9,Qa,Qb,Qc,Qd,Qe,Qf,Qg,Qh,Qi,Qj,Qk,Ql,Qm,Qn,Qo,Qp,Qq,Qr,Qs,Qt,Qu,Qv,Qw,Qx,Qy,Qz,QA,QB,QC,QD,QE,QF,QG,QH,QI,QJ,QK,QL,QM,QN,QO,QP,QQ,QR,QS,QT,QU,QV,QW,QX,QY,QZ,X0,X1,X2,X3,X4,X5,X6,X7,X8,X9,Xa,Xb,Xc,Xd,Xe,Xf,Xg,Xh,Xi,Xj,Xk,Xl,Xm,Xn,Xo,Xp,Xq,Xr,Xs,reduceIte,reduceCtorEq,ite_true,ite_false,if_true,if_false,Xt,Xu,Xv,Xw,Xx,Xy,and_true,true_and,and_self,true_imp_iff,false_imp_iff,eq_self,not_true_eq_false,not_false_eq_true,ne_eq,decide_true,decide_false,Xz,XA,XB,XC,XD,XE,XF,XG,XH,XI,XJ,XK,XL,XM,XN,XO,XP,XQ,XR,Try.q3,Try.q4,Try.q22,Try.q23,Try.q25,Try.q27,Try.q29,Try.q31,Try.q33,Try.q36,Try.q37]
  refine awp_loopW (fun c : Nat => [(6, .int .i64 c), (3, .ptr id 0)]) (fun c s => c ≤ 2 ∧ s = s') (fun c => 2 - c) 0 (by simp [sub_cons, sub_nil, get_cons]) ⟨by omega, rfl⟩ ?_
  rintro c s ⟨hc, rfl⟩
  by_cases hlc : c < 2
  · have d1 : decide ((c : Int) < 2) = true := decide_eq_true (by omega)
    have wc : IntKind.i64.wrap ((c : Int) + 1) = ((c + 1 : Nat) : Int) := by rw [wrap_i64 (by omega) (by omega)]; rfl
    refine awp_seq (awp_vc (by kernel_rfl) ?_)
    simp -implicitDefEqProofs only [seqA_normal,seqA_ret,seqA_exit,d1,Q0,Q1,Q2,Q3,Q4,Q5,Q6,Q7,Q8,Q9,Qa,Qb,Qc,Qd,Qe,Qf,Qg,Qh,Qi,Qj,Qk,Ql,Qm,Qn,Qo,Qp,Qq,Qr,Qs,Qt,Qu,Qv,Qw,Qx,Qy,Qz,QA,QB,QC,QD,QE,QF,QG,QH,QI,QJ,QK,QL,QM,QN,QO,QP,QQ,QR,QS,QT,QU,QV,QW,QX,QY,QZ,X0,X1,X2,X3,X4,X5,X6,X7,X8,X9,Xa,Xb,Xc,Xd,Xe,Xf,Xg,Xh,Xi,Xj,Xk,Xl,Xm,Xn,Xo,Xp,Xq,Xr,Xs,reduceIte,reduceCtorEq,ite_true,ite_false,if_true,if_false,Xt,Xu,Xv,Xw,Xx,Xy,and_true,true_and,and_self,true_imp_iff,false_imp_iff,eq_self,not_true_eq_false,not_false_eq_true,ne_eq,decide_true,decide_false,Xz,XA,XB,XC,XD,XE,XF,XG,XH,XI,XJ,XK,XL,XM,XN,XO,XP,XQ,XR,Try.q3,Try.q4,Try.q22,Try.q23,Try.q25,Try.q27,Try.q29,Try.q31,Try.q33,Try.q36,Try.q37]
    refine awp_seq (awp_blk ?_)
    refine awp_seq (awp_vc (by kernel_rfl) ?_)
    simp -implicitDefEqProofs only [seqA_normal,seqA_ret,seqA_exit,Q0,Q1,Q2,Q3,Q4,Q5,Q6,Q7,Q8,Q9,Qa,Qb,Qc,Qd,Qe,Qf,Qg,Qh,Qi,Qj,Qk,Ql,Qm,Qn,Qo,Qp,Qq,Qr,Qs,Qt,Qu,Qv,Qw,Qx,Qy,Qz,QA,QB,QC,QD,QE,QF,QG,QH,QI,QJ,QK,QL,QM,QN,QO,QP,QQ,QR,QS,QT,QU,QV,QW,QX,QY,QZ,X0,X1,X2,X3,X4,X5,X6,X7,X8,X9,Xa,Xb,Xc,Xd,Xe,Xf,Xg,Xh,Xi,Xj,Xk,Xl,Xm,Xn,Xo,Xp,Xq,Xr,Xs,reduceIte,reduceCtorEq,ite_true,ite_false,if_true,if_false,Xt,Xu,Xv,Xw,Xx,Xy,and_true,true_and,and_self,true_imp_iff,false_imp_iff,eq_self,not_true_eq_false,not_false_eq_true,ne_eq,decide_true,decide_false,Xz,XA,XB,XC,XD,XE,XF,XG,XH,XI,XJ,XK,XL,XM,XN,XO,XP,XQ,XR,Try.q3,Try.q4,Try.q22,Try.q23,Try.q25,Try.q27,Try.q29,Try.q31,Try.q33,Try.q36,Try.q37]
    refine awp_blk ?_
    refine awp_loopW (fun q : Nat => [(7, .int .i64 ((98 + q : Nat) : Int)), (6, .int .i64 c), (3, .ptr id 0)]) (fun q s' => q ≤ 16 ∧ s' = s) (fun q => 16 - q) 0 (by simp [sub_cons, sub_nil, get_cons]) ⟨by omega, rfl⟩ ?_
    rintro q s1 ⟨hq, rfl⟩
    by_cases hlq : q < 16
    · have d2 : decide (((98 + q : Nat) : Int) < 114) = true := decide_eq_true (by omega)
      have wq : IntKind.i64.wrap (((98 + q : Nat) : Int) + 1) = ((98 + (q + 1) : Nat) : Int) := by rw [wrap_i64 (by omega) (by omega)]; omega
      obtain ⟨D, hD⟩ : ∃ D : Int, D = ((98 + q : Nat) : Int) := ⟨_, rfl⟩
      have hDb : 0 ≤ D ∧ D ≤ 131072 := by omega
      rw [← hD] at d2 wq ⊢
      refine awp_seq (awp_vc (by kernel_rfl) ?_)
      simp -implicitDefEqProofs only [seqA_normal,seqA_ret,seqA_exit,d2,Q0,Q1,Q2,Q3,Q4,Q5,Q6,Q7,Q8,Q9,Qa,Qb,Qc,Qd,Qe,Qf,Qg,Qh,Qi,Qj,Qk,Ql,Qm,Qn,Qo,Qp,Qq,Qr,Qs,Qt,Qu,Qv,Qw,Qx,Qy,Qz,QA,QB,QC,QD,QE,QF,QG,QH,QI,QJ,QK,QL,QM,QN,QO,QP,QQ,QR,QS,QT,QU,QV,QW,QX,QY,QZ,X0,X1,X2,X3,X4,X5,X6,X7,X8,X9,Xa,Xb,Xc,Xd,Xe,Xf,Xg,Xh,Xi,Xj,Xk,Xl,Xm,Xn,Xo,Xp,Xq,Xr,Xs,reduceIte,reduceCtorEq,ite_true,ite_false,if_true,if_false,Xt,Xu,Xv,Xw,Xx,Xy,and_true,true_and,and_self,true_imp_iff,false_imp_iff,eq_self,not_true_eq_false,not_false_eq_true,ne_eq,decide_true,decide_false,Xz,XA,XB,XC,XD,XE,XF,XG,XH,XI,XJ,XK,XL,XM,XN,XO,XP,XQ,XR,Try.q3,Try.q4,Try.q22,Try.q23,Try.q25,Try.q27,Try.q29,Try.q31,Try.q33,Try.q36,Try.q37]
      refine awp_seq (awp_blk ?_)
      refine awp_seq (awp_vc (by kernel_rfl) ?_)
      simp -implicitDefEqProofs only [seqA_normal,seqA_ret,seqA_exit,Q0,Q1,Q2,Q3,Q4,Q5,Q6,Q7,Q8,Q9,Qa,Qb,Qc,Qd,Qe,Qf,Qg,Qh,Qi,Qj,Qk,Ql,Qm,Qn,Qo,Qp,Qq,Qr,Qs,Qt,Qu,Qv,Qw,Qx,Qy,Qz,QA,QB,QC,QD,QE,QF,QG,QH,QI,QJ,QK,QL,QM,QN,QO,QP,QQ,QR,QS,QT,QU,QV,QW,QX,QY,QZ,X0,X1,X2,X3,X4,X5,X6,X7,X8,X9,Xa,Xb,Xc,Xd,Xe,Xf,Xg,Xh,Xi,Xj,Xk,Xl,Xm,Xn,Xo,Xp,Xq,Xr,Xs,reduceIte,reduceCtorEq,ite_true,ite_false,if_true,if_false,Xt,Xu,Xv,Xw,Xx,Xy,and_true,true_and,and_self,true_imp_iff,false_imp_iff,eq_self,not_true_eq_false,not_false_eq_true,ne_eq,decide_true,decide_false,Xz,XA,XB,XC,XD,XE,XF,XG,XH,XI,XJ,XK,XL,XM,XN,XO,XP,XQ,XR,Try.q3,Try.q4,Try.q22,Try.q23,Try.q25,Try.q27,Try.q29,Try.q31,Try.q33,Try.q36,Try.q37]
      refine awp_seq ?_
      refine awp_seq (awp_vc (by kernel_rfl) ?_)
      simp -implicitDefEqProofs only [seqA_normal,seqA_ret,seqA_exit,Q0,Q1,Q2,Q3,Q4,Q5,Q6,Q7,Q8,Q9,Qa,Qb,Qc,Qd,Qe,Qf,Qg,Qh,Qi,Qj,Qk,Ql,Qm,Qn,Qo,Qp,Qq,Qr,Qs,Qt,Qu,Qv,Qw,Qx,Qy,Qz,QA,QB,QC,QD,QE,QF,QG,QH,QI,QJ,QK,QL,QM,QN,QO,QP,QQ,QR,QS,QT,QU,QV,QW,QX,QY,QZ,X0,X1,X2,X3,X4,X5,X6,X7,X8,X9,Xa,Xb,Xc,Xd,Xe,Xf,Xg,Xh,Xi,Xj,Xk,Xl,Xm,Xn,Xo,Xp,Xq,Xr,Xs,reduceIte,reduceCtorEq,ite_true,ite_false,if_true,if_false,Xt,Xu,Xv,Xw,Xx,Xy,and_true,true_and,and_self,true_imp_iff,false_imp_iff,eq_self,not_true_eq_false,not_false_eq_true,ne_eq,decide_true,decide_false,Xz,XA,XB,XC,XD,XE,XF,XG,XH,XI,XJ,XK,XL,XM,XN,XO,XP,XQ,XR,Try.q3,Try.q4,Try.q22,Try.q23,Try.q25,Try.q27,Try.q29,Try.q31,Try.q33,Try.q36,Try.q37]
      refine awp_blk ?_
      refine awp_loopW (fun a : Nat => [(9, .int .i64 a), (8, .int .i64 (accS es c D a)), (7, .int .i64 D), (6, .int .i64 c), (3, .ptr id 0)]) (fun a s' => a ≤ 6 ∧ s' = s1 ∧ -(21990232555520000 * (a : Int)) ≤ accS es c D a ∧ accS es c D a ≤ 21990232555520000 * (a : Int)) (fun a => 6 - a) 0 (by simp [sub_cons, sub_nil, get_cons, accS]) ⟨by omega, rfl, by simp [accS], by simp [accS]⟩ ?_
      rintro a s2 ⟨ha, rfl, hS1, hS2⟩
      by_cases hla : a < 6
      · have d3 : decide ((a : Int) < 6) = true := decide_eq_true (by omega)
        have wa : IntKind.i64.wrap ((a : Int) + 1) = ((a + 1 : Nat) : Int) := by rw [wrap_i64 (by omega) (by omega)]; rfl
        have kb := c_Balance es hes hV a c D _ s2 id hbox
        have kt := c_Turnover es hes hV a c 0 D _ s2 id hbox
        rw [balQ_ok hV (by omega) (by omega) hDb] at kb
        rw [turnQ_ok (by omega) (by omega) (by omega) (by omega)] at kt
        have bi := sumL_small hes fun x hx => inF_b (hV x hx) a c 0 D
        have bo := sumL_small hes fun x hx => outF_b (hV x hx) a c 0 D
        have hbi := bal_in hV a c D
        have hpos : a ≠ 0 → 0 ≤ bal es a c D := fun h => hOk.snd _ _ _ (by omega)
        have hacc : accS es c D (a + 1) = accS es c D a + bal es a c D := rfl
        simp only at kb kt
        generalize sumL (inF a c 0 D) es = u at *
        generalize sumL (outF a c 0 D) es = v at *
        generalize hB : bal es a c D = B at *
        have wuv : IntKind.i64.wrap (u - v) = B := by rw [wrap_i64 (by omega) (by omega)]; exact hbi
        have wS : IntKind.i64.wrap (accS es c D a + B) = accS es c D (a + 1) := by rw [hacc, wrap_i64 (by omega) (by omega)]
        have e1 : decide (B = B) = true := decide_eq_true rfl
        have e2 : decide (u < 0) = false := decide_eq_false (by omega)
        have e3 : decide (v < 0) = false := decide_eq_false (by omega)
        refine awp_vc (by kernel_rfl) ?_
        by_cases ha0 : a = 0
        · have e4 : decide ((0 : Int) < (a : Int)) = false := decide_eq_false (by omega)
          simp -implicitDefEqProofs only [d3,Q0,Q1,Q2,Q3,Q4,Q5,Q6,Q7,Q8,Q9,Qa,Qb,Qc,Qd,Qe,Qf,Qg,Qh,Qi,Qj,Qk,Ql,Qm,Qn,Qo,Qp,Qq,Qr,Qs,Qt,Qu,Qv,Qw,Qx,Qy,Qz,QA,QB,QC,QD,QE,QF,QG,QH,QI,QJ,QK,QL,QM,QN,QO,QP,QQ,QR,QS,QT,QU,QV,QW,QX,QY,QZ,X0,X1,X2,X3,X4,X5,X6,X7,X8,X9,Xa,Xb,Xc,Xd,Xe,Xf,Xg,Xh,Xi,Xj,Xk,Xl,Xm,Xn,Xo,Xp,Xq,Xr,Xs,reduceIte,reduceCtorEq,ite_true,ite_false,if_true,if_false,Xt,Xu,Xv,Xw,Xx,Xy,and_true,true_and,and_self,true_imp_iff,false_imp_iff,eq_self,not_true_eq_false,not_false_eq_true,ne_eq,decide_true,decide_false,Xz,XA,XB,XC,XD,XE,XF,XG,XH,XI,XJ,XK,XL,XM,XN,XO,XP,XQ,XR,Try.q3,Try.q4,Try.q22,Try.q23,Try.q25,Try.q27,Try.q29,Try.q31,Try.q33,Try.q36,Try.q37]
          refine acalls_then (kb) ?_
          simp -implicitDefEqProofs only [Q0,Q1,Q2,Q3,Q4,Q5,Q6,Q7,Q8,Q9,Qa,Qb,Qc,Qd,Qe,Qf,Qg,Qh,Qi,Qj,Qk,Ql,Qm,Qn,Qo,Qp,Qq,Qr,Qs,Qt,Qu,Qv,Qw,Qx,Qy,Qz,QA,QB,QC,QD,QE,QF,QG,QH,QI,QJ,QK,QL,QM,QN,QO,QP,QQ,QR,QS,QT,QU,QV,QW,QX,QY,QZ,X0,X1,X2,X3,X4,X5,X6,X7,X8,X9,Xa,Xb,Xc,Xd,Xe,Xf,Xg,Xh,Xi,Xj,Xk,Xl,Xm,Xn,Xo,Xp,Xq,Xr,Xs,reduceIte,reduceCtorEq,ite_true,ite_false,if_true,if_false,Xt,Xu,Xv,Xw,Xx,Xy,and_true,true_and,and_self,true_imp_iff,false_imp_iff,eq_self,not_true_eq_false,not_false_eq_true,ne_eq,decide_true,decide_false,Xz,XA,XB,XC,XD,XE,XF,XG,XH,XI,XJ,XK,XL,XM,XN,XO,XP,XQ,XR,Try.q3,Try.q4,Try.q22,Try.q23,Try.q25,Try.q27,Try.q29,Try.q31,Try.q33,Try.q36,Try.q37]
          refine acalls_then (kt) ?_
          simp -implicitDefEqProofs only [wuv,e1,e2,e3,e4,wS,wa,Q0,Q1,Q2,Q3,Q4,Q5,Q6,Q7,Q8,Q9,Qa,Qb,Qc,Qd,Qe,Qf,Qg,Qh,Qi,Qj,Qk,Ql,Qm,Qn,Qo,Qp,Qq,Qr,Qs,Qt,Qu,Qv,Qw,Qx,Qy,Qz,QA,QB,QC,QD,QE,QF,QG,QH,QI,QJ,QK,QL,QM,QN,QO,QP,QQ,QR,QS,QT,QU,QV,QW,QX,QY,QZ,X0,X1,X2,X3,X4,X5,X6,X7,X8,X9,Xa,Xb,Xc,Xd,Xe,Xf,Xg,Xh,Xi,Xj,Xk,Xl,Xm,Xn,Xo,Xp,Xq,Xr,Xs,reduceIte,reduceCtorEq,ite_true,ite_false,if_true,if_false,Xt,Xu,Xv,Xw,Xx,Xy,and_true,true_and,and_self,true_imp_iff,false_imp_iff,eq_self,not_true_eq_false,not_false_eq_true,ne_eq,decide_true,decide_false,Xz,XA,XB,XC,XD,XE,XF,XG,XH,XI,XJ,XK,XL,XM,XN,XO,XP,XQ,XR,Try.q3,Try.q4,Try.q22,Try.q23,Try.q25,Try.q27,Try.q29,Try.q31,Try.q33,Try.q36,Try.q37]
          exact ⟨a + 1, by simp [sub_cons, sub_nil, get_cons], ⟨by omega, by omega, by omega⟩, by omega⟩
        · have e4 : decide ((0 : Int) < (a : Int)) = true := decide_eq_true (by omega)
          have e5 : decide (B < 0) = false := decide_eq_false (by have := hpos ha0; omega)
          simp -implicitDefEqProofs only [d3,Q0,Q1,Q2,Q3,Q4,Q5,Q6,Q7,Q8,Q9,Qa,Qb,Qc,Qd,Qe,Qf,Qg,Qh,Qi,Qj,Qk,Ql,Qm,Qn,Qo,Qp,Qq,Qr,Qs,Qt,Qu,Qv,Qw,Qx,Qy,Qz,QA,QB,QC,QD,QE,QF,QG,QH,QI,QJ,QK,QL,QM,QN,QO,QP,QQ,QR,QS,QT,QU,QV,QW,QX,QY,QZ,X0,X1,X2,X3,X4,X5,X6,X7,X8,X9,Xa,Xb,Xc,Xd,Xe,Xf,Xg,Xh,Xi,Xj,Xk,Xl,Xm,Xn,Xo,Xp,Xq,Xr,Xs,reduceIte,reduceCtorEq,ite_true,ite_false,if_true,if_false,Xt,Xu,Xv,Xw,Xx,Xy,and_true,true_and,and_self,true_imp_iff,false_imp_iff,eq_self,not_true_eq_false,not_false_eq_true,ne_eq,decide_true,decide_false,Xz,XA,XB,XC,XD,XE,XF,XG,XH,XI,XJ,XK,XL,XM,XN,XO,XP,XQ,XR,Try.q3,Try.q4,Try.q22,Try.q23,Try.q25,Try.q27,Try.q29,Try.q31,Try.q33,Try.q36,Try.q37]
          refine acalls_then (kb) ?_
          simp -implicitDefEqProofs only [Q0,Q1,Q2,Q3,Q4,Q5,Q6,Q7,Q8,Q9,Qa,Qb,Qc,Qd,Qe,Qf,Qg,Qh,Qi,Qj,Qk,Ql,Qm,Qn,Qo,Qp,Qq,Qr,Qs,Qt,Qu,Qv,Qw,Qx,Qy,Qz,QA,QB,QC,QD,QE,QF,QG,QH,QI,QJ,QK,QL,QM,QN,QO,QP,QQ,QR,QS,QT,QU,QV,QW,QX,QY,QZ,X0,X1,X2,X3,X4,X5,X6,X7,X8,X9,Xa,Xb,Xc,Xd,Xe,Xf,Xg,Xh,Xi,Xj,Xk,Xl,Xm,Xn,Xo,Xp,Xq,Xr,Xs,reduceIte,reduceCtorEq,ite_true,ite_false,if_true,if_false,Xt,Xu,Xv,Xw,Xx,Xy,and_true,true_and,and_self,true_imp_iff,false_imp_iff,eq_self,not_true_eq_false,not_false_eq_true,ne_eq,decide_true,decide_false,Xz,XA,XB,XC,XD,XE,XF,XG,XH,XI,XJ,XK,XL,XM,XN,XO,XP,XQ,XR,Try.q3,Try.q4,Try.q22,Try.q23,Try.q25,Try.q27,Try.q29,Try.q31,Try.q33,Try.q36,Try.q37]
          refine acalls_then (kt) ?_
          simp -implicitDefEqProofs only [wuv,e1,e2,e3,e4,e5,wS,wa,Q0,Q1,Q2,Q3,Q4,Q5,Q6,Q7,Q8,Q9,Qa,Qb,Qc,Qd,Qe,Qf,Qg,Qh,Qi,Qj,Qk,Ql,Qm,Qn,Qo,Qp,Qq,Qr,Qs,Qt,Qu,Qv,Qw,Qx,Qy,Qz,QA,QB,QC,QD,QE,QF,QG,QH,QI,QJ,QK,QL,QM,QN,QO,QP,QQ,QR,QS,QT,QU,QV,QW,QX,QY,QZ,X0,X1,X2,X3,X4,X5,X6,X7,X8,X9,Xa,Xb,Xc,Xd,Xe,Xf,Xg,Xh,Xi,Xj,Xk,Xl,Xm,Xn,Xo,Xp,Xq,Xr,Xs,reduceIte,reduceCtorEq,ite_true,ite_false,if_true,if_false,Xt,Xu,Xv,Xw,Xx,Xy,and_true,true_and,and_self,true_imp_iff,false_imp_iff,eq_self,not_true_eq_false,not_false_eq_true,ne_eq,decide_true,decide_false,Xz,XA,XB,XC,XD,XE,XF,XG,XH,XI,XJ,XK,XL,XM,XN,XO,XP,XQ,XR,Try.q3,Try.q4,Try.q22,Try.q23,Try.q25,Try.q27,Try.q29,Try.q31,Try.q33,Try.q36,Try.q37]
          exact ⟨a + 1, by simp [sub_cons, sub_nil, get_cons], ⟨by omega, by omega, by omega⟩, by omega⟩
      · have d3 : decide ((a : Int) < 6) = false := decide_eq_false (by omega)
        have ha6 : a = 6 := by omega
        subst ha6
        rw [accS_six hV hOk.acc]
        refine awp_vc (by kernel_rfl) ?_
        simp -implicitDefEqProofs only [d3,seqA_normal,Q0,Q1,Q2,Q3,Q4,Q5,Q6,Q7,Q8,Q9,Qa,Qb,Qc,Qd,Qe,Qf,Qg,Qh,Qi,Qj,Qk,Ql,Qm,Qn,Qo,Qp,Qq,Qr,Qs,Qt,Qu,Qv,Qw,Qx,Qy,Qz,QA,QB,QC,QD,QE,QF,QG,QH,QI,QJ,QK,QL,QM,QN,QO,QP,QQ,QR,QS,QT,QU,QV,QW,QX,QY,QZ,X0,X1,X2,X3,X4,X5,X6,X7,X8,X9,Xa,Xb,Xc,Xd,Xe,Xf,Xg,Xh,Xi,Xj,Xk,Xl,Xm,Xn,Xo,Xp,Xq,Xr,Xs,reduceIte,reduceCtorEq,ite_true,ite_false,if_true,if_false,Xt,Xu,Xv,Xw,Xx,Xy,and_true,true_and,and_self,true_imp_iff,false_imp_iff,eq_self,not_true_eq_false,not_false_eq_true,ne_eq,decide_true,decide_false,Xz,XA,XB,XC,XD,XE,XF,XG,XH,XI,XJ,XK,XL,XM,XN,XO,XP,XQ,XR,Try.q3,Try.q4,Try.q22,Try.q23,Try.q25,Try.q27,Try.q29,Try.q31,Try.q33,Try.q36,Try.q37]
        refine awp_vc (by kernel_rfl) ?_
        simp -implicitDefEqProofs only [seqA_normal,Q0,Q1,Q2,Q3,Q4,Q5,Q6,Q7,Q8,Q9,Qa,Qb,Qc,Qd,Qe,Qf,Qg,Qh,Qi,Qj,Qk,Ql,Qm,Qn,Qo,Qp,Qq,Qr,Qs,Qt,Qu,Qv,Qw,Qx,Qy,Qz,QA,QB,QC,QD,QE,QF,QG,QH,QI,QJ,QK,QL,QM,QN,QO,QP,QQ,QR,QS,QT,QU,QV,QW,QX,QY,QZ,X0,X1,X2,X3,X4,X5,X6,X7,X8,X9,Xa,Xb,Xc,Xd,Xe,Xf,Xg,Xh,Xi,Xj,Xk,Xl,Xm,Xn,Xo,Xp,Xq,Xr,Xs,reduceIte,reduceCtorEq,ite_true,ite_false,if_true,if_false,Xt,Xu,Xv,Xw,Xx,Xy,and_true,true_and,and_self,true_imp_iff,false_imp_iff,eq_self,not_true_eq_false,not_false_eq_true,ne_eq,decide_true,decide_false,Xz,XA,XB,XC,XD,XE,XF,XG,XH,XI,XJ,XK,XL,XM,XN,XO,XP,XQ,XR,Try.q3,Try.q4,Try.q22,Try.q23,Try.q25,Try.q27,Try.q29,Try.q31,Try.q33,Try.q36,Try.q37]
        refine awp_vc (by kernel_rfl) ?_
        simp -implicitDefEqProofs only [wq,Q0,Q1,Q2,Q3,Q4,Q5,Q6,Q7,Q8,Q9,Qa,Qb,Qc,Qd,Qe,Qf,Qg,Qh,Qi,Qj,Qk,Ql,Qm,Qn,Qo,Qp,Qq,Qr,Qs,Qt,Qu,Qv,Qw,Qx,Qy,Qz,QA,QB,QC,QD,QE,QF,QG,QH,QI,QJ,QK,QL,QM,QN,QO,QP,QQ,QR,QS,QT,QU,QV,QW,QX,QY,QZ,X0,X1,X2,X3,X4,X5,X6,X7,X8,X9,Xa,Xb,Xc,Xd,Xe,Xf,Xg,Xh,Xi,Xj,Xk,Xl,Xm,Xn,Xo,Xp,Xq,Xr,Xs,reduceIte,reduceCtorEq,ite_true,ite_false,if_true,if_false,Xt,Xu,Xv,Xw,Xx,Xy,and_true,true_and,and_self,true_imp_iff,false_imp_iff,eq_self,not_true_eq_false,not_false_eq_true,ne_eq,decide_true,decide_false,Xz,XA,XB,XC,XD,XE,XF,XG,XH,XI,XJ,XK,XL,XM,XN,XO,XP,XQ,XR,Try.q3,Try.q4,Try.q22,Try.q23,Try.q25,Try.q27,Try.q29,Try.q31,Try.q33,Try.q36,Try.q37]
        exact ⟨q + 1, by simp [sub_cons, sub_nil, get_cons], by omega, by omega⟩
    · have d2 : decide (((98 + q : Nat) : Int) < 114) = false := decide_eq_false (by omega)
      refine awp_vc (by kernel_rfl) ?_
      simp -implicitDefEqProofs only [d2,seqA_normal,Q0,Q1,Q2,Q3,Q4,Q5,Q6,Q7,Q8,Q9,Qa,Qb,Qc,Qd,Qe,Qf,Qg,Qh,Qi,Qj,Qk,Ql,Qm,Qn,Qo,Qp,Qq,Qr,Qs,Qt,Qu,Qv,Qw,Qx,Qy,Qz,QA,QB,QC,QD,QE,QF,QG,QH,QI,QJ,QK,QL,QM,QN,QO,QP,QQ,QR,QS,QT,QU,QV,QW,QX,QY,QZ,X0,X1,X2,X3,X4,X5,X6,X7,X8,X9,Xa,Xb,Xc,Xd,Xe,Xf,Xg,Xh,Xi,Xj,Xk,Xl,Xm,Xn,Xo,Xp,Xq,Xr,Xs,reduceIte,reduceCtorEq,ite_true,ite_false,if_true,if_false,Xt,Xu,Xv,Xw,Xx,Xy,and_true,true_and,and_self,true_imp_iff,false_imp_iff,eq_self,not_true_eq_false,not_false_eq_true,ne_eq,decide_true,decide_false,Xz,XA,XB,XC,XD,XE,XF,XG,XH,XI,XJ,XK,XL,XM,XN,XO,XP,XQ,XR,Try.q3,Try.q4,Try.q22,Try.q23,Try.q25,Try.q27,Try.q29,Try.q31,Try.q33,Try.q36,Try.q37]
      refine awp_vc (by kernel_rfl) ?_
      simp -implicitDefEqProofs only [wc,Q0,Q1,Q2,Q3,Q4,Q5,Q6,Q7,Q8,Q9,Qa,Qb,Qc,Qd,Qe,Qf,Qg,Qh,Qi,Qj,Qk,Ql,Qm,Qn,Qo,Qp,Qq,Qr,Qs,Qt,Qu,Qv,Qw,Qx,Qy,Qz,QA,QB,QC,QD,QE,QF,QG,QH,QI,QJ,QK,QL,QM,QN,QO,QP,QQ,QR,QS,QT,QU,QV,QW,QX,QY,QZ,X0,X1,X2,X3,X4,X5,X6,X7,X8,X9,Xa,Xb,Xc,Xd,Xe,Xf,Xg,Xh,Xi,Xj,Xk,Xl,Xm,Xn,Xo,Xp,Xq,Xr,Xs,reduceIte,reduceCtorEq,ite_true,ite_false,if_true,if_false,Xt,Xu,Xv,Xw,Xx,Xy,and_true,true_and,and_self,true_imp_iff,false_imp_iff,eq_self,not_true_eq_false,not_false_eq_true,ne_eq,decide_true,decide_false,Xz,XA,XB,XC,XD,XE,XF,XG,XH,XI,XJ,XK,XL,XM,XN,XO,XP,XQ,XR,Try.q3,Try.q4,Try.q22,Try.q23,Try.q25,Try.q27,Try.q29,Try.q31,Try.q33,Try.q36,Try.q37]
      exact ⟨c + 1, by simp [sub_cons, sub_nil, get_cons], by omega, by omega⟩
  · have d1 : decide ((c : Int) < 2) = false := decide_eq_false (by omega)
    refine awp_vc (by kernel_rfl) ?_
    simp -implicitDefEqProofs only [d1,seqA_normal,Q0,Q1,Q2,Q3,Q4,Q5,Q6,Q7,Q8,Q9,Qa,Qb,Qc,Qd,Qe,Qf,Qg,Qh,Qi,Qj,Qk,Ql,Qm,Qn,Qo,Qp,Qq,Qr,Qs,Qt,Qu,Qv,Qw,Qx,Qy,Qz,QA,QB,QC,QD,QE,QF,QG,QH,QI,QJ,QK,QL,QM,QN,QO,QP,QQ,QR,QS,QT,QU,QV,QW,QX,QY,QZ,X0,X1,X2,X3,X4,X5,X6,X7,X8,X9,Xa,Xb,Xc,Xd,Xe,Xf,Xg,Xh,Xi,Xj,Xk,Xl,Xm,Xn,Xo,Xp,Xq,Xr,Xs,reduceIte,reduceCtorEq,ite_true,ite_false,if_true,if_false,Xt,Xu,Xv,Xw,Xx,Xy,and_true,true_and,and_self,true_imp_iff,false_imp_iff,eq_self,not_true_eq_false,not_false_eq_true,ne_eq,decide_true,decide_false,Xz,XA,XB,XC,XD,XE,XF,XG,XH,XI,XJ,XK,XL,XM,XN,XO,XP,XQ,XR,Try.q3,Try.q4,Try.q22,Try.q23,Try.q25,Try.q27,Try.q29,Try.q31,Try.q33,Try.q36,Try.q37]
    refine awp_vc (by kernel_rfl) ?_
    simp -implicitDefEqProofs only [Q0,Q1,Q2,Q3,Q4,Q5,Q6,Q7,Q8,Q9,Qa,Qb,Qc,Qd,Qe,Qf,Qg,Qh,Qi,Qj,Qk,Ql,Qm,Qn,Qo,Qp,Qq,Qr,Qs,Qt,Qu,Qv,Qw,Qx,Qy,Qz,QA,QB,QC,QD,QE,QF,QG,QH,QI,QJ,QK,QL,QM,QN,QO,QP,QQ,QR,QS,QT,QU,QV,QW,QX,QY,QZ,X0,X1,X2,X3,X4,X5,X6,X7,X8,X9,Xa,Xb,Xc,Xd,Xe,Xf,Xg,Xh,Xi,Xj,Xk,Xl,Xm,Xn,Xo,Xp,Xq,Xr,Xs,reduceIte,reduceCtorEq,ite_true,ite_false,if_true,if_false,Xt,Xu,Xv,Xw,Xx,Xy,and_true,true_and,and_self,true_imp_iff,false_imp_iff,eq_self,not_true_eq_false,not_false_eq_true,ne_eq,decide_true,decide_false,Xz,XA,XB,XC,XD,XE,XF,XG,XH,XI,XJ,XK,XL,XM,XN,XO,XP,XQ,XR,Try.q3,Try.q4,Try.q22,Try.q23,Try.q25,Try.q27,Try.q29,Try.q31,Try.q33,Try.q36,Try.q37]
    refine acalls_then (kL _) ?_
    simp -implicitDefEqProofs only [Q0,Q1,Q2,Q3,Q4,Q5,Q6,Q7,Q8,Q9,Qa,Qb,Qc,Qd,Qe,Qf,Qg,Qh,Qi,Qj,Qk,Ql,Qm,Qn,Qo,Qp,Qq,Qr,Qs,Qt,Qu,Qv,Qw,Qx,Qy,Qz,QA,QB,QC,QD,QE,QF,QG,QH,QI,QJ,QK,QL,QM,QN,QO,QP,QQ,QR,QS,QT,QU,QV,QW,QX,QY,QZ,X0,X1,X2,X3,X4,X5,X6,X7,X8,X9,Xa,Xb,Xc,Xd,Xe,Xf,Xg,Xh,Xi,Xj,Xk,Xl,Xm,Xn,Xo,Xp,Xq,Xr,Xs,reduceIte,reduceCtorEq,ite_true,ite_false,if_true,if_false,Xt,Xu,Xv,Xw,Xx,Xy,and_true,true_and,and_self,true_imp_iff,false_imp_iff,eq_self,not_true_eq_false,not_false_eq_true,ne_eq,decide_true,decide_false,Xz,XA,XB,XC,XD,XE,XF,XG,XH,XI,XJ,XK,XL,XM,XN,XO,XP,XQ,XR,Try.q3,Try.q4,Try.q22,Try.q23,Try.q25,Try.q27,Try.q29,Try.q31,Try.q33,Try.q36,Try.q37]

end Go.Proofs
