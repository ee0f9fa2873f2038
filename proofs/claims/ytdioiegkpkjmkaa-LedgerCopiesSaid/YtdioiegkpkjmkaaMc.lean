/-
  The ledger: entries compared; hashes; contracts.
-/
import Derived.Test.YtdioiegkpkjmkaaMb
import Derived.Test.YtdioiegkpkjmkaaHk
namespace Go.Proofs
open Go.Pa
open Go.Pa renaming VB0 → Q0, VB1 → Q1, VB2 → Q2, VB3 → Q3, VB4 → Q4, VB5 → Q5, VB6 → Q6, VB7 → Q7, VB8 → Q8, VB9 → Q9, condV_bool → Qa, guardV_bool → Qb, vcS → Qc, evA → Qd, evBin → Qe, nilA → Qf, nilOf → Qg, intOp → Qh, strOp → Qi, evUn → Qj, evConv → Qk, evField → Ql, evFieldAddr → Qm, evIndexAddr → Qn, evIndex → Qo, evIndexA → Qp, bnd → Qq, evSlice → Qr, evLen → Qs, evPick → Qt, evExtract → Qu, evNilCheck → Qv, evMin → Qw, evMax → Qx, evLoadI → Qy, partsOne → QA, intsOf → QB, rowsAV → QC, evBuildSlice → QD, evBuild → QE, fillA → QF, splice → QG, evBuiltin → QH, guardD_bool → QI, dOp → QJ, cl → QK, vcLoad → QL, vcStore → QM, vcMake → QN, convA → QO, evIndexArr → QP, retA → QQ, ressA → QR, resA → QS, envOf → QT, condR_bool → QX, asgEnv → QY, parEnv → QZ, dstAt → XI, vcLook → XT, vcPut → XU, vcEnt → XV, vcESt → XW, vcMLen → XX, vcDel → XY, vcClear → XZ, vcLookD → Y0
open Go.Pa.AV renaming cell → Qz
open Go.Pa.Env renaming put → QU
open List renaming set_cons_zero → QV, set_cons_succ → QW, foldl_cons → X0, foldl_nil → X1, map_cons → X2, map_nil → X3, toList_toArray → X4, getElem?_cons_zero → X5, getElem?_cons_succ → X6, nil_append → Xa, append_nil → Xb, cons_append → Xc, singleton_append → Xd, length_cons → Xe, length_nil → Xf, all_cons → Xg, all_nil → Xh, take_succ_cons → Xi, take_zero → Xj, take_nil → Xk, drop_zero → Xl, drop_succ_cons → Xm, drop_nil → Xn, contains_nil → Xo, contains_cons → Xp
open Option renaming bind_some → X7, map_some → X8, map_none → X9
open Bool renaming or_false → Xq, false_or → Xr, or_true → Xs, true_or → Xt, false_eq_true → XC, not_true → XD, not_false → XE, and_true → XF, true_and → XG, and_self → XH
open Nat renaming reduceEqDiff → Xu, reduceAdd → Xv, reduceSub → Xw, reduceMul → Xx, reduceLT → Xy, reduceLeDiff → Xz, reduceBNe → XA, reduceBEq → XB, zero_add → XL, add_zero → XM
open UInt8 renaming reduceToNat → XJ
open Int renaming cast_ofNat_Int → XK, reduceToNat → XN, reduceLT → XO, reduceLE → XP, reduceNeg → XQ, reduceEq → XR, reduceNe → XS
set_option linter.unusedSimpArgs false
set_option linter.unusedVariables false
set_option maxRecDepth 20000
set_option maxHeartbeats 4000000

theorem c_plain (es : List Ent) (hl : es.length ≤ 20000) (σ : Store) : ACalls Try.prog 26 [esV es] σ (fun r s => r = esV es ∧ s = σ) := by
  refine ACalls.frozen (ACalls.mono (R := fun r s => Ext σ s ∧ BufR s σ.length r 6 (es.map entA)) ?_ fun r s h => ⟨h.1, bufR_val h.2⟩)
  have lm : (es.map entA).length = es.length := List.length_map _
  refine acalls_of_vc (fn := Try.f26) Try.call26 Try.func26 rfl (by kernel_rfl) (by simp [Try.ntmps26]) ?_; simp -implicitDefEqProofs only [Try.ntmps26,Try.results26,Q0,Q1,Q2,Q3,Q4,Q5,Q6,Q7,Q8,Q9,Qa,Qb,Qc,Qd,Qe,Qf,Qg,Qh,Qi,Qj,Qk,Ql,Qm,Qn,Qo,Qp,Qq,Qr,Qs,Qt,Qu,Qv,Qw,Qx,Qy,Qz,QA,QB,QC,QD,QE,QF,QG,QH,QI,QJ,QK,QL,QM,QN,QO,QP,QQ,QR,QS,QT,QU,QV,QW,QX,QY,QZ,X0,X1,X2,X3,X4,X5,X6,X7,X8,X9,Xa,Xb,Xc,Xd,Xe,Xf,Xg,Xh,Xi,Xj,Xk,Xl,Xm,Xn,Xo,Xp,Xq,Xr,Xs,Xt,Xu,Xv,Xw,Xx,Xy,Xz,XA,XB,reduceIte,reduceCtorEq,XC,XD,XE,XF,XG,XH,XI,XJ,XK,XL,XM,XN,XO,XP,XQ,XR,XS,XT,XU,XV,XW,XX,XY,XZ,Y0,Try.q3,Try.q4,Try.q29,Try.q31,Try.underlying36,Try.q36,Try.underlying37,Try.q37]
  refine awp_loop (fun q : Nat × AV => [(4, .int .i64 q.1), (3, q.2), (0, esV es)]) (fun q s => q.1 ≤ es.length ∧ Ext σ s ∧ BufR s σ.length q.2 6 ((es.take q.1).map entA)) (fun q => es.length - q.1) (0, .nils) (by kernel_rfl) (by simp [sub_cons, sub_nil, get_cons]) ⟨by simp, .refl _, .inl ⟨.inl rfl, rfl⟩⟩ ?_
  rintro ⟨i, r⟩ s ⟨hi, hx, hbuf⟩
  simp only at hi hbuf
  by_cases hlt : i < es.length
  · have d1 : decide ((i : Int) < (es.length : Int)) = true := decide_eq_true (by omega)
    have hrow : (es.map entA).getD (i : Int).toNat [] = entA es[i] := by rw [Int.toNat_natCast, getD_get (by simpa using hlt)]; simp
    have wi : IntKind.i64.wrap ((i : Int) + 1) = ((i + 1 : Nat) : Int) := by rw [wrap_i64 (by omega) (by omega)]; rfl
    have bi : (0 : Int) ≤ (i : Int) ∧ (i : Int) < (es.length : Int) := by omega
    have ht := map_take1 es hlt
    have hle : ((es.take i).map entA).length = i := by rw [List.length_map, List.length_take]; omega
    generalize es[i] = e at *
    have hrow2 : (es.map entA).getD (i : Int).toNat [] = [.int .i64 e.day, .int .i64 e.fr, .int .i64 e.to, .int .i64 e.cur, .int .i64 e.amt, .int .i64 e.note] := hrow
    simp -implicitDefEqProofs only [lm,d1,hrow2,Q0,Q1,Q2,Q3,Q4,Q5,Q6,Q7,Q8,Q9,Qa,Qb,Qc,Qd,Qe,Qf,Qg,Qh,Qi,Qj,Qk,Ql,Qm,Qn,Qo,Qp,Qq,Qr,Qs,Qt,Qu,Qv,Qw,Qx,Qy,Qz,QA,QB,QC,QD,QE,QF,QG,QH,QI,QJ,QK,QL,QM,QN,QO,QP,QQ,QR,QS,QT,QU,QV,QW,QX,QY,QZ,X0,X1,X2,X3,X4,X5,X6,X7,X8,X9,Xa,Xb,Xc,Xd,Xe,Xf,Xg,Xh,Xi,Xj,Xk,Xl,Xm,Xn,Xo,Xp,Xq,Xr,Xs,Xt,Xu,Xv,Xw,Xx,Xy,Xz,XA,XB,reduceIte,reduceCtorEq,XC,XD,XE,XF,XG,XH,XI,XJ,XK,XL,XM,XN,XO,XP,XQ,XR,XS,XT,XU,XV,XW,XX,XY,XZ,Y0,Try.q3,Try.q4,Try.q29,Try.q31,Try.underlying36,Try.q36,Try.underlying37,Try.q37]
    refine ⟨bi, ?_⟩
    refine append_bufR (l' := [entA e]) Try.sl31 (by simp [Try.bt36]) hx hbuf rfl (by intro r hr; simp at hr; subst hr; rfl) (by simp only [appFits, Try.bt36, hle, List.length_cons, List.length_nil]; omega) fun r2 s2 hx2 hb2 => ?_
    simp -implicitDefEqProofs only [wi,Q0,Q1,Q2,Q3,Q4,Q5,Q6,Q7,Q8,Q9,Qa,Qb,Qc,Qd,Qe,Qf,Qg,Qh,Qi,Qj,Qk,Ql,Qm,Qn,Qo,Qp,Qq,Qr,Qs,Qt,Qu,Qv,Qw,Qx,Qy,Qz,QA,QB,QC,QD,QE,QF,QG,QH,QI,QJ,QK,QL,QM,QN,QO,QP,QQ,QR,QS,QT,QU,QV,QW,QX,QY,QZ,X0,X1,X2,X3,X4,X5,X6,X7,X8,X9,Xa,Xb,Xc,Xd,Xe,Xf,Xg,Xh,Xi,Xj,Xk,Xl,Xm,Xn,Xo,Xp,Xq,Xr,Xs,Xt,Xu,Xv,Xw,Xx,Xy,Xz,XA,XB,reduceIte,reduceCtorEq,XC,XD,XE,XF,XG,XH,XI,XJ,XK,XL,XM,XN,XO,XP,XQ,XR,XS,XT,XU,XV,XW,XX,XY,XZ,Y0,Try.q3,Try.q4,Try.q29,Try.q31,Try.underlying36,Try.q36,Try.underlying37,Try.q37]
    exact ⟨(i + 1, r2), ⟨rfl, rfl⟩, ⟨by simp only; omega, hx2, by simp only; rw [ht]; exact hb2⟩, by simp only; omega⟩
  · have d1 : decide ((i : Int) < (es.length : Int)) = false := decide_eq_false (by omega)
    rw [List.take_of_length_le (by omega)] at hbuf
    simp -implicitDefEqProofs only [lm,d1,Q0,Q1,Q2,Q3,Q4,Q5,Q6,Q7,Q8,Q9,Qa,Qb,Qc,Qd,Qe,Qf,Qg,Qh,Qi,Qj,Qk,Ql,Qm,Qn,Qo,Qp,Qq,Qr,Qs,Qt,Qu,Qv,Qw,Qx,Qy,Qz,QA,QB,QC,QD,QE,QF,QG,QH,QI,QJ,QK,QL,QM,QN,QO,QP,QQ,QR,QS,QT,QU,QV,QW,QX,QY,QZ,X0,X1,X2,X3,X4,X5,X6,X7,X8,X9,Xa,Xb,Xc,Xd,Xe,Xf,Xg,Xh,Xi,Xj,Xk,Xl,Xm,Xn,Xo,Xp,Xq,Xr,Xs,Xt,Xu,Xv,Xw,Xx,Xy,Xz,XA,XB,reduceIte,reduceCtorEq,XC,XD,XE,XF,XG,XH,XI,XJ,XK,XL,XM,XN,XO,XP,XQ,XR,XS,XT,XU,XV,XW,XX,XY,XZ,Y0,Try.q3,Try.q4,Try.q29,Try.q31,Try.underlying36,Try.q36,Try.underlying37,Try.q37]
    exact ⟨hx, hbuf⟩


theorem rr_Same (es : List Ent) (hl : es.length ≤ 20000) (σ : Store) : ACalls Try.prog 25 [esV es, esV es] σ (fun r s => r = .bool true ∧ s = σ) := by
  have lm : (es.map entA).length = es.length := List.length_map _
  have d0 : decide ((es.length : Int) = (es.length : Int)) = true := decide_eq_true rfl
  refine acalls_of_awp (fn := Try.f25) Try.call25 Try.func25 rfl (by simp [Try.ntmps25]) ?_
  simp only [Try.ntmps25, Try.results25]
  refine awp_seq (awp_vc (by kernel_rfl) ?_)
  simp -implicitDefEqProofs only [seqA_normal,seqA_ret,seqA_exit,lm,d0,Q0,Q1,Q2,Q3,Q4,Q5,Q6,Q7,Q8,Q9,Qa,Qb,Qc,Qd,Qe,Qf,Qg,Qh,Qi,Qj,Qk,Ql,Qm,Qn,Qo,Qp,Qq,Qr,Qs,Qt,Qu,Qv,Qw,Qx,Qy,Qz,QA,QB,QC,QD,QE,QF,QG,QH,QI,QJ,QK,QL,QM,QN,QO,QP,QQ,QR,QS,QT,QU,QV,QW,QX,QY,QZ,X0,X1,X2,X3,X4,X5,X6,X7,X8,X9,Xa,Xb,Xc,Xd,Xe,Xf,Xg,Xh,Xi,Xj,Xk,Xl,Xm,Xn,Xo,Xp,Xq,Xr,Xs,Xt,Xu,Xv,Xw,Xx,Xy,Xz,XA,XB,reduceIte,reduceCtorEq,XC,XD,XE,XF,XG,XH,XI,XJ,XK,XL,XM,XN,XO,XP,XQ,XR,XS,XT,XU,XV,XW,XX,XY,XZ,Y0,Try.q3,Try.q4,Try.q31,Try.underlying36,Try.q36]
  refine awp_seq (awp_vc (by kernel_rfl) ?_)
  simp -implicitDefEqProofs only [seqA_normal,seqA_ret,seqA_exit,lm,d0,Q0,Q1,Q2,Q3,Q4,Q5,Q6,Q7,Q8,Q9,Qa,Qb,Qc,Qd,Qe,Qf,Qg,Qh,Qi,Qj,Qk,Ql,Qm,Qn,Qo,Qp,Qq,Qr,Qs,Qt,Qu,Qv,Qw,Qx,Qy,Qz,QA,QB,QC,QD,QE,QF,QG,QH,QI,QJ,QK,QL,QM,QN,QO,QP,QQ,QR,QS,QT,QU,QV,QW,QX,QY,QZ,X0,X1,X2,X3,X4,X5,X6,X7,X8,X9,Xa,Xb,Xc,Xd,Xe,Xf,Xg,Xh,Xi,Xj,Xk,Xl,Xm,Xn,Xo,Xp,Xq,Xr,Xs,Xt,Xu,Xv,Xw,Xx,Xy,Xz,XA,XB,reduceIte,reduceCtorEq,XC,XD,XE,XF,XG,XH,XI,XJ,XK,XL,XM,XN,XO,XP,XQ,XR,XS,XT,XU,XV,XW,XX,XY,XZ,Y0,Try.q3,Try.q4,Try.q31,Try.underlying36,Try.q36]
  refine awp_seq (awp_vc (by kernel_rfl) ?_)
  simp -implicitDefEqProofs only [seqA_normal,seqA_ret,seqA_exit,lm,d0,Q0,Q1,Q2,Q3,Q4,Q5,Q6,Q7,Q8,Q9,Qa,Qb,Qc,Qd,Qe,Qf,Qg,Qh,Qi,Qj,Qk,Ql,Qm,Qn,Qo,Qp,Qq,Qr,Qs,Qt,Qu,Qv,Qw,Qx,Qy,Qz,QA,QB,QC,QD,QE,QF,QG,QH,QI,QJ,QK,QL,QM,QN,QO,QP,QQ,QR,QS,QT,QU,QV,QW,QX,QY,QZ,X0,X1,X2,X3,X4,X5,X6,X7,X8,X9,Xa,Xb,Xc,Xd,Xe,Xf,Xg,Xh,Xi,Xj,Xk,Xl,Xm,Xn,Xo,Xp,Xq,Xr,Xs,Xt,Xu,Xv,Xw,Xx,Xy,Xz,XA,XB,reduceIte,reduceCtorEq,XC,XD,XE,XF,XG,XH,XI,XJ,XK,XL,XM,XN,XO,XP,XQ,XR,XS,XT,XU,XV,XW,XX,XY,XZ,Y0,Try.q3,Try.q4,Try.q31,Try.underlying36,Try.q36]
  refine awp_loopW (fun i : Nat => [(5, .int .i64 i), (0, esV es), (1, esV es)]) (fun i s => i ≤ es.length ∧ s = σ) (fun i => es.length - i) 0 (by simp [sub_cons, sub_nil, get_cons]) ⟨by simp, rfl⟩ ?_
  rintro i s ⟨hi, rfl⟩
  by_cases hlt : i < es.length
  · have d1 : decide ((i : Int) < (es.length : Int)) = true := decide_eq_true (by omega)
    have wi : IntKind.i64.wrap ((i : Int) + 1) = ((i + 1 : Nat) : Int) := by rw [wrap_i64 (by omega) (by omega)]; rfl
    have hrow : (es.map entA).getD (i : Int).toNat [] = entA es[i] := by rw [Int.toNat_natCast, getD_get (by simpa using hlt)]; simp
    have bi : (0 : Int) ≤ (i : Int) ∧ (i : Int) < (es.length : Int) := by omega
    generalize es[i] = e at *
    have hrow2 : (es.map entA).getD (i : Int).toNat [] = [.int .i64 e.day, .int .i64 e.fr, .int .i64 e.to, .int .i64 e.cur, .int .i64 e.amt, .int .i64 e.note] := hrow
    refine awp_vc (by kernel_rfl) ?_
    simp -implicitDefEqProofs only [lm,d1,Q0,Q1,Q2,Q3,Q4,Q5,Q6,Q7,Q8,Q9,Qa,Qb,Qc,Qd,Qe,Qf,Qg,Qh,Qi,Qj,Qk,Ql,Qm,Qn,Qo,Qp,Qq,Qr,Qs,Qt,Qu,Qv,Qw,Qx,Qy,Qz,QA,QB,QC,QD,QE,QF,QG,QH,QI,QJ,QK,QL,QM,QN,QO,QP,QQ,QR,QS,QT,QU,QV,QW,QX,QY,QZ,X0,X1,X2,X3,X4,X5,X6,X7,X8,X9,Xa,Xb,Xc,Xd,Xe,Xf,Xg,Xh,Xi,Xj,Xk,Xl,Xm,Xn,Xo,Xp,Xq,Xr,Xs,Xt,Xu,Xv,Xw,Xx,Xy,Xz,XA,XB,reduceIte,reduceCtorEq,XC,XD,XE,XF,XG,XH,XI,XJ,XK,XL,XM,XN,XO,XP,XQ,XR,XS,XT,XU,XV,XW,XX,XY,XZ,Y0,Try.q3,Try.q4,Try.q31,Try.underlying36,Try.q36]
    refine awp_draws [] Try.mixed (by kernel_rfl) ?_
    simp -implicitDefEqProofs only [lm,hrow2,wi,Q0,Q1,Q2,Q3,Q4,Q5,Q6,Q7,Q8,Q9,Qa,Qb,Qc,Qd,Qe,Qf,Qg,Qh,Qi,Qj,Qk,Ql,Qm,Qn,Qo,Qp,Qq,Qr,Qs,Qt,Qu,Qv,Qw,Qx,Qy,Qz,QA,QB,QC,QD,QE,QF,QG,QH,QI,QJ,QK,QL,QM,QN,QO,QP,QQ,QR,QS,QT,QU,QV,QW,QX,QY,QZ,X0,X1,X2,X3,X4,X5,X6,X7,X8,X9,Xa,Xb,Xc,Xd,Xe,Xf,Xg,Xh,Xi,Xj,Xk,Xl,Xm,Xn,Xo,Xp,Xq,Xr,Xs,Xt,Xu,Xv,Xw,Xx,Xy,Xz,XA,XB,reduceIte,reduceCtorEq,XC,XD,XE,XF,XG,XH,XI,XJ,XK,XL,XM,XN,XO,XP,XQ,XR,XS,XT,XU,XV,XW,XX,XY,XZ,Y0,Try.q3,Try.q4,Try.q31,Try.underlying36,Try.q36]
    exact ⟨bi, bi, i + 1, rfl, by omega, by omega⟩
  · have d1 : decide ((i : Int) < (es.length : Int)) = false := decide_eq_false (by omega)
    refine awp_vc (by kernel_rfl) ?_
    simp -implicitDefEqProofs only [lm,d1,seqA_normal,Q0,Q1,Q2,Q3,Q4,Q5,Q6,Q7,Q8,Q9,Qa,Qb,Qc,Qd,Qe,Qf,Qg,Qh,Qi,Qj,Qk,Ql,Qm,Qn,Qo,Qp,Qq,Qr,Qs,Qt,Qu,Qv,Qw,Qx,Qy,Qz,QA,QB,QC,QD,QE,QF,QG,QH,QI,QJ,QK,QL,QM,QN,QO,QP,QQ,QR,QS,QT,QU,QV,QW,QX,QY,QZ,X0,X1,X2,X3,X4,X5,X6,X7,X8,X9,Xa,Xb,Xc,Xd,Xe,Xf,Xg,Xh,Xi,Xj,Xk,Xl,Xm,Xn,Xo,Xp,Xq,Xr,Xs,Xt,Xu,Xv,Xw,Xx,Xy,Xz,XA,XB,reduceIte,reduceCtorEq,XC,XD,XE,XF,XG,XH,XI,XJ,XK,XL,XM,XN,XO,XP,XQ,XR,XS,XT,XU,XV,XW,XX,XY,XZ,Y0,Try.q3,Try.q4,Try.q31,Try.underlying36,Try.q36]
    refine awp_vc (by kernel_rfl) ?_
    simp -implicitDefEqProofs only [Q0,Q1,Q2,Q3,Q4,Q5,Q6,Q7,Q8,Q9,Qa,Qb,Qc,Qd,Qe,Qf,Qg,Qh,Qi,Qj,Qk,Ql,Qm,Qn,Qo,Qp,Qq,Qr,Qs,Qt,Qu,Qv,Qw,Qx,Qy,Qz,QA,QB,QC,QD,QE,QF,QG,QH,QI,QJ,QK,QL,QM,QN,QO,QP,QQ,QR,QS,QT,QU,QV,QW,QX,QY,QZ,X0,X1,X2,X3,X4,X5,X6,X7,X8,X9,Xa,Xb,Xc,Xd,Xe,Xf,Xg,Xh,Xi,Xj,Xk,Xl,Xm,Xn,Xo,Xp,Xq,Xr,Xs,Xt,Xu,Xv,Xw,Xx,Xy,Xz,XA,XB,reduceIte,reduceCtorEq,XC,XD,XE,XF,XG,XH,XI,XJ,XK,XL,XM,XN,XO,XP,XQ,XR,XS,XT,XU,XV,XW,XX,XY,XZ,Y0,Try.q3,Try.q4,Try.q31,Try.underlying36,Try.q36]

/-- The words of which a ledger's hash is made. -/
def wordsE : List Ent → List Int
  | [] => []
  | e :: l => [e.day, e.fr, e.to, e.cur, e.amt, e.note] ++ wordsE l

theorem wordsE_app (l m : List Ent) : wordsE (l ++ m) = wordsE l ++ wordsE m := by
  induction l with
  | nil => rfl
  | cons e l ih => rw [List.cons_append, wordsE, wordsE, ih, List.append_assoc]

theorem wordsE_len (l : List Ent) : (wordsE l).length = 6 * l.length := by
  induction l with
  | nil => rfl
  | cons e l ih => rw [wordsE, List.length_append, ih, List.length_cons]; simp; omega

theorem wordsE_take (l : List Ent) {i : Nat} (h : i < l.length) : wordsE (l.take (i + 1)) = wordsE (l.take i) ++ [l[i].day, l[i].fr, l[i].to, l[i].cur, l[i].amt, l[i].note] := by
  rw [List.take_succ_eq_append_getElem h, wordsE_app]; rfl

def lblL : List Int := [108, 101, 100, 103, 101, 114]
theorem lbl_u8 : U8s lblL := by
  intro x hx
  simp only [lblL, List.mem_cons, List.not_mem_nil, or_false] at hx
  omega

theorem bufI_grow {s s' : Store} {n : Nat} {r : AV} {k : IntKind} {l : List Int} (h : BufI s n r k l) (hx : Ext s s') : BufI s' n r k l := by
  rcases h with h | ⟨id, h1, h2, h3⟩
  · exact .inl h
  · exact .inr ⟨id, h1, hx _ _ h2, h3⟩

theorem c_Hash (es : List Ent) (hl : es.length ≤ 20000) (σ : Store) (id : Nat) (j : AV) (h0 : σ[id]? = some (.box [esV es, j])) :
    ACalls Try.prog 27 [.ptr id 0] σ (fun r s => r = .int .u64 (sumR lblL (wordsE es)) ∧ s = σ) := by
  refine ACalls.frozen (ACalls.mono (R := fun r s => r = .int .u64 (sumR lblL (wordsE es)) ∧ Ext σ s) ?_ fun r s ⟨h1, h2⟩ => ⟨h2, by rw [h1]; exact .same _ rfl⟩)
  have lm : (es.map entA).length = es.length := List.length_map _
  have hwl := wordsE_len es
  have kH := fun (R : List Int) (hR : R.length ≤ 120000) => hsum lblL R [] lbl_u8 (by decide) (by omega)
  refine acalls_of_vc (fn := Try.f27) Try.call27 Try.func27 rfl (by kernel_rfl) (by simp [Try.ntmps27]) ?_; simp -implicitDefEqProofs only [Try.ntmps27,Try.results27,Q0,Q1,Q2,Q3,Q4,Q5,Q6,Q7,Q8,Q9,Qa,Qb,Qc,Qd,Qe,Qf,Qg,Qh,Qi,Qj,Qk,Ql,Qm,Qn,Qo,Qp,Qq,Qr,Qs,Qt,Qu,Qv,Qw,Qx,Qy,Qz,QA,QB,QC,QD,QE,QF,QG,QH,QI,QJ,QK,QL,QM,QN,QO,QP,QQ,QR,QS,QT,QU,QV,QW,QX,QY,QZ,X0,X1,X2,X3,X4,X5,X6,X7,X8,X9,Xa,Xb,Xc,Xd,Xe,Xf,Xg,Xh,Xi,Xj,Xk,Xl,Xm,Xn,Xo,Xp,Xq,Xr,Xs,Xt,Xu,Xv,Xw,Xx,Xy,Xz,XA,XB,reduceIte,reduceCtorEq,XC,XD,XE,XF,XG,XH,XI,XJ,XK,XL,XM,XN,XO,XP,XQ,XR,XS,XT,XU,XV,XW,XX,XY,XZ,Y0,Try.q3,Try.q22,Try.q23,Try.q29,Try.underlying37,Try.q37,Try.q58,Try.underlying64,Try.q64,Try.underlying66,Try.q66]
  simp -implicitDefEqProofs only [h0,lm,Q0,Q1,Q2,Q3,Q4,Q5,Q6,Q7,Q8,Q9,Qa,Qb,Qc,Qd,Qe,Qf,Qg,Qh,Qi,Qj,Qk,Ql,Qm,Qn,Qo,Qp,Qq,Qr,Qs,Qt,Qu,Qv,Qw,Qx,Qy,Qz,QA,QB,QC,QD,QE,QF,QG,QH,QI,QJ,QK,QL,QM,QN,QO,QP,QQ,QR,QS,QT,QU,QV,QW,QX,QY,QZ,X0,X1,X2,X3,X4,X5,X6,X7,X8,X9,Xa,Xb,Xc,Xd,Xe,Xf,Xg,Xh,Xi,Xj,Xk,Xl,Xm,Xn,Xo,Xp,Xq,Xr,Xs,Xt,Xu,Xv,Xw,Xx,Xy,Xz,XA,XB,reduceIte,reduceCtorEq,XC,XD,XE,XF,XG,XH,XI,XJ,XK,XL,XM,XN,XO,XP,XQ,XR,XS,XT,XU,XV,XW,XX,XY,XZ,Y0,Try.q3,Try.q22,Try.q23,Try.q29,Try.underlying37,Try.q37,Try.q58,Try.underlying64,Try.q64,Try.underlying66,Try.q66]
  refine awp_loop (fun q : Nat × AV => [(11, .int .i64 q.1), (10, .int .i64 es.length), (9, esV es), (3, q.2)]) (fun q s => q.1 ≤ es.length ∧ Ext σ s ∧ BufI s σ.length q.2 .i64 (wordsE (es.take q.1))) (fun q => es.length - q.1) (0, .nils) (by kernel_rfl) (by simp [sub_cons, sub_nil, get_cons]) ⟨by simp, .refl _, .nil⟩ ?_
  rintro ⟨i, r⟩ s ⟨hi, hx, hbuf⟩
  simp only at hi hbuf
  by_cases hlt : i < es.length
  · have d1 : decide ((i : Int) < (es.length : Int)) = true := decide_eq_true (by omega)
    have hrow : (es.map entA).getD (i : Int).toNat [] = entA es[i] := by rw [Int.toNat_natCast, getD_get (by simpa using hlt)]; simp
    have wi : IntKind.i64.wrap ((i : Int) + 1) = ((i + 1 : Nat) : Int) := by rw [wrap_i64 (by omega) (by omega)]; rfl
    have bi : (0 : Int) ≤ (i : Int) ∧ (i : Int) < (es.length : Int) := by omega
    have ht := wordsE_take es hlt
    have hle : (wordsE (es.take i)).length ≤ 120000 := by rw [wordsE_len, List.length_take]; omega
    generalize es[i] = e at *
    have hrow2 : (es.map entA).getD (i : Int).toNat [] = [.int .i64 e.day, .int .i64 e.fr, .int .i64 e.to, .int .i64 e.cur, .int .i64 e.amt, .int .i64 e.note] := hrow
    have gq : (s ++ [AObj.box [.int .i64 e.day, .int .i64 e.fr, .int .i64 e.to, .int .i64 e.cur, .int .i64 e.amt, .int .i64 e.note]])[s.length]? = some (.box [.int .i64 e.day, .int .i64 e.fr, .int .i64 e.to, .int .i64 e.cur, .int .i64 e.amt, .int .i64 e.note]) := by simp
    simp -implicitDefEqProofs only [lm,d1,hrow2,gq,Q0,Q1,Q2,Q3,Q4,Q5,Q6,Q7,Q8,Q9,Qa,Qb,Qc,Qd,Qe,Qf,Qg,Qh,Qi,Qj,Qk,Ql,Qm,Qn,Qo,Qp,Qq,Qr,Qs,Qt,Qu,Qv,Qw,Qx,Qy,Qz,QA,QB,QC,QD,QE,QF,QG,QH,QI,QJ,QK,QL,QM,QN,QO,QP,QQ,QR,QS,QT,QU,QV,QW,QX,QY,QZ,X0,X1,X2,X3,X4,X5,X6,X7,X8,X9,Xa,Xb,Xc,Xd,Xe,Xf,Xg,Xh,Xi,Xj,Xk,Xl,Xm,Xn,Xo,Xp,Xq,Xr,Xs,Xt,Xu,Xv,Xw,Xx,Xy,Xz,XA,XB,reduceIte,reduceCtorEq,XC,XD,XE,XF,XG,XH,XI,XJ,XK,XL,XM,XN,XO,XP,XQ,XR,XS,XT,XU,XV,XW,XX,XY,XZ,Y0,Try.q3,Try.q22,Try.q23,Try.q29,Try.underlying37,Try.q37,Try.q58,Try.underlying64,Try.q64,Try.underlying66,Try.q66]
    refine ⟨bi, ?_⟩
    refine append_buf Try.sl22 (by simp [Try.bt3]) (hx.push _) (bufI_grow hbuf (Ext.app _ _)) (.inl rfl) (by simp only [appFits, Try.bt3, List.length_cons, List.length_nil]; omega) fun r2 s2 hx2 hb2 => ?_
    simp -implicitDefEqProofs only [wi,Q0,Q1,Q2,Q3,Q4,Q5,Q6,Q7,Q8,Q9,Qa,Qb,Qc,Qd,Qe,Qf,Qg,Qh,Qi,Qj,Qk,Ql,Qm,Qn,Qo,Qp,Qq,Qr,Qs,Qt,Qu,Qv,Qw,Qx,Qy,Qz,QA,QB,QC,QD,QE,QF,QG,QH,QI,QJ,QK,QL,QM,QN,QO,QP,QQ,QR,QS,QT,QU,QV,QW,QX,QY,QZ,X0,X1,X2,X3,X4,X5,X6,X7,X8,X9,Xa,Xb,Xc,Xd,Xe,Xf,Xg,Xh,Xi,Xj,Xk,Xl,Xm,Xn,Xo,Xp,Xq,Xr,Xs,Xt,Xu,Xv,Xw,Xx,Xy,Xz,XA,XB,reduceIte,reduceCtorEq,XC,XD,XE,XF,XG,XH,XI,XJ,XK,XL,XM,XN,XO,XP,XQ,XR,XS,XT,XU,XV,XW,XX,XY,XZ,Y0,Try.q3,Try.q22,Try.q23,Try.q29,Try.underlying37,Try.q37,Try.q58,Try.underlying64,Try.q64,Try.underlying66,Try.q66]
    exact ⟨(i + 1, r2), ⟨rfl, rfl⟩, ⟨by simp only; omega, hx2, by simp only; rw [ht]; exact hb2⟩, by simp only; omega⟩
  · have d1 : decide ((i : Int) < (es.length : Int)) = false := decide_eq_false (by omega)
    rw [List.take_of_length_le (by omega)] at hbuf
    have k := ACalls.lend (kH (wordsE es) (by omega)) (.cons (.same _ rfl) (.cons hbuf.zero.frz .nil)) rfl rfl
    unfold lblL at *
    simp -implicitDefEqProofs only [d1,Q0,Q1,Q2,Q3,Q4,Q5,Q6,Q7,Q8,Q9,Qa,Qb,Qc,Qd,Qe,Qf,Qg,Qh,Qi,Qj,Qk,Ql,Qm,Qn,Qo,Qp,Qq,Qr,Qs,Qt,Qu,Qv,Qw,Qx,Qy,Qz,QA,QB,QC,QD,QE,QF,QG,QH,QI,QJ,QK,QL,QM,QN,QO,QP,QQ,QR,QS,QT,QU,QV,QW,QX,QY,QZ,X0,X1,X2,X3,X4,X5,X6,X7,X8,X9,Xa,Xb,Xc,Xd,Xe,Xf,Xg,Xh,Xi,Xj,Xk,Xl,Xm,Xn,Xo,Xp,Xq,Xr,Xs,Xt,Xu,Xv,Xw,Xx,Xy,Xz,XA,XB,reduceIte,reduceCtorEq,XC,XD,XE,XF,XG,XH,XI,XJ,XK,XL,XM,XN,XO,XP,XQ,XR,XS,XT,XU,XV,XW,XX,XY,XZ,Y0,Try.q3,Try.q22,Try.q23,Try.q29,Try.underlying37,Try.q37,Try.q58,Try.underlying64,Try.q64,Try.underlying66,Try.q66]
    refine acalls_then (k) ?_
    simp -implicitDefEqProofs only [Q0,Q1,Q2,Q3,Q4,Q5,Q6,Q7,Q8,Q9,Qa,Qb,Qc,Qd,Qe,Qf,Qg,Qh,Qi,Qj,Qk,Ql,Qm,Qn,Qo,Qp,Qq,Qr,Qs,Qt,Qu,Qv,Qw,Qx,Qy,Qz,QA,QB,QC,QD,QE,QF,QG,QH,QI,QJ,QK,QL,QM,QN,QO,QP,QQ,QR,QS,QT,QU,QV,QW,QX,QY,QZ,X0,X1,X2,X3,X4,X5,X6,X7,X8,X9,Xa,Xb,Xc,Xd,Xe,Xf,Xg,Xh,Xi,Xj,Xk,Xl,Xm,Xn,Xo,Xp,Xq,Xr,Xs,Xt,Xu,Xv,Xw,Xx,Xy,Xz,XA,XB,reduceIte,reduceCtorEq,XC,XD,XE,XF,XG,XH,XI,XJ,XK,XL,XM,XN,XO,XP,XQ,XR,XS,XT,XU,XV,XW,XX,XY,XZ,Y0,Try.q3,Try.q22,Try.q23,Try.q29,Try.underlying37,Try.q37,Try.q58,Try.underlying64,Try.q64,Try.underlying66,Try.q66]
    exact hx

theorem rr_Hash (es : List Ent) (hl : es.length ≤ 20000) (σ : Store) (m : Nat) (D : AV) (h0 : σ[m]? = some (.box [esV es, D])) :
    ACalls Try.prog 28 [.ptr m 0] σ (fun r s => r = .int .u64 (sumR lblL (wordsE es)) ∧ s = σ) := by
  refine ACalls.frozen (ACalls.mono (R := fun r s => r = .int .u64 (sumR lblL (wordsE es)) ∧ Ext σ s) ?_ fun r s ⟨h1, h2⟩ => ⟨h2, by rw [h1]; exact .same _ rfl⟩)
  have lm : (es.map entA).length = es.length := List.length_map _
  have hwl := wordsE_len es
  have kH := fun (R : List Int) (hR : R.length ≤ 120000) => ref_sum lblL R [] lbl_u8 (by decide) (by omega)
  refine acalls_of_vc (fn := Try.f28) Try.call28 Try.func28 rfl (by kernel_rfl) (by simp [Try.ntmps28]) ?_; simp -implicitDefEqProofs only [Try.ntmps28,Try.results28,Q0,Q1,Q2,Q3,Q4,Q5,Q6,Q7,Q8,Q9,Qa,Qb,Qc,Qd,Qe,Qf,Qg,Qh,Qi,Qj,Qk,Ql,Qm,Qn,Qo,Qp,Qq,Qr,Qs,Qt,Qu,Qv,Qw,Qx,Qy,Qz,QA,QB,QC,QD,QE,QF,QG,QH,QI,QJ,QK,QL,QM,QN,QO,QP,QQ,QR,QS,QT,QU,QV,QW,QX,QY,QZ,X0,X1,X2,X3,X4,X5,X6,X7,X8,X9,Xa,Xb,Xc,Xd,Xe,Xf,Xg,Xh,Xi,Xj,Xk,Xl,Xm,Xn,Xo,Xp,Xq,Xr,Xs,Xt,Xu,Xv,Xw,Xx,Xy,Xz,XA,XB,reduceIte,reduceCtorEq,XC,XD,XE,XF,XG,XH,XI,XJ,XK,XL,XM,XN,XO,XP,XQ,XR,XS,XT,XU,XV,XW,XX,XY,XZ,Y0,Try.q3,Try.q4,Try.q22,Try.q31,Try.underlying36,Try.q36,Try.q48,Try.underlying50,Try.q50,Try.q58]
  refine awp_loop (fun q : Nat × AV => [(4, .int .i64 q.1), (0, .ptr m 0), (3, q.2)]) (fun q s => q.1 ≤ es.length ∧ Ext σ s ∧ BufI s σ.length q.2 .i64 (wordsE (es.take q.1))) (fun q => es.length - q.1) (0, .nils) (by kernel_rfl) (by simp [sub_cons, sub_nil, get_cons]) ⟨by simp, .refl _, .nil⟩ ?_
  rintro ⟨i, r⟩ s ⟨hi, hx, hbuf⟩
  simp only at hi hbuf
  have hg := hx _ _ h0
  by_cases hlt : i < es.length
  · have d1 : decide ((i : Int) < (es.length : Int)) = true := decide_eq_true (by omega)
    have hrow : (es.map entA).getD (i : Int).toNat [] = entA es[i] := by rw [Int.toNat_natCast, getD_get (by simpa using hlt)]; simp
    have wi : IntKind.i64.wrap ((i : Int) + 1) = ((i + 1 : Nat) : Int) := by rw [wrap_i64 (by omega) (by omega)]; rfl
    have bi : (0 : Int) ≤ (i : Int) ∧ (i : Int) < (es.length : Int) := by omega
    have ht := wordsE_take es hlt
    have hle : (wordsE (es.take i)).length ≤ 120000 := by rw [wordsE_len, List.length_take]; omega
    generalize es[i] = e at *
    have hrow2 : (es.map entA).getD (i : Int).toNat [] = [.int .i64 e.day, .int .i64 e.fr, .int .i64 e.to, .int .i64 e.cur, .int .i64 e.amt, .int .i64 e.note] := hrow
    have gq : (s ++ [AObj.box [.int .i64 e.day, .int .i64 e.fr, .int .i64 e.to, .int .i64 e.cur, .int .i64 e.amt, .int .i64 e.note]])[s.length]? = some (.box [.int .i64 e.day, .int .i64 e.fr, .int .i64 e.to, .int .i64 e.cur, .int .i64 e.amt, .int .i64 e.note]) := by simp
    simp -implicitDefEqProofs only [hg,lm,d1,hrow2,gq,Q0,Q1,Q2,Q3,Q4,Q5,Q6,Q7,Q8,Q9,Qa,Qb,Qc,Qd,Qe,Qf,Qg,Qh,Qi,Qj,Qk,Ql,Qm,Qn,Qo,Qp,Qq,Qr,Qs,Qt,Qu,Qv,Qw,Qx,Qy,Qz,QA,QB,QC,QD,QE,QF,QG,QH,QI,QJ,QK,QL,QM,QN,QO,QP,QQ,QR,QS,QT,QU,QV,QW,QX,QY,QZ,X0,X1,X2,X3,X4,X5,X6,X7,X8,X9,Xa,Xb,Xc,Xd,Xe,Xf,Xg,Xh,Xi,Xj,Xk,Xl,Xm,Xn,Xo,Xp,Xq,Xr,Xs,Xt,Xu,Xv,Xw,Xx,Xy,Xz,XA,XB,reduceIte,reduceCtorEq,XC,XD,XE,XF,XG,XH,XI,XJ,XK,XL,XM,XN,XO,XP,XQ,XR,XS,XT,XU,XV,XW,XX,XY,XZ,Y0,Try.q3,Try.q4,Try.q22,Try.q31,Try.underlying36,Try.q36,Try.q48,Try.underlying50,Try.q50,Try.q58]
    refine ⟨bi, ?_⟩
    refine append_buf Try.sl22 (by simp [Try.bt3]) (hx.push _) (bufI_grow hbuf (Ext.app _ _)) (.inl rfl) (by simp only [appFits, Try.bt3, List.length_cons, List.length_nil]; omega) fun r2 s2 hx2 hb2 => ?_
    simp -implicitDefEqProofs only [wi,Q0,Q1,Q2,Q3,Q4,Q5,Q6,Q7,Q8,Q9,Qa,Qb,Qc,Qd,Qe,Qf,Qg,Qh,Qi,Qj,Qk,Ql,Qm,Qn,Qo,Qp,Qq,Qr,Qs,Qt,Qu,Qv,Qw,Qx,Qy,Qz,QA,QB,QC,QD,QE,QF,QG,QH,QI,QJ,QK,QL,QM,QN,QO,QP,QQ,QR,QS,QT,QU,QV,QW,QX,QY,QZ,X0,X1,X2,X3,X4,X5,X6,X7,X8,X9,Xa,Xb,Xc,Xd,Xe,Xf,Xg,Xh,Xi,Xj,Xk,Xl,Xm,Xn,Xo,Xp,Xq,Xr,Xs,Xt,Xu,Xv,Xw,Xx,Xy,Xz,XA,XB,reduceIte,reduceCtorEq,XC,XD,XE,XF,XG,XH,XI,XJ,XK,XL,XM,XN,XO,XP,XQ,XR,XS,XT,XU,XV,XW,XX,XY,XZ,Y0,Try.q3,Try.q4,Try.q22,Try.q31,Try.underlying36,Try.q36,Try.q48,Try.underlying50,Try.q50,Try.q58]
    exact ⟨(i + 1, r2), ⟨rfl, rfl⟩, ⟨by simp only; omega, hx2, by simp only; rw [ht]; exact hb2⟩, by simp only; omega⟩
  · have d1 : decide ((i : Int) < (es.length : Int)) = false := decide_eq_false (by omega)
    rw [List.take_of_length_le (by omega)] at hbuf
    have k := ACalls.lend (kH (wordsE es) (by omega)) (.cons (.same _ rfl) (.cons hbuf.zero.frz .nil)) rfl rfl
    unfold lblL at *
    simp -implicitDefEqProofs only [hg,lm,d1,Q0,Q1,Q2,Q3,Q4,Q5,Q6,Q7,Q8,Q9,Qa,Qb,Qc,Qd,Qe,Qf,Qg,Qh,Qi,Qj,Qk,Ql,Qm,Qn,Qo,Qp,Qq,Qr,Qs,Qt,Qu,Qv,Qw,Qx,Qy,Qz,QA,QB,QC,QD,QE,QF,QG,QH,QI,QJ,QK,QL,QM,QN,QO,QP,QQ,QR,QS,QT,QU,QV,QW,QX,QY,QZ,X0,X1,X2,X3,X4,X5,X6,X7,X8,X9,Xa,Xb,Xc,Xd,Xe,Xf,Xg,Xh,Xi,Xj,Xk,Xl,Xm,Xn,Xo,Xp,Xq,Xr,Xs,Xt,Xu,Xv,Xw,Xx,Xy,Xz,XA,XB,reduceIte,reduceCtorEq,XC,XD,XE,XF,XG,XH,XI,XJ,XK,XL,XM,XN,XO,XP,XQ,XR,XS,XT,XU,XV,XW,XX,XY,XZ,Y0,Try.q3,Try.q4,Try.q22,Try.q31,Try.underlying36,Try.q36,Try.q48,Try.underlying50,Try.q50,Try.q58]
    refine acalls_then (k) ?_
    simp -implicitDefEqProofs only [Q0,Q1,Q2,Q3,Q4,Q5,Q6,Q7,Q8,Q9,Qa,Qb,Qc,Qd,Qe,Qf,Qg,Qh,Qi,Qj,Qk,Ql,Qm,Qn,Qo,Qp,Qq,Qr,Qs,Qt,Qu,Qv,Qw,Qx,Qy,Qz,QA,QB,QC,QD,QE,QF,QG,QH,QI,QJ,QK,QL,QM,QN,QO,QP,QQ,QR,QS,QT,QU,QV,QW,QX,QY,QZ,X0,X1,X2,X3,X4,X5,X6,X7,X8,X9,Xa,Xb,Xc,Xd,Xe,Xf,Xg,Xh,Xi,Xj,Xk,Xl,Xm,Xn,Xo,Xp,Xq,Xr,Xs,Xt,Xu,Xv,Xw,Xx,Xy,Xz,XA,XB,reduceIte,reduceCtorEq,XC,XD,XE,XF,XG,XH,XI,XJ,XK,XL,XM,XN,XO,XP,XQ,XR,XS,XT,XU,XV,XW,XX,XY,XZ,Y0,Try.q3,Try.q4,Try.q22,Try.q31,Try.underlying36,Try.q36,Try.q48,Try.underlying50,Try.q50,Try.q58]
    exact hx

end Go.Proofs
