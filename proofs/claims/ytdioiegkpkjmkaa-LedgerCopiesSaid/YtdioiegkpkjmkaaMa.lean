/-
  The reference's ledger: an entry is taken back; balances; contracts.
-/
import Derived.Test.YtdioiegkpkjmkaaJz
namespace Go.Proofs
open Go.Pa
open Go.Pa renaming VB0 → Q0, VB1 → Q1, VB2 → Q2, VB3 → Q3, VB4 → Q4, VB5 → Q5, VB6 → Q6, VB7 → Q7, VB8 → Q8, VB9 → Q9, condV_bool → Qa, guardV_bool → Qb, vcS → Qc, evA → Qd, evBin → Qe, nilA → Qf, nilOf → Qg, intOp → Qh, strOp → Qi, evUn → Qj, evConv → Qk, evField → Ql, evFieldAddr → Qm, evIndexAddr → Qn, evIndex → Qo, evIndexA → Qp, bnd → Qq, evSlice → Qr, evLen → Qs, evPick → Qt, evExtract → Qu, evNilCheck → Qv, evMin → Qw, evMax → Qx, evLoadI → Qy, partsOne → QA, intsOf → QB, rowsAV → QC, evBuildSlice → QD, evBuild → QE, fillA → QF, splice → QG, evBuiltin → QH, guardD_bool → QI, dOp → QJ, cl → QK, vcLoad → QL, vcStore → QM, vcMake → QN, convA → QO, evIndexArr → QP, retA → QQ, ressA → QR, resA → QS, envOf → QT, condR_bool → QX, asgEnv → QY, parEnv → QZ, dstAt → XI, vcLook → XT, vcPut → XU, vcEnt → XV, vcESt → XW, vcMLen → XX, vcDel → XY, vcClear → XZ, vcLookD → Y0
open Go.Pa.AV renaming cell → Qz
open Go.Pa.Env renaming put → QU
open List renaming set_cons_zero → QV, set_cons_succ → QW, foldl_cons → X0, foldl_nil → X1, map_cons → X2, map_nil → X3, toList_toArray → X4, getElem?_cons_zero → X5, getElem?_cons_succ → X6, nil_append → Xa, append_nil → Xb, cons_append → Xc, singleton_append → Xd, length_cons → Xe, length_nil → Xf, all_cons → Xg, all_nil → Xh, take_succ_cons → Xi, take_zero → Xj, take_nil → Xk, drop_zero → Xl, drop_succ_cons → Xm, drop_nil → Xn, contains_nil → Xo, contains_cons → Xp
open Option renaming bind_some → X7, map_some → X8, map_none → X9
open Bool renaming or_false → Xq, false_or → Xr, or_true → Xs, true_or → Xt, false_eq_true → XC, not_true → XD, not_false → XE, and_true → XF, true_and → XG, and_self → XH
open Nat renaming reduceEqDiff → Xu, reduceAdd → Xv, reduceSub → Xw, reduceMul → Xx, reduceLT → Xy, reduceLeDiff → Xz, reduceBNe → XA, reduceBEq → XB, zero_add → XL, add_zero → XM
open UInt8 renaming reduceToNat → XJ
open Int renaming cast_ofNat_Int → XK, reduceToNat → XN, reduceLT → XO, reduceLE → XP, reduceNeg → XQ, reduceEq → XR, reduceNe → XS
set_option linter.unusedSimpArgs false
set_option linter.unusedVariables false
set_option maxRecDepth 20000
set_option maxHeartbeats 4000000

theorem balQ_eq {es : List Ent} (hV : ∀ e ∈ es, Val e) (a c d : Int) : balQ es a c d = if (inB a 0 1048576 && (inB c 0 7 && inB d 0 131072)) = true then (bal es a c d, 0) else (0, 1) := by
  unfold balQ badQ
  rw [bal_in hV]
  simp only [List.any_cons, List.any_nil, Bool.or_false]
  cases inB a 0 1048576 <;> cases inB c 0 7 <;> cases inB d 0 131072 <;> rfl

theorem turnQ_eq (es : List Ent) (a c lo hi : Int) : turnQ es a c lo hi = if (inB a 0 1048576 && (inB c 0 7 && (inB lo 0 131072 && inB hi lo 131072))) = true then (sumL (inF a c lo hi) es, sumL (outF a c lo hi) es, 0) else (0, 0, 1) := by
  unfold turnQ badQ
  simp only [List.any_cons, List.any_nil, Bool.or_false]
  by_cases h1 : inB a 0 1048576 = true
  · by_cases h2 : inB c 0 7 = true
    · by_cases h3 : inB lo 0 131072 = true
      · by_cases h4 : inB hi lo 131072 = true
        · have h5 := inB_iff.1 h3
          have h6 := inB_iff.1 h4
          have h7 : inB hi 0 131072 = true := inB_iff.2 ⟨by omega, by omega⟩
          rw [h1, h2, h3, h4, h7, if_neg]
          · rfl
          · rintro (h | h)
            · cases h
            · omega
        · have h8 : inB hi lo 131072 = false := by simpa using h4
          rw [if_pos, h1, h2, h3, h8, if_neg (by decide)]
          by_cases h7 : inB hi 0 131072 = true
          · right
            have h9 := inB_iff.1 h7
            by_cases h10 : hi < lo
            · exact h10
            · exact absurd (inB_iff.2 ⟨by omega, h9.2⟩) h4
          · left
            have : inB hi 0 131072 = false := by simpa using h7
            rw [this]; simp
      · have h8 : inB lo 0 131072 = false := by simpa using h3
        rw [if_pos (by left; rw [h8]; simp), h8, if_neg (by simp)]
    · have h8 : inB c 0 7 = false := by simpa using h2
      rw [if_pos (by left; rw [h8]; simp), h8, if_neg (by simp)]
  · have h8 : inB a 0 1048576 = false := by simpa using h1
    rw [if_pos (by left; rw [h8]; simp), h8, if_neg (by simp)]

theorem rr_Balance (es : List Ent) (hl : es.length ≤ 20000) (hV : ∀ e ∈ es, Val e) (a c d : Int) (D : AV) (σ : Store) (m : Nat) (h0 : σ[m]? = some (.box [esV es, D])) :
    ACalls Try.prog 23 [.ptr m 0, .int .i64 a, .int .i64 c, .int .i64 d] σ (fun r s => r = .tup [.int .i64 (balQ es a c d).1, .int .i64 (balQ es a c d).2] ∧ s = σ) := by
  have k1 := rr_in a 0 1048576
  have k2 := rr_in c 0 7
  have k3 := rr_in d 0 131072
  have k4 := rr_Sum es hl hV a c d
  rw [balQ_eq hV]
  generalize bal es a c d = u at *
  generalize inB a 0 1048576 = v1 at *
  generalize inB c 0 7 = v2 at *
  generalize inB d 0 131072 = v3 at *
  refine acalls_of_vc (fn := Try.f23) Try.call23 Try.func23 rfl (by kernel_rfl) (by simp [Try.ntmps23]) ?_; simp -implicitDefEqProofs only [Try.ntmps23,Try.results23,Q0,Q1,Q2,Q3,Q4,Q5,Q6,Q7,Q8,Q9,Qa,Qb,Qc,Qd,Qe,Qf,Qg,Qh,Qi,Qj,Qk,Ql,Qm,Qn,Qo,Qp,Qq,Qr,Qs,Qt,Qu,Qv,Qw,Qx,Qy,Qz,QA,QB,QC,QD,QE,QF,QG,QH,QI,QJ,QK,QL,QM,QN,QO,QP,QQ,QR,QS,QT,QU,QV,QW,QX,QY,QZ,X0,X1,X2,X3,X4,X5,X6,X7,X8,X9,Xa,Xb,Xc,Xd,Xe,Xf,Xg,Xh,Xi,Xj,Xk,Xl,Xm,Xn,Xo,Xp,Xq,Xr,Xs,Xt,Xu,Xv,Xw,Xx,Xy,Xz,XA,XB,reduceIte,reduceCtorEq,XC,XD,XE,XF,XG,XH,XI,XJ,XK,XL,XM,XN,XO,XP,XQ,XR,XS,XT,XU,XV,XW,XX,XY,XZ,Y0,Try.q3,Try.q4,Try.q22,Try.q27,Try.q31,Try.underlying36,Try.q36,Try.q48,Try.underlying50,Try.q50]
  cases v1 with
  | false =>
    refine acalls_then (k1 _) ?_
    simp -implicitDefEqProofs only [Q0,Q1,Q2,Q3,Q4,Q5,Q6,Q7,Q8,Q9,Qa,Qb,Qc,Qd,Qe,Qf,Qg,Qh,Qi,Qj,Qk,Ql,Qm,Qn,Qo,Qp,Qq,Qr,Qs,Qt,Qu,Qv,Qw,Qx,Qy,Qz,QA,QB,QC,QD,QE,QF,QG,QH,QI,QJ,QK,QL,QM,QN,QO,QP,QQ,QR,QS,QT,QU,QV,QW,QX,QY,QZ,X0,X1,X2,X3,X4,X5,X6,X7,X8,X9,Xa,Xb,Xc,Xd,Xe,Xf,Xg,Xh,Xi,Xj,Xk,Xl,Xm,Xn,Xo,Xp,Xq,Xr,Xs,Xt,Xu,Xv,Xw,Xx,Xy,Xz,XA,XB,reduceIte,reduceCtorEq,XC,XD,XE,XF,XG,XH,XI,XJ,XK,XL,XM,XN,XO,XP,XQ,XR,XS,XT,XU,XV,XW,XX,XY,XZ,Y0,Try.q3,Try.q4,Try.q22,Try.q27,Try.q31,Try.underlying36,Try.q36,Try.q48,Try.underlying50,Try.q50]
    rfl
  | true =>
    refine acalls_then (k1 _) ?_
    simp -implicitDefEqProofs only [Q0,Q1,Q2,Q3,Q4,Q5,Q6,Q7,Q8,Q9,Qa,Qb,Qc,Qd,Qe,Qf,Qg,Qh,Qi,Qj,Qk,Ql,Qm,Qn,Qo,Qp,Qq,Qr,Qs,Qt,Qu,Qv,Qw,Qx,Qy,Qz,QA,QB,QC,QD,QE,QF,QG,QH,QI,QJ,QK,QL,QM,QN,QO,QP,QQ,QR,QS,QT,QU,QV,QW,QX,QY,QZ,X0,X1,X2,X3,X4,X5,X6,X7,X8,X9,Xa,Xb,Xc,Xd,Xe,Xf,Xg,Xh,Xi,Xj,Xk,Xl,Xm,Xn,Xo,Xp,Xq,Xr,Xs,Xt,Xu,Xv,Xw,Xx,Xy,Xz,XA,XB,reduceIte,reduceCtorEq,XC,XD,XE,XF,XG,XH,XI,XJ,XK,XL,XM,XN,XO,XP,XQ,XR,XS,XT,XU,XV,XW,XX,XY,XZ,Y0,Try.q3,Try.q4,Try.q22,Try.q27,Try.q31,Try.underlying36,Try.q36,Try.q48,Try.underlying50,Try.q50]
    cases v2 with
    | false =>
      refine acalls_then (k2 _) ?_
      simp -implicitDefEqProofs only [Q0,Q1,Q2,Q3,Q4,Q5,Q6,Q7,Q8,Q9,Qa,Qb,Qc,Qd,Qe,Qf,Qg,Qh,Qi,Qj,Qk,Ql,Qm,Qn,Qo,Qp,Qq,Qr,Qs,Qt,Qu,Qv,Qw,Qx,Qy,Qz,QA,QB,QC,QD,QE,QF,QG,QH,QI,QJ,QK,QL,QM,QN,QO,QP,QQ,QR,QS,QT,QU,QV,QW,QX,QY,QZ,X0,X1,X2,X3,X4,X5,X6,X7,X8,X9,Xa,Xb,Xc,Xd,Xe,Xf,Xg,Xh,Xi,Xj,Xk,Xl,Xm,Xn,Xo,Xp,Xq,Xr,Xs,Xt,Xu,Xv,Xw,Xx,Xy,Xz,XA,XB,reduceIte,reduceCtorEq,XC,XD,XE,XF,XG,XH,XI,XJ,XK,XL,XM,XN,XO,XP,XQ,XR,XS,XT,XU,XV,XW,XX,XY,XZ,Y0,Try.q3,Try.q4,Try.q22,Try.q27,Try.q31,Try.underlying36,Try.q36,Try.q48,Try.underlying50,Try.q50]
      rfl
    | true =>
      refine acalls_then (k2 _) ?_
      simp -implicitDefEqProofs only [Q0,Q1,Q2,Q3,Q4,Q5,Q6,Q7,Q8,Q9,Qa,Qb,Qc,Qd,Qe,Qf,Qg,Qh,Qi,Qj,Qk,Ql,Qm,Qn,Qo,Qp,Qq,Qr,Qs,Qt,Qu,Qv,Qw,Qx,Qy,Qz,QA,QB,QC,QD,QE,QF,QG,QH,QI,QJ,QK,QL,QM,QN,QO,QP,QQ,QR,QS,QT,QU,QV,QW,QX,QY,QZ,X0,X1,X2,X3,X4,X5,X6,X7,X8,X9,Xa,Xb,Xc,Xd,Xe,Xf,Xg,Xh,Xi,Xj,Xk,Xl,Xm,Xn,Xo,Xp,Xq,Xr,Xs,Xt,Xu,Xv,Xw,Xx,Xy,Xz,XA,XB,reduceIte,reduceCtorEq,XC,XD,XE,XF,XG,XH,XI,XJ,XK,XL,XM,XN,XO,XP,XQ,XR,XS,XT,XU,XV,XW,XX,XY,XZ,Y0,Try.q3,Try.q4,Try.q22,Try.q27,Try.q31,Try.underlying36,Try.q36,Try.q48,Try.underlying50,Try.q50]
      cases v3 with
      | false =>
        refine acalls_then (k3 _) ?_
        simp -implicitDefEqProofs only [Q0,Q1,Q2,Q3,Q4,Q5,Q6,Q7,Q8,Q9,Qa,Qb,Qc,Qd,Qe,Qf,Qg,Qh,Qi,Qj,Qk,Ql,Qm,Qn,Qo,Qp,Qq,Qr,Qs,Qt,Qu,Qv,Qw,Qx,Qy,Qz,QA,QB,QC,QD,QE,QF,QG,QH,QI,QJ,QK,QL,QM,QN,QO,QP,QQ,QR,QS,QT,QU,QV,QW,QX,QY,QZ,X0,X1,X2,X3,X4,X5,X6,X7,X8,X9,Xa,Xb,Xc,Xd,Xe,Xf,Xg,Xh,Xi,Xj,Xk,Xl,Xm,Xn,Xo,Xp,Xq,Xr,Xs,Xt,Xu,Xv,Xw,Xx,Xy,Xz,XA,XB,reduceIte,reduceCtorEq,XC,XD,XE,XF,XG,XH,XI,XJ,XK,XL,XM,XN,XO,XP,XQ,XR,XS,XT,XU,XV,XW,XX,XY,XZ,Y0,Try.q3,Try.q4,Try.q22,Try.q27,Try.q31,Try.underlying36,Try.q36,Try.q48,Try.underlying50,Try.q50]
      | true =>
        refine acalls_then (k3 _) ?_
        simp -implicitDefEqProofs only [h0,Q0,Q1,Q2,Q3,Q4,Q5,Q6,Q7,Q8,Q9,Qa,Qb,Qc,Qd,Qe,Qf,Qg,Qh,Qi,Qj,Qk,Ql,Qm,Qn,Qo,Qp,Qq,Qr,Qs,Qt,Qu,Qv,Qw,Qx,Qy,Qz,QA,QB,QC,QD,QE,QF,QG,QH,QI,QJ,QK,QL,QM,QN,QO,QP,QQ,QR,QS,QT,QU,QV,QW,QX,QY,QZ,X0,X1,X2,X3,X4,X5,X6,X7,X8,X9,Xa,Xb,Xc,Xd,Xe,Xf,Xg,Xh,Xi,Xj,Xk,Xl,Xm,Xn,Xo,Xp,Xq,Xr,Xs,Xt,Xu,Xv,Xw,Xx,Xy,Xz,XA,XB,reduceIte,reduceCtorEq,XC,XD,XE,XF,XG,XH,XI,XJ,XK,XL,XM,XN,XO,XP,XQ,XR,XS,XT,XU,XV,XW,XX,XY,XZ,Y0,Try.q3,Try.q4,Try.q22,Try.q27,Try.q31,Try.underlying36,Try.q36,Try.q48,Try.underlying50,Try.q50]
        refine acalls_then (k4 _) ?_
        simp -implicitDefEqProofs only [Q0,Q1,Q2,Q3,Q4,Q5,Q6,Q7,Q8,Q9,Qa,Qb,Qc,Qd,Qe,Qf,Qg,Qh,Qi,Qj,Qk,Ql,Qm,Qn,Qo,Qp,Qq,Qr,Qs,Qt,Qu,Qv,Qw,Qx,Qy,Qz,QA,QB,QC,QD,QE,QF,QG,QH,QI,QJ,QK,QL,QM,QN,QO,QP,QQ,QR,QS,QT,QU,QV,QW,QX,QY,QZ,X0,X1,X2,X3,X4,X5,X6,X7,X8,X9,Xa,Xb,Xc,Xd,Xe,Xf,Xg,Xh,Xi,Xj,Xk,Xl,Xm,Xn,Xo,Xp,Xq,Xr,Xs,Xt,Xu,Xv,Xw,Xx,Xy,Xz,XA,XB,reduceIte,reduceCtorEq,XC,XD,XE,XF,XG,XH,XI,XJ,XK,XL,XM,XN,XO,XP,XQ,XR,XS,XT,XU,XV,XW,XX,XY,XZ,Y0,Try.q3,Try.q4,Try.q22,Try.q27,Try.q31,Try.underlying36,Try.q36,Try.q48,Try.underlying50,Try.q50]

theorem rr_Turnover (es : List Ent) (hl : es.length ≤ 20000) (hV : ∀ e ∈ es, Val e) (a c lo hi : Int) (D : AV) (σ : Store) (m : Nat) (h0 : σ[m]? = some (.box [esV es, D])) :
    ACalls Try.prog 24 [.ptr m 0, .int .i64 a, .int .i64 c, .int .i64 lo, .int .i64 hi] σ (fun r s => r = .tup [.int .i64 (turnQ es a c lo hi).1, .int .i64 (turnQ es a c lo hi).2.1, .int .i64 (turnQ es a c lo hi).2.2] ∧ s = σ) := by
  refine ACalls.frozen (ACalls.mono (R := fun r s => r = .tup [.int .i64 (turnQ es a c lo hi).1, .int .i64 (turnQ es a c lo hi).2.1, .int .i64 (turnQ es a c lo hi).2.2] ∧ Ext σ s) ?_ fun r s ⟨h1, h2⟩ => ⟨h2, by rw [h1]; exact .same _ rfl⟩)
  have k1 := rr_in a 0 1048576
  have k2 := rr_in c 0 7
  have k3 := rr_in lo 0 131072
  have k4 := rr_in hi lo 131072
  have lm : (es.map entA).length = es.length := List.length_map _
  have hrf := Ext.refl σ
  rw [turnQ_eq]
  generalize inB a 0 1048576 = v1 at *
  generalize inB c 0 7 = v2 at *
  generalize inB lo 0 131072 = v3 at *
  generalize inB hi lo 131072 = v4 at *
  refine acalls_of_vc (fn := Try.f24) Try.call24 Try.func24 rfl (by kernel_rfl) (by simp [Try.ntmps24]) ?_; simp -implicitDefEqProofs only [Try.ntmps24,Try.results24,Q0,Q1,Q2,Q3,Q4,Q5,Q6,Q7,Q8,Q9,Qa,Qb,Qc,Qd,Qe,Qf,Qg,Qh,Qi,Qj,Qk,Ql,Qm,Qn,Qo,Qp,Qq,Qr,Qs,Qt,Qu,Qv,Qw,Qx,Qy,Qz,QA,QB,QC,QD,QE,QF,QG,QH,QI,QJ,QK,QL,QM,QN,QO,QP,QQ,QR,QS,QT,QU,QV,QW,QX,QY,QZ,X0,X1,X2,X3,X4,X5,X6,X7,X8,X9,Xa,Xb,Xc,Xd,Xe,Xf,Xg,Xh,Xi,Xj,Xk,Xl,Xm,Xn,Xo,Xp,Xq,Xr,Xs,Xt,Xu,Xv,Xw,Xx,Xy,Xz,XA,XB,reduceIte,reduceCtorEq,XC,XD,XE,XF,XG,XH,XI,XJ,XK,XL,XM,XN,XO,XP,XQ,XR,XS,XT,XU,XV,XW,XX,XY,XZ,Y0,Try.q3,Try.q4,Try.q22,Try.q27,Try.q31,Try.underlying36,Try.q36,Try.q48,Try.underlying50,Try.q50]
  cases v1 with
  | false =>
    refine acalls_then (k1 _) ?_
    simp -implicitDefEqProofs only [Q0,Q1,Q2,Q3,Q4,Q5,Q6,Q7,Q8,Q9,Qa,Qb,Qc,Qd,Qe,Qf,Qg,Qh,Qi,Qj,Qk,Ql,Qm,Qn,Qo,Qp,Qq,Qr,Qs,Qt,Qu,Qv,Qw,Qx,Qy,Qz,QA,QB,QC,QD,QE,QF,QG,QH,QI,QJ,QK,QL,QM,QN,QO,QP,QQ,QR,QS,QT,QU,QV,QW,QX,QY,QZ,X0,X1,X2,X3,X4,X5,X6,X7,X8,X9,Xa,Xb,Xc,Xd,Xe,Xf,Xg,Xh,Xi,Xj,Xk,Xl,Xm,Xn,Xo,Xp,Xq,Xr,Xs,Xt,Xu,Xv,Xw,Xx,Xy,Xz,XA,XB,reduceIte,reduceCtorEq,XC,XD,XE,XF,XG,XH,XI,XJ,XK,XL,XM,XN,XO,XP,XQ,XR,XS,XT,XU,XV,XW,XX,XY,XZ,Y0,Try.q3,Try.q4,Try.q22,Try.q27,Try.q31,Try.underlying36,Try.q36,Try.q48,Try.underlying50,Try.q50]
    first | exact ⟨rfl, hrf⟩ | exact hrf
  | true =>
    refine acalls_then (k1 _) ?_
    simp -implicitDefEqProofs only [Q0,Q1,Q2,Q3,Q4,Q5,Q6,Q7,Q8,Q9,Qa,Qb,Qc,Qd,Qe,Qf,Qg,Qh,Qi,Qj,Qk,Ql,Qm,Qn,Qo,Qp,Qq,Qr,Qs,Qt,Qu,Qv,Qw,Qx,Qy,Qz,QA,QB,QC,QD,QE,QF,QG,QH,QI,QJ,QK,QL,QM,QN,QO,QP,QQ,QR,QS,QT,QU,QV,QW,QX,QY,QZ,X0,X1,X2,X3,X4,X5,X6,X7,X8,X9,Xa,Xb,Xc,Xd,Xe,Xf,Xg,Xh,Xi,Xj,Xk,Xl,Xm,Xn,Xo,Xp,Xq,Xr,Xs,Xt,Xu,Xv,Xw,Xx,Xy,Xz,XA,XB,reduceIte,reduceCtorEq,XC,XD,XE,XF,XG,XH,XI,XJ,XK,XL,XM,XN,XO,XP,XQ,XR,XS,XT,XU,XV,XW,XX,XY,XZ,Y0,Try.q3,Try.q4,Try.q22,Try.q27,Try.q31,Try.underlying36,Try.q36,Try.q48,Try.underlying50,Try.q50]
    cases v2 with
    | false =>
      refine acalls_then (k2 _) ?_
      simp -implicitDefEqProofs only [Q0,Q1,Q2,Q3,Q4,Q5,Q6,Q7,Q8,Q9,Qa,Qb,Qc,Qd,Qe,Qf,Qg,Qh,Qi,Qj,Qk,Ql,Qm,Qn,Qo,Qp,Qq,Qr,Qs,Qt,Qu,Qv,Qw,Qx,Qy,Qz,QA,QB,QC,QD,QE,QF,QG,QH,QI,QJ,QK,QL,QM,QN,QO,QP,QQ,QR,QS,QT,QU,QV,QW,QX,QY,QZ,X0,X1,X2,X3,X4,X5,X6,X7,X8,X9,Xa,Xb,Xc,Xd,Xe,Xf,Xg,Xh,Xi,Xj,Xk,Xl,Xm,Xn,Xo,Xp,Xq,Xr,Xs,Xt,Xu,Xv,Xw,Xx,Xy,Xz,XA,XB,reduceIte,reduceCtorEq,XC,XD,XE,XF,XG,XH,XI,XJ,XK,XL,XM,XN,XO,XP,XQ,XR,XS,XT,XU,XV,XW,XX,XY,XZ,Y0,Try.q3,Try.q4,Try.q22,Try.q27,Try.q31,Try.underlying36,Try.q36,Try.q48,Try.underlying50,Try.q50]
      first | exact ⟨rfl, hrf⟩ | exact hrf
    | true =>
      refine acalls_then (k2 _) ?_
      simp -implicitDefEqProofs only [Q0,Q1,Q2,Q3,Q4,Q5,Q6,Q7,Q8,Q9,Qa,Qb,Qc,Qd,Qe,Qf,Qg,Qh,Qi,Qj,Qk,Ql,Qm,Qn,Qo,Qp,Qq,Qr,Qs,Qt,Qu,Qv,Qw,Qx,Qy,Qz,QA,QB,QC,QD,QE,QF,QG,QH,QI,QJ,QK,QL,QM,QN,QO,QP,QQ,QR,QS,QT,QU,QV,QW,QX,QY,QZ,X0,X1,X2,X3,X4,X5,X6,X7,X8,X9,Xa,Xb,Xc,Xd,Xe,Xf,Xg,Xh,Xi,Xj,Xk,Xl,Xm,Xn,Xo,Xp,Xq,Xr,Xs,Xt,Xu,Xv,Xw,Xx,Xy,Xz,XA,XB,reduceIte,reduceCtorEq,XC,XD,XE,XF,XG,XH,XI,XJ,XK,XL,XM,XN,XO,XP,XQ,XR,XS,XT,XU,XV,XW,XX,XY,XZ,Y0,Try.q3,Try.q4,Try.q22,Try.q27,Try.q31,Try.underlying36,Try.q36,Try.q48,Try.underlying50,Try.q50]
      cases v3 with
      | false =>
        refine acalls_then (k3 _) ?_
        simp -implicitDefEqProofs only [Q0,Q1,Q2,Q3,Q4,Q5,Q6,Q7,Q8,Q9,Qa,Qb,Qc,Qd,Qe,Qf,Qg,Qh,Qi,Qj,Qk,Ql,Qm,Qn,Qo,Qp,Qq,Qr,Qs,Qt,Qu,Qv,Qw,Qx,Qy,Qz,QA,QB,QC,QD,QE,QF,QG,QH,QI,QJ,QK,QL,QM,QN,QO,QP,QQ,QR,QS,QT,QU,QV,QW,QX,QY,QZ,X0,X1,X2,X3,X4,X5,X6,X7,X8,X9,Xa,Xb,Xc,Xd,Xe,Xf,Xg,Xh,Xi,Xj,Xk,Xl,Xm,Xn,Xo,Xp,Xq,Xr,Xs,Xt,Xu,Xv,Xw,Xx,Xy,Xz,XA,XB,reduceIte,reduceCtorEq,XC,XD,XE,XF,XG,XH,XI,XJ,XK,XL,XM,XN,XO,XP,XQ,XR,XS,XT,XU,XV,XW,XX,XY,XZ,Y0,Try.q3,Try.q4,Try.q22,Try.q27,Try.q31,Try.underlying36,Try.q36,Try.q48,Try.underlying50,Try.q50]
        first | exact ⟨rfl, hrf⟩ | exact hrf
      | true =>
        refine acalls_then (k3 _) ?_
        simp -implicitDefEqProofs only [Q0,Q1,Q2,Q3,Q4,Q5,Q6,Q7,Q8,Q9,Qa,Qb,Qc,Qd,Qe,Qf,Qg,Qh,Qi,Qj,Qk,Ql,Qm,Qn,Qo,Qp,Qq,Qr,Qs,Qt,Qu,Qv,Qw,Qx,Qy,Qz,QA,QB,QC,QD,QE,QF,QG,QH,QI,QJ,QK,QL,QM,QN,QO,QP,QQ,QR,QS,QT,QU,QV,QW,QX,QY,QZ,X0,X1,X2,X3,X4,X5,X6,X7,X8,X9,Xa,Xb,Xc,Xd,Xe,Xf,Xg,Xh,Xi,Xj,Xk,Xl,Xm,Xn,Xo,Xp,Xq,Xr,Xs,Xt,Xu,Xv,Xw,Xx,Xy,Xz,XA,XB,reduceIte,reduceCtorEq,XC,XD,XE,XF,XG,XH,XI,XJ,XK,XL,XM,XN,XO,XP,XQ,XR,XS,XT,XU,XV,XW,XX,XY,XZ,Y0,Try.q3,Try.q4,Try.q22,Try.q27,Try.q31,Try.underlying36,Try.q36,Try.q48,Try.underlying50,Try.q50]
        cases v4 with
        | false =>
          refine acalls_then (k4 _) ?_
          simp -implicitDefEqProofs only [Q0,Q1,Q2,Q3,Q4,Q5,Q6,Q7,Q8,Q9,Qa,Qb,Qc,Qd,Qe,Qf,Qg,Qh,Qi,Qj,Qk,Ql,Qm,Qn,Qo,Qp,Qq,Qr,Qs,Qt,Qu,Qv,Qw,Qx,Qy,Qz,QA,QB,QC,QD,QE,QF,QG,QH,QI,QJ,QK,QL,QM,QN,QO,QP,QQ,QR,QS,QT,QU,QV,QW,QX,QY,QZ,X0,X1,X2,X3,X4,X5,X6,X7,X8,X9,Xa,Xb,Xc,Xd,Xe,Xf,Xg,Xh,Xi,Xj,Xk,Xl,Xm,Xn,Xo,Xp,Xq,Xr,Xs,Xt,Xu,Xv,Xw,Xx,Xy,Xz,XA,XB,reduceIte,reduceCtorEq,XC,XD,XE,XF,XG,XH,XI,XJ,XK,XL,XM,XN,XO,XP,XQ,XR,XS,XT,XU,XV,XW,XX,XY,XZ,Y0,Try.q3,Try.q4,Try.q22,Try.q27,Try.q31,Try.underlying36,Try.q36,Try.q48,Try.underlying50,Try.q50]
          first | exact ⟨rfl, hrf⟩ | exact hrf
        | true =>
          refine acalls_then (k4 _) ?_
          simp -implicitDefEqProofs only [Q0,Q1,Q2,Q3,Q4,Q5,Q6,Q7,Q8,Q9,Qa,Qb,Qc,Qd,Qe,Qf,Qg,Qh,Qi,Qj,Qk,Ql,Qm,Qn,Qo,Qp,Qq,Qr,Qs,Qt,Qu,Qv,Qw,Qx,Qy,Qz,QA,QB,QC,QD,QE,QF,QG,QH,QI,QJ,QK,QL,QM,QN,QO,QP,QQ,QR,QS,QT,QU,QV,QW,QX,QY,QZ,X0,X1,X2,X3,X4,X5,X6,X7,X8,X9,Xa,Xb,Xc,Xd,Xe,Xf,Xg,Xh,Xi,Xj,Xk,Xl,Xm,Xn,Xo,Xp,Xq,Xr,Xs,Xt,Xu,Xv,Xw,Xx,Xy,Xz,XA,XB,reduceIte,reduceCtorEq,XC,XD,XE,XF,XG,XH,XI,XJ,XK,XL,XM,XN,XO,XP,XQ,XR,XS,XT,XU,XV,XW,XX,XY,XZ,Y0,Try.q3,Try.q4,Try.q22,Try.q27,Try.q31,Try.underlying36,Try.q36,Try.q48,Try.underlying50,Try.q50]
          refine awp_loop (fun i : Nat => [(15, .int .i64 i), (0, .ptr m 0), (13, .int .i64 (sumL (inF a c lo hi) (es.take i))), (14, .int .i64 (sumL (outF a c lo hi) (es.take i))), (1, .int .i64 a), (2, .int .i64 c), (3, .int .i64 lo), (4, .int .i64 hi)])
            (fun i s => i ≤ es.length ∧ Ext σ s) (fun i => es.length - i) 0 (by kernel_rfl) (by simp [sub_cons, sub_nil, get_cons, sumL]) ⟨by omega, .refl _⟩ ?_
          rintro i s ⟨hi', hx⟩
          have hg := hx _ _ h0
          by_cases hlt : i < es.length
          · have d1 : decide ((i : Int) < (es.length : Int)) = true := decide_eq_true (by omega)
            have hrow : (es.map entA).getD (i : Int).toNat [] = entA es[i] := by rw [Int.toNat_natCast, getD_get (by simpa using hlt)]; simp
            have wi : IntKind.i64.wrap ((i : Int) + 1) = ((i + 1 : Nat) : Int) := by rw [wrap_i64 (by omega) (by omega)]; rfl
            have t1 := sumL_take (inF a c lo hi) es hlt
            have t2 := sumL_take (outF a c lo hi) es hlt
            have b1 := sumL_bound (f := inF a c lo hi) (l := es.take i) fun x hx => inF_b (hV x (List.mem_of_mem_take hx)) _ _ _ _
            have b2 := sumL_bound (f := outF a c lo hi) (l := es.take i) fun x hx => outF_b (hV x (List.mem_of_mem_take hx)) _ _ _ _
            have hti : (es.take i).length = i := by rw [List.length_take]; omega
            rw [hti] at b1 b2
            have hv := (hV _ (List.getElem_mem hlt)).amt
            have bi : (0 : Int) ≤ (i : Int) ∧ (i : Int) < (es.length : Int) := by omega
            generalize es[i] = e at *
            have hrow2 : (es.map entA).getD (i : Int).toNat [] = [.int .i64 e.day, .int .i64 e.fr, .int .i64 e.to, .int .i64 e.cur, .int .i64 e.amt, .int .i64 e.note] := hrow
            have kd := rr_in e.day lo hi
            have nx : ∀ s' : Store, Ext s s' → Ext σ s' := fun s' h => hx.trans h
            have hx2 : Ext σ (s ++ [.box [.int .i64 e.day, .int .i64 e.fr, .int .i64 e.to, .int .i64 e.cur, .int .i64 e.amt, .int .i64 e.note]]) := hx.push _
            generalize sumL (inF a c lo hi) (es.take i) = u at *
            generalize sumL (outF a c lo hi) (es.take i) = v at *
            have wu : IntKind.i64.wrap (u + e.amt) = u + e.amt := wrap_i64 (by omega) (by omega)
            have wv : IntKind.i64.wrap (v + e.amt) = v + e.amt := wrap_i64 (by omega) (by omega)
            have q1 : inF a c lo hi e = if e.cur = c ∧ inB e.day lo hi = true then (if e.to = a then e.amt else 0) else 0 := rfl
            have q2 : outF a c lo hi e = if e.cur = c ∧ inB e.day lo hi = true then (if e.fr = a then e.amt else 0) else 0 := rfl
            rw [q1] at t1
            rw [q2] at t2
            clear q1 q2
            by_cases hc : e.cur = c
            · have d2 : decide (e.cur = c) = true := decide_eq_true hc
              cases hd : inB e.day lo hi with
              | false =>
                rw [hd] at kd
                rw [if_neg (by rw [hd]; simp)] at t1 t2
                rw [Int.add_zero] at t1 t2
                simp -implicitDefEqProofs only [hg,d1,hrow2,lm,d2,Q0,Q1,Q2,Q3,Q4,Q5,Q6,Q7,Q8,Q9,Qa,Qb,Qc,Qd,Qe,Qf,Qg,Qh,Qi,Qj,Qk,Ql,Qm,Qn,Qo,Qp,Qq,Qr,Qs,Qt,Qu,Qv,Qw,Qx,Qy,Qz,QA,QB,QC,QD,QE,QF,QG,QH,QI,QJ,QK,QL,QM,QN,QO,QP,QQ,QR,QS,QT,QU,QV,QW,QX,QY,QZ,X0,X1,X2,X3,X4,X5,X6,X7,X8,X9,Xa,Xb,Xc,Xd,Xe,Xf,Xg,Xh,Xi,Xj,Xk,Xl,Xm,Xn,Xo,Xp,Xq,Xr,Xs,Xt,Xu,Xv,Xw,Xx,Xy,Xz,XA,XB,reduceIte,reduceCtorEq,XC,XD,XE,XF,XG,XH,XI,XJ,XK,XL,XM,XN,XO,XP,XQ,XR,XS,XT,XU,XV,XW,XX,XY,XZ,Y0,Try.q3,Try.q4,Try.q22,Try.q27,Try.q31,Try.underlying36,Try.q36,Try.q48,Try.underlying50,Try.q50]
                refine ⟨bi, ?_⟩
                refine acalls_then (kd _) ?_
                simp -implicitDefEqProofs only [wi,Q0,Q1,Q2,Q3,Q4,Q5,Q6,Q7,Q8,Q9,Qa,Qb,Qc,Qd,Qe,Qf,Qg,Qh,Qi,Qj,Qk,Ql,Qm,Qn,Qo,Qp,Qq,Qr,Qs,Qt,Qu,Qv,Qw,Qx,Qy,Qz,QA,QB,QC,QD,QE,QF,QG,QH,QI,QJ,QK,QL,QM,QN,QO,QP,QQ,QR,QS,QT,QU,QV,QW,QX,QY,QZ,X0,X1,X2,X3,X4,X5,X6,X7,X8,X9,Xa,Xb,Xc,Xd,Xe,Xf,Xg,Xh,Xi,Xj,Xk,Xl,Xm,Xn,Xo,Xp,Xq,Xr,Xs,Xt,Xu,Xv,Xw,Xx,Xy,Xz,XA,XB,reduceIte,reduceCtorEq,XC,XD,XE,XF,XG,XH,XI,XJ,XK,XL,XM,XN,XO,XP,XQ,XR,XS,XT,XU,XV,XW,XX,XY,XZ,Y0,Try.q3,Try.q4,Try.q22,Try.q27,Try.q31,Try.underlying36,Try.q36,Try.q48,Try.underlying50,Try.q50]
                exact ⟨i + 1, ⟨rfl, by rw [t1], by rw [t2]⟩, ⟨by omega, hx2⟩, by omega⟩
              | true =>
                rw [hd] at kd
                rw [if_pos ⟨hc, hd⟩] at t1 t2
                by_cases ht : e.to = a
                · have d3 : decide (e.to = a) = true := decide_eq_true ht
                  rw [if_pos ht] at t1
                  by_cases hf : e.fr = a
                  · have d4 : decide (e.fr = a) = true := decide_eq_true hf
                    rw [if_pos hf] at t2
                    simp -implicitDefEqProofs only [hg,d1,hrow2,lm,d2,Q0,Q1,Q2,Q3,Q4,Q5,Q6,Q7,Q8,Q9,Qa,Qb,Qc,Qd,Qe,Qf,Qg,Qh,Qi,Qj,Qk,Ql,Qm,Qn,Qo,Qp,Qq,Qr,Qs,Qt,Qu,Qv,Qw,Qx,Qy,Qz,QA,QB,QC,QD,QE,QF,QG,QH,QI,QJ,QK,QL,QM,QN,QO,QP,QQ,QR,QS,QT,QU,QV,QW,QX,QY,QZ,X0,X1,X2,X3,X4,X5,X6,X7,X8,X9,Xa,Xb,Xc,Xd,Xe,Xf,Xg,Xh,Xi,Xj,Xk,Xl,Xm,Xn,Xo,Xp,Xq,Xr,Xs,Xt,Xu,Xv,Xw,Xx,Xy,Xz,XA,XB,reduceIte,reduceCtorEq,XC,XD,XE,XF,XG,XH,XI,XJ,XK,XL,XM,XN,XO,XP,XQ,XR,XS,XT,XU,XV,XW,XX,XY,XZ,Y0,Try.q3,Try.q4,Try.q22,Try.q27,Try.q31,Try.underlying36,Try.q36,Try.q48,Try.underlying50,Try.q50]
                    refine ⟨bi, ?_⟩
                    refine acalls_then (kd _) ?_
                    simp -implicitDefEqProofs only [wi,d3,d4,wu,wv,Q0,Q1,Q2,Q3,Q4,Q5,Q6,Q7,Q8,Q9,Qa,Qb,Qc,Qd,Qe,Qf,Qg,Qh,Qi,Qj,Qk,Ql,Qm,Qn,Qo,Qp,Qq,Qr,Qs,Qt,Qu,Qv,Qw,Qx,Qy,Qz,QA,QB,QC,QD,QE,QF,QG,QH,QI,QJ,QK,QL,QM,QN,QO,QP,QQ,QR,QS,QT,QU,QV,QW,QX,QY,QZ,X0,X1,X2,X3,X4,X5,X6,X7,X8,X9,Xa,Xb,Xc,Xd,Xe,Xf,Xg,Xh,Xi,Xj,Xk,Xl,Xm,Xn,Xo,Xp,Xq,Xr,Xs,Xt,Xu,Xv,Xw,Xx,Xy,Xz,XA,XB,reduceIte,reduceCtorEq,XC,XD,XE,XF,XG,XH,XI,XJ,XK,XL,XM,XN,XO,XP,XQ,XR,XS,XT,XU,XV,XW,XX,XY,XZ,Y0,Try.q3,Try.q4,Try.q22,Try.q27,Try.q31,Try.underlying36,Try.q36,Try.q48,Try.underlying50,Try.q50]
                    exact ⟨i + 1, ⟨rfl, by rw [t1], by rw [t2]⟩, ⟨by omega, hx2⟩, by omega⟩
                  · have d4 : decide (e.fr = a) = false := decide_eq_false hf
                    rw [if_neg hf, Int.add_zero] at t2
                    simp -implicitDefEqProofs only [hg,d1,hrow2,lm,d2,Q0,Q1,Q2,Q3,Q4,Q5,Q6,Q7,Q8,Q9,Qa,Qb,Qc,Qd,Qe,Qf,Qg,Qh,Qi,Qj,Qk,Ql,Qm,Qn,Qo,Qp,Qq,Qr,Qs,Qt,Qu,Qv,Qw,Qx,Qy,Qz,QA,QB,QC,QD,QE,QF,QG,QH,QI,QJ,QK,QL,QM,QN,QO,QP,QQ,QR,QS,QT,QU,QV,QW,QX,QY,QZ,X0,X1,X2,X3,X4,X5,X6,X7,X8,X9,Xa,Xb,Xc,Xd,Xe,Xf,Xg,Xh,Xi,Xj,Xk,Xl,Xm,Xn,Xo,Xp,Xq,Xr,Xs,Xt,Xu,Xv,Xw,Xx,Xy,Xz,XA,XB,reduceIte,reduceCtorEq,XC,XD,XE,XF,XG,XH,XI,XJ,XK,XL,XM,XN,XO,XP,XQ,XR,XS,XT,XU,XV,XW,XX,XY,XZ,Y0,Try.q3,Try.q4,Try.q22,Try.q27,Try.q31,Try.underlying36,Try.q36,Try.q48,Try.underlying50,Try.q50]
                    refine ⟨bi, ?_⟩
                    refine acalls_then (kd _) ?_
                    simp -implicitDefEqProofs only [wi,d3,d4,wu,wv,Q0,Q1,Q2,Q3,Q4,Q5,Q6,Q7,Q8,Q9,Qa,Qb,Qc,Qd,Qe,Qf,Qg,Qh,Qi,Qj,Qk,Ql,Qm,Qn,Qo,Qp,Qq,Qr,Qs,Qt,Qu,Qv,Qw,Qx,Qy,Qz,QA,QB,QC,QD,QE,QF,QG,QH,QI,QJ,QK,QL,QM,QN,QO,QP,QQ,QR,QS,QT,QU,QV,QW,QX,QY,QZ,X0,X1,X2,X3,X4,X5,X6,X7,X8,X9,Xa,Xb,Xc,Xd,Xe,Xf,Xg,Xh,Xi,Xj,Xk,Xl,Xm,Xn,Xo,Xp,Xq,Xr,Xs,Xt,Xu,Xv,Xw,Xx,Xy,Xz,XA,XB,reduceIte,reduceCtorEq,XC,XD,XE,XF,XG,XH,XI,XJ,XK,XL,XM,XN,XO,XP,XQ,XR,XS,XT,XU,XV,XW,XX,XY,XZ,Y0,Try.q3,Try.q4,Try.q22,Try.q27,Try.q31,Try.underlying36,Try.q36,Try.q48,Try.underlying50,Try.q50]
                    exact ⟨i + 1, ⟨rfl, by rw [t1], by rw [t2]⟩, ⟨by omega, hx2⟩, by omega⟩
                · have d3 : decide (e.to = a) = false := decide_eq_false ht
                  rw [if_neg ht, Int.add_zero] at t1
                  by_cases hf : e.fr = a
                  · have d4 : decide (e.fr = a) = true := decide_eq_true hf
                    rw [if_pos hf] at t2
                    simp -implicitDefEqProofs only [hg,d1,hrow2,lm,d2,Q0,Q1,Q2,Q3,Q4,Q5,Q6,Q7,Q8,Q9,Qa,Qb,Qc,Qd,Qe,Qf,Qg,Qh,Qi,Qj,Qk,Ql,Qm,Qn,Qo,Qp,Qq,Qr,Qs,Qt,Qu,Qv,Qw,Qx,Qy,Qz,QA,QB,QC,QD,QE,QF,QG,QH,QI,QJ,QK,QL,QM,QN,QO,QP,QQ,QR,QS,QT,QU,QV,QW,QX,QY,QZ,X0,X1,X2,X3,X4,X5,X6,X7,X8,X9,Xa,Xb,Xc,Xd,Xe,Xf,Xg,Xh,Xi,Xj,Xk,Xl,Xm,Xn,Xo,Xp,Xq,Xr,Xs,Xt,Xu,Xv,Xw,Xx,Xy,Xz,XA,XB,reduceIte,reduceCtorEq,XC,XD,XE,XF,XG,XH,XI,XJ,XK,XL,XM,XN,XO,XP,XQ,XR,XS,XT,XU,XV,XW,XX,XY,XZ,Y0,Try.q3,Try.q4,Try.q22,Try.q27,Try.q31,Try.underlying36,Try.q36,Try.q48,Try.underlying50,Try.q50]
                    refine ⟨bi, ?_⟩
                    refine acalls_then (kd _) ?_
                    simp -implicitDefEqProofs only [wi,d3,d4,wu,wv,Q0,Q1,Q2,Q3,Q4,Q5,Q6,Q7,Q8,Q9,Qa,Qb,Qc,Qd,Qe,Qf,Qg,Qh,Qi,Qj,Qk,Ql,Qm,Qn,Qo,Qp,Qq,Qr,Qs,Qt,Qu,Qv,Qw,Qx,Qy,Qz,QA,QB,QC,QD,QE,QF,QG,QH,QI,QJ,QK,QL,QM,QN,QO,QP,QQ,QR,QS,QT,QU,QV,QW,QX,QY,QZ,X0,X1,X2,X3,X4,X5,X6,X7,X8,X9,Xa,Xb,Xc,Xd,Xe,Xf,Xg,Xh,Xi,Xj,Xk,Xl,Xm,Xn,Xo,Xp,Xq,Xr,Xs,Xt,Xu,Xv,Xw,Xx,Xy,Xz,XA,XB,reduceIte,reduceCtorEq,XC,XD,XE,XF,XG,XH,XI,XJ,XK,XL,XM,XN,XO,XP,XQ,XR,XS,XT,XU,XV,XW,XX,XY,XZ,Y0,Try.q3,Try.q4,Try.q22,Try.q27,Try.q31,Try.underlying36,Try.q36,Try.q48,Try.underlying50,Try.q50]
                    exact ⟨i + 1, ⟨rfl, by rw [t1], by rw [t2]⟩, ⟨by omega, hx2⟩, by omega⟩
                  · have d4 : decide (e.fr = a) = false := decide_eq_false hf
                    rw [if_neg hf, Int.add_zero] at t2
                    simp -implicitDefEqProofs only [hg,d1,hrow2,lm,d2,Q0,Q1,Q2,Q3,Q4,Q5,Q6,Q7,Q8,Q9,Qa,Qb,Qc,Qd,Qe,Qf,Qg,Qh,Qi,Qj,Qk,Ql,Qm,Qn,Qo,Qp,Qq,Qr,Qs,Qt,Qu,Qv,Qw,Qx,Qy,Qz,QA,QB,QC,QD,QE,QF,QG,QH,QI,QJ,QK,QL,QM,QN,QO,QP,QQ,QR,QS,QT,QU,QV,QW,QX,QY,QZ,X0,X1,X2,X3,X4,X5,X6,X7,X8,X9,Xa,Xb,Xc,Xd,Xe,Xf,Xg,Xh,Xi,Xj,Xk,Xl,Xm,Xn,Xo,Xp,Xq,Xr,Xs,Xt,Xu,Xv,Xw,Xx,Xy,Xz,XA,XB,reduceIte,reduceCtorEq,XC,XD,XE,XF,XG,XH,XI,XJ,XK,XL,XM,XN,XO,XP,XQ,XR,XS,XT,XU,XV,XW,XX,XY,XZ,Y0,Try.q3,Try.q4,Try.q22,Try.q27,Try.q31,Try.underlying36,Try.q36,Try.q48,Try.underlying50,Try.q50]
                    refine ⟨bi, ?_⟩
                    refine acalls_then (kd _) ?_
                    simp -implicitDefEqProofs only [wi,d3,d4,wu,wv,Q0,Q1,Q2,Q3,Q4,Q5,Q6,Q7,Q8,Q9,Qa,Qb,Qc,Qd,Qe,Qf,Qg,Qh,Qi,Qj,Qk,Ql,Qm,Qn,Qo,Qp,Qq,Qr,Qs,Qt,Qu,Qv,Qw,Qx,Qy,Qz,QA,QB,QC,QD,QE,QF,QG,QH,QI,QJ,QK,QL,QM,QN,QO,QP,QQ,QR,QS,QT,QU,QV,QW,QX,QY,QZ,X0,X1,X2,X3,X4,X5,X6,X7,X8,X9,Xa,Xb,Xc,Xd,Xe,Xf,Xg,Xh,Xi,Xj,Xk,Xl,Xm,Xn,Xo,Xp,Xq,Xr,Xs,Xt,Xu,Xv,Xw,Xx,Xy,Xz,XA,XB,reduceIte,reduceCtorEq,XC,XD,XE,XF,XG,XH,XI,XJ,XK,XL,XM,XN,XO,XP,XQ,XR,XS,XT,XU,XV,XW,XX,XY,XZ,Y0,Try.q3,Try.q4,Try.q22,Try.q27,Try.q31,Try.underlying36,Try.q36,Try.q48,Try.underlying50,Try.q50]
                    exact ⟨i + 1, ⟨rfl, by rw [t1], by rw [t2]⟩, ⟨by omega, hx2⟩, by omega⟩
            · have d2 : decide (e.cur = c) = false := decide_eq_false hc
              rw [if_neg (fun h => hc h.1), Int.add_zero] at t1 t2
              simp -implicitDefEqProofs only [hg,d1,hrow2,lm,d2,wi,Q0,Q1,Q2,Q3,Q4,Q5,Q6,Q7,Q8,Q9,Qa,Qb,Qc,Qd,Qe,Qf,Qg,Qh,Qi,Qj,Qk,Ql,Qm,Qn,Qo,Qp,Qq,Qr,Qs,Qt,Qu,Qv,Qw,Qx,Qy,Qz,QA,QB,QC,QD,QE,QF,QG,QH,QI,QJ,QK,QL,QM,QN,QO,QP,QQ,QR,QS,QT,QU,QV,QW,QX,QY,QZ,X0,X1,X2,X3,X4,X5,X6,X7,X8,X9,Xa,Xb,Xc,Xd,Xe,Xf,Xg,Xh,Xi,Xj,Xk,Xl,Xm,Xn,Xo,Xp,Xq,Xr,Xs,Xt,Xu,Xv,Xw,Xx,Xy,Xz,XA,XB,reduceIte,reduceCtorEq,XC,XD,XE,XF,XG,XH,XI,XJ,XK,XL,XM,XN,XO,XP,XQ,XR,XS,XT,XU,XV,XW,XX,XY,XZ,Y0,Try.q3,Try.q4,Try.q22,Try.q27,Try.q31,Try.underlying36,Try.q36,Try.q48,Try.underlying50,Try.q50]
              exact ⟨bi, i + 1, ⟨rfl, by rw [t1], by rw [t2]⟩, ⟨by omega, hx2⟩, by omega⟩
          · have d1 : decide ((i : Int) < (es.length : Int)) = false := decide_eq_false (by omega)
            have hfin : es.take i = es := List.take_of_length_le (by omega)
            rw [hfin]
            simp -implicitDefEqProofs only [hg,lm,d1,Q0,Q1,Q2,Q3,Q4,Q5,Q6,Q7,Q8,Q9,Qa,Qb,Qc,Qd,Qe,Qf,Qg,Qh,Qi,Qj,Qk,Ql,Qm,Qn,Qo,Qp,Qq,Qr,Qs,Qt,Qu,Qv,Qw,Qx,Qy,Qz,QA,QB,QC,QD,QE,QF,QG,QH,QI,QJ,QK,QL,QM,QN,QO,QP,QQ,QR,QS,QT,QU,QV,QW,QX,QY,QZ,X0,X1,X2,X3,X4,X5,X6,X7,X8,X9,Xa,Xb,Xc,Xd,Xe,Xf,Xg,Xh,Xi,Xj,Xk,Xl,Xm,Xn,Xo,Xp,Xq,Xr,Xs,Xt,Xu,Xv,Xw,Xx,Xy,Xz,XA,XB,reduceIte,reduceCtorEq,XC,XD,XE,XF,XG,XH,XI,XJ,XK,XL,XM,XN,XO,XP,XQ,XR,XS,XT,XU,XV,XW,XX,XY,XZ,Y0,Try.q3,Try.q4,Try.q22,Try.q27,Try.q31,Try.underlying36,Try.q36,Try.q48,Try.underlying50,Try.q50]
            exact hx

end Go.Proofs
