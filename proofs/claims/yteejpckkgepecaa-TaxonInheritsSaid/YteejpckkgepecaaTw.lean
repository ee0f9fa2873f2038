/-
  Taxonomies: inheritance agrees with the reference; the law.
-/
import Derived.Test.YteejpckkgepecaaTv
import Derived.Test.YteejpckkgepecaaTq
namespace Go.Proofs
open Go.Pa
open Go.Pa renaming VB0 → Q0, VB1 → Q1, VB2 → Q2, VB3 → Q3, VB4 → Q4, VB5 → Q5, VB6 → Q6, VB7 → Q7, condV_bool → Q8, guardV_bool → Q9, vcS → Qa, evA → Qb, evBin → Qc, nilA → Qd, nilOf → Qe, intOp → Qf, strOp → Qg, evUn → Qh, evConv → Qi, evField → Qj, evFieldAddr → Qk, evIndexAddr → Ql, evIndex → Qm, evIndexA → Qn, bnd → Qo, evSlice → Qp, evLen → Qq, evPick → Qr, evExtract → Qs, evNilCheck → Qt, evMin → Qu, evMax → Qv, evLoadI → Qw, partsOne → Qy, intsOf → Qz, rowsAV → QA, evBuildSlice → QB, evBuild → QC, fillA → QD, splice → QE, evBuiltin → QF, guardD_bool → QG, dOp → QH, cl → QI, vcLoad → QJ, vcStore → QK, vcMake → QL, convA → QM, evIndexArr → QN, retA → QO, ressA → QP, resA → QQ, envOf → QR, condR_bool → QV, asgEnv → QW, parEnv → QX, dstAt → XG, vcLook → XR, vcPut → XS, vcEnt → XT, vcESt → XU, vcMLen → XV, vcDel → XW, vcClear → XX, vcLookD → XY
open Go.Pa.AV renaming cell → Qx
open Go.Pa.Env renaming put → QS
open List renaming set_cons_zero → QT, set_cons_succ → QU, foldl_cons → QY, foldl_nil → QZ, map_cons → X0, map_nil → X1, toList_toArray → X2, getElem?_cons_zero → X3, getElem?_cons_succ → X4, nil_append → X8, append_nil → X9, cons_append → Xa, singleton_append → Xb, length_cons → Xc, length_nil → Xd, all_cons → Xe, all_nil → Xf, take_succ_cons → Xg, take_zero → Xh, take_nil → Xi, drop_zero → Xj, drop_succ_cons → Xk, drop_nil → Xl, contains_nil → Xm, contains_cons → Xn
open Option renaming bind_some → X5, map_some → X6, map_none → X7
open Bool renaming or_false → Xo, false_or → Xp, or_true → Xq, true_or → Xr, false_eq_true → XA, not_true → XB, not_false → XC, and_true → XD, true_and → XE, and_self → XF
open Nat renaming reduceEqDiff → Xs, reduceAdd → Xt, reduceSub → Xu, reduceMul → Xv, reduceLT → Xw, reduceLeDiff → Xx, reduceBNe → Xy, reduceBEq → Xz, zero_add → XJ, add_zero → XK
open UInt8 renaming reduceToNat → XH
open Int renaming cast_ofNat_Int → XI, reduceToNat → XL, reduceLT → XM, reduceLE → XN, reduceNeg → XO, reduceEq → XP, reduceNe → XQ
set_option linter.unusedSimpArgs false
set_option linter.unusedVariables false
set_option maxRecDepth 20000
set_option maxHeartbeats 2000000

theorem same_nils (σ : Store) : ACalls Try.prog 17 [.nils, .nils] σ (fun r s => r = .bool true ∧ s = σ) := by
  have k := same_ints [] [] σ (by simp)
  simp only [decide_true] at k
  refine ACalls.weak k ?_
  intro G vs h
  cases h with
  | cons h1 h2 =>
    cases h2 with
    | cons h3 h4 =>
      cases h4
      cases h1
      cases h3
      exact .cons (.ints0 _ _ _) (.cons (.ints0 _ _ _) .nil)

theorem colV_same (n : Nat) (hn : n ≤ 1000) (g : List Int) (h : Int → Bool) : ∃ (V : AV) (e : Int), colV n g h = .tup [V, .int .i64 e] ∧ V.cellsOf = some [V] ∧ ∀ σ, ACalls Try.prog 17 [V, V] σ (fun r s => r = .bool true ∧ s = σ) := by
  cases hb : g.any (badI n) with
  | true => exact ⟨_, _, colV_bad hb, rfl, same_nils⟩
  | false =>
    refine ⟨_, _, colV_ok hb, rfl, fun σ => ?_⟩
    have k := same_ints (filtI n h) (filtI n h) σ (by have := filtI_len n h; omega)
    simp only [decide_true] at k
    exact k

theorem law_TaxonInherits (l : List Int) (hl : ∀ x ∈ l, Okk .i64 x) (_ : l.length ≤ 9223372036854775807) (m : List Int) (hm : ∀ x ∈ m, Okk .i64 x) (_ : m.length ≤ 9223372036854775807) (c : Int) (hc : Okk .i64 c) (d : Int) (hd : Okk .i64 d) :
    ACalls Try.prog 3 [.ints .i64 l, .ints .i64 m, .int .i64 c, .int .i64 d] [] (fun r _ => r = .bool true) := by
  obtain ⟨p, -, hp1, hp9, hI, hrl, hAc, kG, kN⟩ := gen_tax hl (most := 9) (by decide) (by decide)
  have hml : (p.map rowI).length = p.length := by simp
  have kA := fun σ => r_some (p.map rowI) (by omega) (by omega) m hm σ
  rw [hml] at kA
  have lA := someI_len p.length m
  generalize someI p.length m = A at kA lA
  have hr64 : ∀ r ∈ p, r.length ≤ 64 := fun r h => by have := hrl r h; omega
  have kL := lives05
  have kI := fun c d σ => c_Is p (by omega) c d σ
  have kJ := fun c d σ => r_Is p (by omega) hI hr64 c d σ
  have kD := fun c σ => c_Down p (by omega) c σ
  have kE := fun c σ => r_Down p (by omega) hI hr64 c σ
  have kU := fun g h σ => c_Up p (by omega) g h σ
  have kV := fun g h σ => r_Up p (by omega) hI hr64 g h σ
  have kS := fun g h σ => c_Least p (by omega) g h σ
  have kT := fun g h σ => r_Least p (by omega) hI hr64 g h σ
  have hcs2 := fun g h => colV_same p.length (by omega) g h
  obtain ⟨cs, hcs⟩ : ∃ cs, taxA p = .iptr cs := ⟨_, rfl⟩
  simp only [hcs] at kN kI kD kU kS
  obtain ⟨n, hn⟩ : ∃ n, n = p.length := ⟨_, rfl⟩
  have k1 := fun σ => around c (p.length : Int) σ (by omega)
  have k2 := fun σ => around d (p.length : Int) σ (by omega)
  generalize aroundI c (p.length : Int) = c2 at *
  generalize aroundI d (p.length : Int) = d2 at *
  refine acalls_of_awp (fn := Try.f3) Try.call3 Try.func3 rfl (by simp [Try.ntmps3]) ?_
  simp only [Try.ntmps3, Try.results3]
  refine awp_seq (awp_vc (by kernel_rfl) ?_)
  simp -implicitDefEqProofs only [seqA_normal,seqA_ret,seqA_exit,Q0,Q1,Q2,Q3,Q4,Q5,Q6,Q7,Q8,Q9,Qa,Qb,Qc,Qd,Qe,Qf,Qg,Qh,Qi,Qj,Qk,Ql,Qm,Qn,Qo,Qp,Qq,Qr,Qs,Qt,Qu,Qv,Qw,Qx,Qy,Qz,QA,QB,QC,QD,QE,QF,QG,QH,QI,QJ,QK,QL,QM,QN,QO,QP,QQ,QR,QS,QT,QU,QV,QW,QX,QY,QZ,X0,X1,X2,X3,X4,X5,X6,X7,X8,X9,Xa,Xb,Xc,Xd,Xe,Xf,Xg,Xh,Xi,Xj,Xk,Xl,Xm,Xn,Xo,Xp,Xq,Xr,Xs,Xt,Xu,Xv,Xw,Xx,Xy,Xz,reduceIte,reduceCtorEq,ite_true,ite_false,if_true,if_false,XA,XB,XC,XD,XE,XF,and_true,true_and,and_self,true_imp_iff,false_imp_iff,eq_self,not_true_eq_false,not_false_eq_true,ne_eq,decide_true,decide_false,XG,XH,XI,XJ,XK,XL,XM,XN,XO,XP,XQ,XR,XS,XT,XU,XV,XW,XX,XY,Try.underlying3,Try.q3,Try.underlying4,Try.q4,Try.underlying22,Try.q22,Try.underlying23,Try.q23,Try.underlying25,Try.q25,Try.underlying26,Try.q26]
  refine awp_seq (awp_vc (by kernel_rfl) ?_)
  simp -implicitDefEqProofs only [Q0,Q1,Q2,Q3,Q4,Q5,Q6,Q7,Q8,Q9,Qa,Qb,Qc,Qd,Qe,Qf,Qg,Qh,Qi,Qj,Qk,Ql,Qm,Qn,Qo,Qp,Qq,Qr,Qs,Qt,Qu,Qv,Qw,Qx,Qy,Qz,QA,QB,QC,QD,QE,QF,QG,QH,QI,QJ,QK,QL,QM,QN,QO,QP,QQ,QR,QS,QT,QU,QV,QW,QX,QY,QZ,X0,X1,X2,X3,X4,X5,X6,X7,X8,X9,Xa,Xb,Xc,Xd,Xe,Xf,Xg,Xh,Xi,Xj,Xk,Xl,Xm,Xn,Xo,Xp,Xq,Xr,Xs,Xt,Xu,Xv,Xw,Xx,Xy,Xz,reduceIte,reduceCtorEq,ite_true,ite_false,if_true,if_false,XA,XB,XC,XD,XE,XF,and_true,true_and,and_self,true_imp_iff,false_imp_iff,eq_self,not_true_eq_false,not_false_eq_true,ne_eq,decide_true,decide_false,XG,XH,XI,XJ,XK,XL,XM,XN,XO,XP,XQ,XR,XS,XT,XU,XV,XW,XX,XY,Try.underlying3,Try.q3,Try.underlying4,Try.q4,Try.underlying22,Try.q22,Try.underlying23,Try.q23,Try.underlying25,Try.q25,Try.underlying26,Try.q26]
  refine acalls_then (kG _) ?_
  simp -implicitDefEqProofs only [seqA_normal,Q0,Q1,Q2,Q3,Q4,Q5,Q6,Q7,Q8,Q9,Qa,Qb,Qc,Qd,Qe,Qf,Qg,Qh,Qi,Qj,Qk,Ql,Qm,Qn,Qo,Qp,Qq,Qr,Qs,Qt,Qu,Qv,Qw,Qx,Qy,Qz,QA,QB,QC,QD,QE,QF,QG,QH,QI,QJ,QK,QL,QM,QN,QO,QP,QQ,QR,QS,QT,QU,QV,QW,QX,QY,QZ,X0,X1,X2,X3,X4,X5,X6,X7,X8,X9,Xa,Xb,Xc,Xd,Xe,Xf,Xg,Xh,Xi,Xj,Xk,Xl,Xm,Xn,Xo,Xp,Xq,Xr,Xs,Xt,Xu,Xv,Xw,Xx,Xy,Xz,reduceIte,reduceCtorEq,ite_true,ite_false,if_true,if_false,XA,XB,XC,XD,XE,XF,and_true,true_and,and_self,true_imp_iff,false_imp_iff,eq_self,not_true_eq_false,not_false_eq_true,ne_eq,decide_true,decide_false,XG,XH,XI,XJ,XK,XL,XM,XN,XO,XP,XQ,XR,XS,XT,XU,XV,XW,XX,XY,Try.underlying3,Try.q3,Try.underlying4,Try.q4,Try.underlying22,Try.q22,Try.underlying23,Try.q23,Try.underlying25,Try.q25,Try.underlying26,Try.q26]
  refine awp_seq (awp_vc (by kernel_rfl) ?_)
  simp -implicitDefEqProofs only [Q0,Q1,Q2,Q3,Q4,Q5,Q6,Q7,Q8,Q9,Qa,Qb,Qc,Qd,Qe,Qf,Qg,Qh,Qi,Qj,Qk,Ql,Qm,Qn,Qo,Qp,Qq,Qr,Qs,Qt,Qu,Qv,Qw,Qx,Qy,Qz,QA,QB,QC,QD,QE,QF,QG,QH,QI,QJ,QK,QL,QM,QN,QO,QP,QQ,QR,QS,QT,QU,QV,QW,QX,QY,QZ,X0,X1,X2,X3,X4,X5,X6,X7,X8,X9,Xa,Xb,Xc,Xd,Xe,Xf,Xg,Xh,Xi,Xj,Xk,Xl,Xm,Xn,Xo,Xp,Xq,Xr,Xs,Xt,Xu,Xv,Xw,Xx,Xy,Xz,reduceIte,reduceCtorEq,ite_true,ite_false,if_true,if_false,XA,XB,XC,XD,XE,XF,and_true,true_and,and_self,true_imp_iff,false_imp_iff,eq_self,not_true_eq_false,not_false_eq_true,ne_eq,decide_true,decide_false,XG,XH,XI,XJ,XK,XL,XM,XN,XO,XP,XQ,XR,XS,XT,XU,XV,XW,XX,XY,Try.underlying3,Try.q3,Try.underlying4,Try.q4,Try.underlying22,Try.q22,Try.underlying23,Try.q23,Try.underlying25,Try.q25,Try.underlying26,Try.q26]
  refine acalls_then (kN _) ?_
  simp -implicitDefEqProofs only [seqA_normal,Q0,Q1,Q2,Q3,Q4,Q5,Q6,Q7,Q8,Q9,Qa,Qb,Qc,Qd,Qe,Qf,Qg,Qh,Qi,Qj,Qk,Ql,Qm,Qn,Qo,Qp,Qq,Qr,Qs,Qt,Qu,Qv,Qw,Qx,Qy,Qz,QA,QB,QC,QD,QE,QF,QG,QH,QI,QJ,QK,QL,QM,QN,QO,QP,QQ,QR,QS,QT,QU,QV,QW,QX,QY,QZ,X0,X1,X2,X3,X4,X5,X6,X7,X8,X9,Xa,Xb,Xc,Xd,Xe,Xf,Xg,Xh,Xi,Xj,Xk,Xl,Xm,Xn,Xo,Xp,Xq,Xr,Xs,Xt,Xu,Xv,Xw,Xx,Xy,Xz,reduceIte,reduceCtorEq,ite_true,ite_false,if_true,if_false,XA,XB,XC,XD,XE,XF,and_true,true_and,and_self,true_imp_iff,false_imp_iff,eq_self,not_true_eq_false,not_false_eq_true,ne_eq,decide_true,decide_false,XG,XH,XI,XJ,XK,XL,XM,XN,XO,XP,XQ,XR,XS,XT,XU,XV,XW,XX,XY,Try.underlying3,Try.q3,Try.underlying4,Try.q4,Try.underlying22,Try.q22,Try.underlying23,Try.q23,Try.underlying25,Try.q25,Try.underlying26,Try.q26]
  refine awp_seq (awp_vc (by kernel_rfl) ?_)
  simp -implicitDefEqProofs only [seqA_normal,seqA_ret,seqA_exit,Q0,Q1,Q2,Q3,Q4,Q5,Q6,Q7,Q8,Q9,Qa,Qb,Qc,Qd,Qe,Qf,Qg,Qh,Qi,Qj,Qk,Ql,Qm,Qn,Qo,Qp,Qq,Qr,Qs,Qt,Qu,Qv,Qw,Qx,Qy,Qz,QA,QB,QC,QD,QE,QF,QG,QH,QI,QJ,QK,QL,QM,QN,QO,QP,QQ,QR,QS,QT,QU,QV,QW,QX,QY,QZ,X0,X1,X2,X3,X4,X5,X6,X7,X8,X9,Xa,Xb,Xc,Xd,Xe,Xf,Xg,Xh,Xi,Xj,Xk,Xl,Xm,Xn,Xo,Xp,Xq,Xr,Xs,Xt,Xu,Xv,Xw,Xx,Xy,Xz,reduceIte,reduceCtorEq,ite_true,ite_false,if_true,if_false,XA,XB,XC,XD,XE,XF,and_true,true_and,and_self,true_imp_iff,false_imp_iff,eq_self,not_true_eq_false,not_false_eq_true,ne_eq,decide_true,decide_false,XG,XH,XI,XJ,XK,XL,XM,XN,XO,XP,XQ,XR,XS,XT,XU,XV,XW,XX,XY,Try.underlying3,Try.q3,Try.underlying4,Try.q4,Try.underlying22,Try.q22,Try.underlying23,Try.q23,Try.underlying25,Try.q25,Try.underlying26,Try.q26]
  refine awp_seq (awp_vc (by kernel_rfl) ?_)
  simp -implicitDefEqProofs only [hml,Q0,Q1,Q2,Q3,Q4,Q5,Q6,Q7,Q8,Q9,Qa,Qb,Qc,Qd,Qe,Qf,Qg,Qh,Qi,Qj,Qk,Ql,Qm,Qn,Qo,Qp,Qq,Qr,Qs,Qt,Qu,Qv,Qw,Qx,Qy,Qz,QA,QB,QC,QD,QE,QF,QG,QH,QI,QJ,QK,QL,QM,QN,QO,QP,QQ,QR,QS,QT,QU,QV,QW,QX,QY,QZ,X0,X1,X2,X3,X4,X5,X6,X7,X8,X9,Xa,Xb,Xc,Xd,Xe,Xf,Xg,Xh,Xi,Xj,Xk,Xl,Xm,Xn,Xo,Xp,Xq,Xr,Xs,Xt,Xu,Xv,Xw,Xx,Xy,Xz,reduceIte,reduceCtorEq,ite_true,ite_false,if_true,if_false,XA,XB,XC,XD,XE,XF,and_true,true_and,and_self,true_imp_iff,false_imp_iff,eq_self,not_true_eq_false,not_false_eq_true,ne_eq,decide_true,decide_false,XG,XH,XI,XJ,XK,XL,XM,XN,XO,XP,XQ,XR,XS,XT,XU,XV,XW,XX,XY,Try.underlying3,Try.q3,Try.underlying4,Try.q4,Try.underlying22,Try.q22,Try.underlying23,Try.q23,Try.underlying25,Try.q25,Try.underlying26,Try.q26]
  refine acalls_then (k1 _) ?_
  simp -implicitDefEqProofs only [hml,Q0,Q1,Q2,Q3,Q4,Q5,Q6,Q7,Q8,Q9,Qa,Qb,Qc,Qd,Qe,Qf,Qg,Qh,Qi,Qj,Qk,Ql,Qm,Qn,Qo,Qp,Qq,Qr,Qs,Qt,Qu,Qv,Qw,Qx,Qy,Qz,QA,QB,QC,QD,QE,QF,QG,QH,QI,QJ,QK,QL,QM,QN,QO,QP,QQ,QR,QS,QT,QU,QV,QW,QX,QY,QZ,X0,X1,X2,X3,X4,X5,X6,X7,X8,X9,Xa,Xb,Xc,Xd,Xe,Xf,Xg,Xh,Xi,Xj,Xk,Xl,Xm,Xn,Xo,Xp,Xq,Xr,Xs,Xt,Xu,Xv,Xw,Xx,Xy,Xz,reduceIte,reduceCtorEq,ite_true,ite_false,if_true,if_false,XA,XB,XC,XD,XE,XF,and_true,true_and,and_self,true_imp_iff,false_imp_iff,eq_self,not_true_eq_false,not_false_eq_true,ne_eq,decide_true,decide_false,XG,XH,XI,XJ,XK,XL,XM,XN,XO,XP,XQ,XR,XS,XT,XU,XV,XW,XX,XY,Try.underlying3,Try.q3,Try.underlying4,Try.q4,Try.underlying22,Try.q22,Try.underlying23,Try.q23,Try.underlying25,Try.q25,Try.underlying26,Try.q26]
  refine acalls_then (k2 _) ?_
  simp -implicitDefEqProofs only [hml,seqA_normal,Q0,Q1,Q2,Q3,Q4,Q5,Q6,Q7,Q8,Q9,Qa,Qb,Qc,Qd,Qe,Qf,Qg,Qh,Qi,Qj,Qk,Ql,Qm,Qn,Qo,Qp,Qq,Qr,Qs,Qt,Qu,Qv,Qw,Qx,Qy,Qz,QA,QB,QC,QD,QE,QF,QG,QH,QI,QJ,QK,QL,QM,QN,QO,QP,QQ,QR,QS,QT,QU,QV,QW,QX,QY,QZ,X0,X1,X2,X3,X4,X5,X6,X7,X8,X9,Xa,Xb,Xc,Xd,Xe,Xf,Xg,Xh,Xi,Xj,Xk,Xl,Xm,Xn,Xo,Xp,Xq,Xr,Xs,Xt,Xu,Xv,Xw,Xx,Xy,Xz,reduceIte,reduceCtorEq,ite_true,ite_false,if_true,if_false,XA,XB,XC,XD,XE,XF,and_true,true_and,and_self,true_imp_iff,false_imp_iff,eq_self,not_true_eq_false,not_false_eq_true,ne_eq,decide_true,decide_false,XG,XH,XI,XJ,XK,XL,XM,XN,XO,XP,XQ,XR,XS,XT,XU,XV,XW,XX,XY,Try.underlying3,Try.q3,Try.underlying4,Try.q4,Try.underlying22,Try.q22,Try.underlying23,Try.q23,Try.underlying25,Try.q25,Try.underlying26,Try.q26]
  obtain ⟨x, hx⟩ : ∃ x, x = [c, d, c2, d2, (p.length : Int), -1] := ⟨_, rfl⟩
  have hxl : x.length = 6 := by rw [hx]; rfl
  have hx24 : (x.drop 2).take 2 = [c2, d2] := by rw [hx]; rfl
  rw [← hx]
  clear hx
  refine awp_cutK (fun e' s' => Env.sub [(12, .ints .i64 x), (9, .rows 1 (p.map rowI)), (10, .iptr cs), (1, .ints .i64 m), (2, .int .i64 c)] e') ?_ ?_
  · refine awp_seq (awp_vc (by kernel_rfl) ?_)
    simp -implicitDefEqProofs only [seqA_normal,seqA_ret,seqA_exit,Q0,Q1,Q2,Q3,Q4,Q5,Q6,Q7,Q8,Q9,Qa,Qb,Qc,Qd,Qe,Qf,Qg,Qh,Qi,Qj,Qk,Ql,Qm,Qn,Qo,Qp,Qq,Qr,Qs,Qt,Qu,Qv,Qw,Qx,Qy,Qz,QA,QB,QC,QD,QE,QF,QG,QH,QI,QJ,QK,QL,QM,QN,QO,QP,QQ,QR,QS,QT,QU,QV,QW,QX,QY,QZ,X0,X1,X2,X3,X4,X5,X6,X7,X8,X9,Xa,Xb,Xc,Xd,Xe,Xf,Xg,Xh,Xi,Xj,Xk,Xl,Xm,Xn,Xo,Xp,Xq,Xr,Xs,Xt,Xu,Xv,Xw,Xx,Xy,Xz,reduceIte,reduceCtorEq,ite_true,ite_false,if_true,if_false,XA,XB,XC,XD,XE,XF,and_true,true_and,and_self,true_imp_iff,false_imp_iff,eq_self,not_true_eq_false,not_false_eq_true,ne_eq,decide_true,decide_false,XG,XH,XI,XJ,XK,XL,XM,XN,XO,XP,XQ,XR,XS,XT,XU,XV,XW,XX,XY,Try.underlying3,Try.q3,Try.underlying4,Try.q4,Try.underlying22,Try.q22,Try.underlying23,Try.q23,Try.underlying25,Try.q25,Try.underlying26,Try.q26]
    refine awp_blk ?_
    refine awp_loopW (fun i : Nat => [(13, .int .i64 i), (12, .ints .i64 x), (9, .rows 1 (p.map rowI)), (10, .iptr cs), (1, .ints .i64 m), (2, .int .i64 c)]) (fun i s => i ≤ 6) (fun i => 6 - i) 0 (by simp [sub_cons, sub_nil, get_cons]) (by simp) ?_
    rintro i s hi
    by_cases hlt : i < 6
    · have d1 : decide ((i : Int) < 6) = true := decide_eq_true (by omega)
      have wi : IntKind.i64.wrap ((i : Int) + 1) = ((i + 1 : Nat) : Int) := by rw [wrap_i64 (by omega) (by omega)]; rfl
      have hlx : i < x.length := by omega
      have hgi : x.getD ((i : Int).toNat) 0 = x[i] := by rw [Int.toNat_natCast, getD_get hlx]
      have bi : (0 : Int) ≤ (i : Int) ∧ (i : Int) < 6 := by omega
      generalize x[i] = y at *
      refine awp_seq (awp_vc (by kernel_rfl) ?_)
      simp -implicitDefEqProofs only [seqA_normal,seqA_ret,seqA_exit,hxl,d1,Q0,Q1,Q2,Q3,Q4,Q5,Q6,Q7,Q8,Q9,Qa,Qb,Qc,Qd,Qe,Qf,Qg,Qh,Qi,Qj,Qk,Ql,Qm,Qn,Qo,Qp,Qq,Qr,Qs,Qt,Qu,Qv,Qw,Qx,Qy,Qz,QA,QB,QC,QD,QE,QF,QG,QH,QI,QJ,QK,QL,QM,QN,QO,QP,QQ,QR,QS,QT,QU,QV,QW,QX,QY,QZ,X0,X1,X2,X3,X4,X5,X6,X7,X8,X9,Xa,Xb,Xc,Xd,Xe,Xf,Xg,Xh,Xi,Xj,Xk,Xl,Xm,Xn,Xo,Xp,Xq,Xr,Xs,Xt,Xu,Xv,Xw,Xx,Xy,Xz,reduceIte,reduceCtorEq,ite_true,ite_false,if_true,if_false,XA,XB,XC,XD,XE,XF,and_true,true_and,and_self,true_imp_iff,false_imp_iff,eq_self,not_true_eq_false,not_false_eq_true,ne_eq,decide_true,decide_false,XG,XH,XI,XJ,XK,XL,XM,XN,XO,XP,XQ,XR,XS,XT,XU,XV,XW,XX,XY,Try.underlying3,Try.q3,Try.underlying4,Try.q4,Try.underlying22,Try.q22,Try.underlying23,Try.q23,Try.underlying25,Try.q25,Try.underlying26,Try.q26]
      refine awp_seq (awp_blk ?_)
      refine awp_seq ?_
      refine awp_seq (awp_vc (by kernel_rfl) ?_)
      simp -implicitDefEqProofs only [seqA_normal,seqA_ret,seqA_exit,Q0,Q1,Q2,Q3,Q4,Q5,Q6,Q7,Q8,Q9,Qa,Qb,Qc,Qd,Qe,Qf,Qg,Qh,Qi,Qj,Qk,Ql,Qm,Qn,Qo,Qp,Qq,Qr,Qs,Qt,Qu,Qv,Qw,Qx,Qy,Qz,QA,QB,QC,QD,QE,QF,QG,QH,QI,QJ,QK,QL,QM,QN,QO,QP,QQ,QR,QS,QT,QU,QV,QW,QX,QY,QZ,X0,X1,X2,X3,X4,X5,X6,X7,X8,X9,Xa,Xb,Xc,Xd,Xe,Xf,Xg,Xh,Xi,Xj,Xk,Xl,Xm,Xn,Xo,Xp,Xq,Xr,Xs,Xt,Xu,Xv,Xw,Xx,Xy,Xz,reduceIte,reduceCtorEq,ite_true,ite_false,if_true,if_false,XA,XB,XC,XD,XE,XF,and_true,true_and,and_self,true_imp_iff,false_imp_iff,eq_self,not_true_eq_false,not_false_eq_true,ne_eq,decide_true,decide_false,XG,XH,XI,XJ,XK,XL,XM,XN,XO,XP,XQ,XR,XS,XT,XU,XV,XW,XX,XY,Try.underlying3,Try.q3,Try.underlying4,Try.q4,Try.underlying22,Try.q22,Try.underlying23,Try.q23,Try.underlying25,Try.q25,Try.underlying26,Try.q26]
      refine awp_blk ?_
      refine awp_loopW (fun k : Nat => [(14, .int .i64 k), (13, .int .i64 i), (12, .ints .i64 x), (9, .rows 1 (p.map rowI)), (10, .iptr cs), (1, .ints .i64 m), (2, .int .i64 c)]) (fun k s => k ≤ 6) (fun k => 6 - k) 0 (by simp [sub_cons, sub_nil, get_cons]) (by simp) ?_
      rintro k s hk
      by_cases hlk : k < 6
      · have d3 : decide ((k : Int) < 6) = true := decide_eq_true (by omega)
        have wk : IntKind.i64.wrap ((k : Int) + 1) = ((k + 1 : Nat) : Int) := by rw [wrap_i64 (by omega) (by omega)]; rfl
        have hlx2 : k < x.length := by omega
        have hgk : x.getD ((k : Int).toNat) 0 = x[k] := by rw [Int.toNat_natCast, getD_get hlx2]
        have bk : (0 : Int) ≤ (k : Int) ∧ (k : Int) < 6 := by omega
        generalize x[k] = z at *
        have q1 := kI y z
        have q2 := kJ y z
        generalize isI p y z = V at q1 q2
        have hbeq : (V == V) = true := by cases V <;> rfl
        refine awp_vc (by kernel_rfl) ?_
        simp -implicitDefEqProofs only [hxl,d3,Q0,Q1,Q2,Q3,Q4,Q5,Q6,Q7,Q8,Q9,Qa,Qb,Qc,Qd,Qe,Qf,Qg,Qh,Qi,Qj,Qk,Ql,Qm,Qn,Qo,Qp,Qq,Qr,Qs,Qt,Qu,Qv,Qw,Qx,Qy,Qz,QA,QB,QC,QD,QE,QF,QG,QH,QI,QJ,QK,QL,QM,QN,QO,QP,QQ,QR,QS,QT,QU,QV,QW,QX,QY,QZ,X0,X1,X2,X3,X4,X5,X6,X7,X8,X9,Xa,Xb,Xc,Xd,Xe,Xf,Xg,Xh,Xi,Xj,Xk,Xl,Xm,Xn,Xo,Xp,Xq,Xr,Xs,Xt,Xu,Xv,Xw,Xx,Xy,Xz,reduceIte,reduceCtorEq,ite_true,ite_false,if_true,if_false,XA,XB,XC,XD,XE,XF,and_true,true_and,and_self,true_imp_iff,false_imp_iff,eq_self,not_true_eq_false,not_false_eq_true,ne_eq,decide_true,decide_false,XG,XH,XI,XJ,XK,XL,XM,XN,XO,XP,XQ,XR,XS,XT,XU,XV,XW,XX,XY,Try.underlying3,Try.q3,Try.underlying4,Try.q4,Try.underlying22,Try.q22,Try.underlying23,Try.q23,Try.underlying25,Try.q25,Try.underlying26,Try.q26]
        refine awp_draws [] Try.mixed (by kernel_rfl) ?_
        simp -implicitDefEqProofs only [hxl,hgi,hgk,Q0,Q1,Q2,Q3,Q4,Q5,Q6,Q7,Q8,Q9,Qa,Qb,Qc,Qd,Qe,Qf,Qg,Qh,Qi,Qj,Qk,Ql,Qm,Qn,Qo,Qp,Qq,Qr,Qs,Qt,Qu,Qv,Qw,Qx,Qy,Qz,QA,QB,QC,QD,QE,QF,QG,QH,QI,QJ,QK,QL,QM,QN,QO,QP,QQ,QR,QS,QT,QU,QV,QW,QX,QY,QZ,X0,X1,X2,X3,X4,X5,X6,X7,X8,X9,Xa,Xb,Xc,Xd,Xe,Xf,Xg,Xh,Xi,Xj,Xk,Xl,Xm,Xn,Xo,Xp,Xq,Xr,Xs,Xt,Xu,Xv,Xw,Xx,Xy,Xz,reduceIte,reduceCtorEq,ite_true,ite_false,if_true,if_false,XA,XB,XC,XD,XE,XF,and_true,true_and,and_self,true_imp_iff,false_imp_iff,eq_self,not_true_eq_false,not_false_eq_true,ne_eq,decide_true,decide_false,XG,XH,XI,XJ,XK,XL,XM,XN,XO,XP,XQ,XR,XS,XT,XU,XV,XW,XX,XY,Try.underlying3,Try.q3,Try.underlying4,Try.q4,Try.underlying22,Try.q22,Try.underlying23,Try.q23,Try.underlying25,Try.q25,Try.underlying26,Try.q26]
        refine ⟨bi, bk, ?_⟩
        refine dCall_of (q1 _) (by decide) ?_
        simp -implicitDefEqProofs only [hxl,hgi,hgk,Q0,Q1,Q2,Q3,Q4,Q5,Q6,Q7,Q8,Q9,Qa,Qb,Qc,Qd,Qe,Qf,Qg,Qh,Qi,Qj,Qk,Ql,Qm,Qn,Qo,Qp,Qq,Qr,Qs,Qt,Qu,Qv,Qw,Qx,Qy,Qz,QA,QB,QC,QD,QE,QF,QG,QH,QI,QJ,QK,QL,QM,QN,QO,QP,QQ,QR,QS,QT,QU,QV,QW,QX,QY,QZ,X0,X1,X2,X3,X4,X5,X6,X7,X8,X9,Xa,Xb,Xc,Xd,Xe,Xf,Xg,Xh,Xi,Xj,Xk,Xl,Xm,Xn,Xo,Xp,Xq,Xr,Xs,Xt,Xu,Xv,Xw,Xx,Xy,Xz,reduceIte,reduceCtorEq,ite_true,ite_false,if_true,if_false,XA,XB,XC,XD,XE,XF,and_true,true_and,and_self,true_imp_iff,false_imp_iff,eq_self,not_true_eq_false,not_false_eq_true,ne_eq,decide_true,decide_false,XG,XH,XI,XJ,XK,XL,XM,XN,XO,XP,XQ,XR,XS,XT,XU,XV,XW,XX,XY,Try.underlying3,Try.q3,Try.underlying4,Try.q4,Try.underlying22,Try.q22,Try.underlying23,Try.q23,Try.underlying25,Try.q25,Try.underlying26,Try.q26]
        refine ⟨bi, bk, ?_⟩
        refine dCall_of (q2 _) (by decide) ?_
        simp -implicitDefEqProofs only [hbeq,wk,Q0,Q1,Q2,Q3,Q4,Q5,Q6,Q7,Q8,Q9,Qa,Qb,Qc,Qd,Qe,Qf,Qg,Qh,Qi,Qj,Qk,Ql,Qm,Qn,Qo,Qp,Qq,Qr,Qs,Qt,Qu,Qv,Qw,Qx,Qy,Qz,QA,QB,QC,QD,QE,QF,QG,QH,QI,QJ,QK,QL,QM,QN,QO,QP,QQ,QR,QS,QT,QU,QV,QW,QX,QY,QZ,X0,X1,X2,X3,X4,X5,X6,X7,X8,X9,Xa,Xb,Xc,Xd,Xe,Xf,Xg,Xh,Xi,Xj,Xk,Xl,Xm,Xn,Xo,Xp,Xq,Xr,Xs,Xt,Xu,Xv,Xw,Xx,Xy,Xz,reduceIte,reduceCtorEq,ite_true,ite_false,if_true,if_false,XA,XB,XC,XD,XE,XF,and_true,true_and,and_self,true_imp_iff,false_imp_iff,eq_self,not_true_eq_false,not_false_eq_true,ne_eq,decide_true,decide_false,XG,XH,XI,XJ,XK,XL,XM,XN,XO,XP,XQ,XR,XS,XT,XU,XV,XW,XX,XY,Try.underlying3,Try.q3,Try.underlying4,Try.q4,Try.underlying22,Try.q22,Try.underlying23,Try.q23,Try.underlying25,Try.q25,Try.underlying26,Try.q26]
        exact ⟨k + 1, by simp, by omega, by omega⟩
      · have d3 : decide ((k : Int) < 6) = false := decide_eq_false (by omega)
        obtain ⟨V, e, hV, hVc, kSm⟩ := hcs2 [y] (fun d => isI p d y)
        have q1 := kD y
        have q2 := kE y
        rw [hV] at q1 q2
        have he : decide (e = e) = true := decide_eq_true rfl
        refine awp_vc (by kernel_rfl) ?_
        simp -implicitDefEqProofs only [hxl,d3,seqA_normal,Q0,Q1,Q2,Q3,Q4,Q5,Q6,Q7,Q8,Q9,Qa,Qb,Qc,Qd,Qe,Qf,Qg,Qh,Qi,Qj,Qk,Ql,Qm,Qn,Qo,Qp,Qq,Qr,Qs,Qt,Qu,Qv,Qw,Qx,Qy,Qz,QA,QB,QC,QD,QE,QF,QG,QH,QI,QJ,QK,QL,QM,QN,QO,QP,QQ,QR,QS,QT,QU,QV,QW,QX,QY,QZ,X0,X1,X2,X3,X4,X5,X6,X7,X8,X9,Xa,Xb,Xc,Xd,Xe,Xf,Xg,Xh,Xi,Xj,Xk,Xl,Xm,Xn,Xo,Xp,Xq,Xr,Xs,Xt,Xu,Xv,Xw,Xx,Xy,Xz,reduceIte,reduceCtorEq,ite_true,ite_false,if_true,if_false,XA,XB,XC,XD,XE,XF,and_true,true_and,and_self,true_imp_iff,false_imp_iff,eq_self,not_true_eq_false,not_false_eq_true,ne_eq,decide_true,decide_false,XG,XH,XI,XJ,XK,XL,XM,XN,XO,XP,XQ,XR,XS,XT,XU,XV,XW,XX,XY,Try.underlying3,Try.q3,Try.underlying4,Try.q4,Try.underlying22,Try.q22,Try.underlying23,Try.q23,Try.underlying25,Try.q25,Try.underlying26,Try.q26]
        refine awp_seq (awp_vc (by kernel_rfl) ?_)
        simp -implicitDefEqProofs only [hxl,hgi,Q0,Q1,Q2,Q3,Q4,Q5,Q6,Q7,Q8,Q9,Qa,Qb,Qc,Qd,Qe,Qf,Qg,Qh,Qi,Qj,Qk,Ql,Qm,Qn,Qo,Qp,Qq,Qr,Qs,Qt,Qu,Qv,Qw,Qx,Qy,Qz,QA,QB,QC,QD,QE,QF,QG,QH,QI,QJ,QK,QL,QM,QN,QO,QP,QQ,QR,QS,QT,QU,QV,QW,QX,QY,QZ,X0,X1,X2,X3,X4,X5,X6,X7,X8,X9,Xa,Xb,Xc,Xd,Xe,Xf,Xg,Xh,Xi,Xj,Xk,Xl,Xm,Xn,Xo,Xp,Xq,Xr,Xs,Xt,Xu,Xv,Xw,Xx,Xy,Xz,reduceIte,reduceCtorEq,ite_true,ite_false,if_true,if_false,XA,XB,XC,XD,XE,XF,and_true,true_and,and_self,true_imp_iff,false_imp_iff,eq_self,not_true_eq_false,not_false_eq_true,ne_eq,decide_true,decide_false,XG,XH,XI,XJ,XK,XL,XM,XN,XO,XP,XQ,XR,XS,XT,XU,XV,XW,XX,XY,Try.underlying3,Try.q3,Try.underlying4,Try.q4,Try.underlying22,Try.q22,Try.underlying23,Try.q23,Try.underlying25,Try.q25,Try.underlying26,Try.q26]
        refine ⟨bi, ?_⟩
        refine acalls_then (q1 _) ?_
        simp -implicitDefEqProofs only [hVc,seqA_normal,Q0,Q1,Q2,Q3,Q4,Q5,Q6,Q7,Q8,Q9,Qa,Qb,Qc,Qd,Qe,Qf,Qg,Qh,Qi,Qj,Qk,Ql,Qm,Qn,Qo,Qp,Qq,Qr,Qs,Qt,Qu,Qv,Qw,Qx,Qy,Qz,QA,QB,QC,QD,QE,QF,QG,QH,QI,QJ,QK,QL,QM,QN,QO,QP,QQ,QR,QS,QT,QU,QV,QW,QX,QY,QZ,X0,X1,X2,X3,X4,X5,X6,X7,X8,X9,Xa,Xb,Xc,Xd,Xe,Xf,Xg,Xh,Xi,Xj,Xk,Xl,Xm,Xn,Xo,Xp,Xq,Xr,Xs,Xt,Xu,Xv,Xw,Xx,Xy,Xz,reduceIte,reduceCtorEq,ite_true,ite_false,if_true,if_false,XA,XB,XC,XD,XE,XF,and_true,true_and,and_self,true_imp_iff,false_imp_iff,eq_self,not_true_eq_false,not_false_eq_true,ne_eq,decide_true,decide_false,XG,XH,XI,XJ,XK,XL,XM,XN,XO,XP,XQ,XR,XS,XT,XU,XV,XW,XX,XY,Try.underlying3,Try.q3,Try.underlying4,Try.q4,Try.underlying22,Try.q22,Try.underlying23,Try.q23,Try.underlying25,Try.q25,Try.underlying26,Try.q26]
        refine awp_seq (awp_vc (by kernel_rfl) ?_)
        simp -implicitDefEqProofs only [hxl,hgi,Q0,Q1,Q2,Q3,Q4,Q5,Q6,Q7,Q8,Q9,Qa,Qb,Qc,Qd,Qe,Qf,Qg,Qh,Qi,Qj,Qk,Ql,Qm,Qn,Qo,Qp,Qq,Qr,Qs,Qt,Qu,Qv,Qw,Qx,Qy,Qz,QA,QB,QC,QD,QE,QF,QG,QH,QI,QJ,QK,QL,QM,QN,QO,QP,QQ,QR,QS,QT,QU,QV,QW,QX,QY,QZ,X0,X1,X2,X3,X4,X5,X6,X7,X8,X9,Xa,Xb,Xc,Xd,Xe,Xf,Xg,Xh,Xi,Xj,Xk,Xl,Xm,Xn,Xo,Xp,Xq,Xr,Xs,Xt,Xu,Xv,Xw,Xx,Xy,Xz,reduceIte,reduceCtorEq,ite_true,ite_false,if_true,if_false,XA,XB,XC,XD,XE,XF,and_true,true_and,and_self,true_imp_iff,false_imp_iff,eq_self,not_true_eq_false,not_false_eq_true,ne_eq,decide_true,decide_false,XG,XH,XI,XJ,XK,XL,XM,XN,XO,XP,XQ,XR,XS,XT,XU,XV,XW,XX,XY,Try.underlying3,Try.q3,Try.underlying4,Try.q4,Try.underlying22,Try.q22,Try.underlying23,Try.q23,Try.underlying25,Try.q25,Try.underlying26,Try.q26]
        refine ⟨bi, ?_⟩
        refine acalls_then (q2 _) ?_
        simp -implicitDefEqProofs only [hVc,seqA_normal,Q0,Q1,Q2,Q3,Q4,Q5,Q6,Q7,Q8,Q9,Qa,Qb,Qc,Qd,Qe,Qf,Qg,Qh,Qi,Qj,Qk,Ql,Qm,Qn,Qo,Qp,Qq,Qr,Qs,Qt,Qu,Qv,Qw,Qx,Qy,Qz,QA,QB,QC,QD,QE,QF,QG,QH,QI,QJ,QK,QL,QM,QN,QO,QP,QQ,QR,QS,QT,QU,QV,QW,QX,QY,QZ,X0,X1,X2,X3,X4,X5,X6,X7,X8,X9,Xa,Xb,Xc,Xd,Xe,Xf,Xg,Xh,Xi,Xj,Xk,Xl,Xm,Xn,Xo,Xp,Xq,Xr,Xs,Xt,Xu,Xv,Xw,Xx,Xy,Xz,reduceIte,reduceCtorEq,ite_true,ite_false,if_true,if_false,XA,XB,XC,XD,XE,XF,and_true,true_and,and_self,true_imp_iff,false_imp_iff,eq_self,not_true_eq_false,not_false_eq_true,ne_eq,decide_true,decide_false,XG,XH,XI,XJ,XK,XL,XM,XN,XO,XP,XQ,XR,XS,XT,XU,XV,XW,XX,XY,Try.underlying3,Try.q3,Try.underlying4,Try.q4,Try.underlying22,Try.q22,Try.underlying23,Try.q23,Try.underlying25,Try.q25,Try.underlying26,Try.q26]
        refine awp_vc (by kernel_rfl) ?_
        simp -implicitDefEqProofs only [he,Q0,Q1,Q2,Q3,Q4,Q5,Q6,Q7,Q8,Q9,Qa,Qb,Qc,Qd,Qe,Qf,Qg,Qh,Qi,Qj,Qk,Ql,Qm,Qn,Qo,Qp,Qq,Qr,Qs,Qt,Qu,Qv,Qw,Qx,Qy,Qz,QA,QB,QC,QD,QE,QF,QG,QH,QI,QJ,QK,QL,QM,QN,QO,QP,QQ,QR,QS,QT,QU,QV,QW,QX,QY,QZ,X0,X1,X2,X3,X4,X5,X6,X7,X8,X9,Xa,Xb,Xc,Xd,Xe,Xf,Xg,Xh,Xi,Xj,Xk,Xl,Xm,Xn,Xo,Xp,Xq,Xr,Xs,Xt,Xu,Xv,Xw,Xx,Xy,Xz,reduceIte,reduceCtorEq,ite_true,ite_false,if_true,if_false,XA,XB,XC,XD,XE,XF,and_true,true_and,and_self,true_imp_iff,false_imp_iff,eq_self,not_true_eq_false,not_false_eq_true,ne_eq,decide_true,decide_false,XG,XH,XI,XJ,XK,XL,XM,XN,XO,XP,XQ,XR,XS,XT,XU,XV,XW,XX,XY,Try.underlying3,Try.q3,Try.underlying4,Try.q4,Try.underlying22,Try.q22,Try.underlying23,Try.q23,Try.underlying25,Try.q25,Try.underlying26,Try.q26]
        refine acalls_then (kSm _) ?_
        simp -implicitDefEqProofs only [seqA_normal,Q0,Q1,Q2,Q3,Q4,Q5,Q6,Q7,Q8,Q9,Qa,Qb,Qc,Qd,Qe,Qf,Qg,Qh,Qi,Qj,Qk,Ql,Qm,Qn,Qo,Qp,Qq,Qr,Qs,Qt,Qu,Qv,Qw,Qx,Qy,Qz,QA,QB,QC,QD,QE,QF,QG,QH,QI,QJ,QK,QL,QM,QN,QO,QP,QQ,QR,QS,QT,QU,QV,QW,QX,QY,QZ,X0,X1,X2,X3,X4,X5,X6,X7,X8,X9,Xa,Xb,Xc,Xd,Xe,Xf,Xg,Xh,Xi,Xj,Xk,Xl,Xm,Xn,Xo,Xp,Xq,Xr,Xs,Xt,Xu,Xv,Xw,Xx,Xy,Xz,reduceIte,reduceCtorEq,ite_true,ite_false,if_true,if_false,XA,XB,XC,XD,XE,XF,and_true,true_and,and_self,true_imp_iff,false_imp_iff,eq_self,not_true_eq_false,not_false_eq_true,ne_eq,decide_true,decide_false,XG,XH,XI,XJ,XK,XL,XM,XN,XO,XP,XQ,XR,XS,XT,XU,XV,XW,XX,XY,Try.underlying3,Try.q3,Try.underlying4,Try.q4,Try.underlying22,Try.q22,Try.underlying23,Try.q23,Try.underlying25,Try.q25,Try.underlying26,Try.q26]
        refine awp_vc (by kernel_rfl) ?_
        simp -implicitDefEqProofs only [wi,Q0,Q1,Q2,Q3,Q4,Q5,Q6,Q7,Q8,Q9,Qa,Qb,Qc,Qd,Qe,Qf,Qg,Qh,Qi,Qj,Qk,Ql,Qm,Qn,Qo,Qp,Qq,Qr,Qs,Qt,Qu,Qv,Qw,Qx,Qy,Qz,QA,QB,QC,QD,QE,QF,QG,QH,QI,QJ,QK,QL,QM,QN,QO,QP,QQ,QR,QS,QT,QU,QV,QW,QX,QY,QZ,X0,X1,X2,X3,X4,X5,X6,X7,X8,X9,Xa,Xb,Xc,Xd,Xe,Xf,Xg,Xh,Xi,Xj,Xk,Xl,Xm,Xn,Xo,Xp,Xq,Xr,Xs,Xt,Xu,Xv,Xw,Xx,Xy,Xz,reduceIte,reduceCtorEq,ite_true,ite_false,if_true,if_false,XA,XB,XC,XD,XE,XF,and_true,true_and,and_self,true_imp_iff,false_imp_iff,eq_self,not_true_eq_false,not_false_eq_true,ne_eq,decide_true,decide_false,XG,XH,XI,XJ,XK,XL,XM,XN,XO,XP,XQ,XR,XS,XT,XU,XV,XW,XX,XY,Try.underlying3,Try.q3,Try.underlying4,Try.q4,Try.underlying22,Try.q22,Try.underlying23,Try.q23,Try.underlying25,Try.q25,Try.underlying26,Try.q26]
        exact ⟨i + 1, by simp, by omega, by omega⟩
    · have d1 : decide ((i : Int) < 6) = false := decide_eq_false (by omega)
      refine awp_vc (by kernel_rfl) ?_
      simp -implicitDefEqProofs only [hxl,d1,cutK_normal,seqA_normal,Q0,Q1,Q2,Q3,Q4,Q5,Q6,Q7,Q8,Q9,Qa,Qb,Qc,Qd,Qe,Qf,Qg,Qh,Qi,Qj,Qk,Ql,Qm,Qn,Qo,Qp,Qq,Qr,Qs,Qt,Qu,Qv,Qw,Qx,Qy,Qz,QA,QB,QC,QD,QE,QF,QG,QH,QI,QJ,QK,QL,QM,QN,QO,QP,QQ,QR,QS,QT,QU,QV,QW,QX,QY,QZ,X0,X1,X2,X3,X4,X5,X6,X7,X8,X9,Xa,Xb,Xc,Xd,Xe,Xf,Xg,Xh,Xi,Xj,Xk,Xl,Xm,Xn,Xo,Xp,Xq,Xr,Xs,Xt,Xu,Xv,Xw,Xx,Xy,Xz,reduceIte,reduceCtorEq,ite_true,ite_false,if_true,if_false,XA,XB,XC,XD,XE,XF,and_true,true_and,and_self,true_imp_iff,false_imp_iff,eq_self,not_true_eq_false,not_false_eq_true,ne_eq,decide_true,decide_false,XG,XH,XI,XJ,XK,XL,XM,XN,XO,XP,XQ,XR,XS,XT,XU,XV,XW,XX,XY,Try.underlying3,Try.q3,Try.underlying4,Try.q4,Try.underlying22,Try.q22,Try.underlying23,Try.q23,Try.underlying25,Try.q25,Try.underlying26,Try.q26]
  intro e' s' he
  refine awp_sub _ he ?_
  clear he e'
  refine awp_seq (awp_draws [] Try.mixed (by kernel_rfl) ?_)
  simp -implicitDefEqProofs only [Q0,Q1,Q2,Q3,Q4,Q5,Q6,Q7,Q8,Q9,Qa,Qb,Qc,Qd,Qe,Qf,Qg,Qh,Qi,Qj,Qk,Ql,Qm,Qn,Qo,Qp,Qq,Qr,Qs,Qt,Qu,Qv,Qw,Qx,Qy,Qz,QA,QB,QC,QD,QE,QF,QG,QH,QI,QJ,QK,QL,QM,QN,QO,QP,QQ,QR,QS,QT,QU,QV,QW,QX,QY,QZ,X0,X1,X2,X3,X4,X5,X6,X7,X8,X9,Xa,Xb,Xc,Xd,Xe,Xf,Xg,Xh,Xi,Xj,Xk,Xl,Xm,Xn,Xo,Xp,Xq,Xr,Xs,Xt,Xu,Xv,Xw,Xx,Xy,Xz,reduceIte,reduceCtorEq,ite_true,ite_false,if_true,if_false,XA,XB,XC,XD,XE,XF,and_true,true_and,and_self,true_imp_iff,false_imp_iff,eq_self,not_true_eq_false,not_false_eq_true,ne_eq,decide_true,decide_false,XG,XH,XI,XJ,XK,XL,XM,XN,XO,XP,XQ,XR,XS,XT,XU,XV,XW,XX,XY,Try.underlying3,Try.q3,Try.underlying4,Try.q4,Try.underlying22,Try.q22,Try.underlying23,Try.q23,Try.underlying25,Try.q25,Try.underlying26,Try.q26]
  refine dCall_of (kA _) (by decide) ?_
  simp -implicitDefEqProofs only [hxl,hx24,Q0,Q1,Q2,Q3,Q4,Q5,Q6,Q7,Q8,Q9,Qa,Qb,Qc,Qd,Qe,Qf,Qg,Qh,Qi,Qj,Qk,Ql,Qm,Qn,Qo,Qp,Qq,Qr,Qs,Qt,Qu,Qv,Qw,Qx,Qy,Qz,QA,QB,QC,QD,QE,QF,QG,QH,QI,QJ,QK,QL,QM,QN,QO,QP,QQ,QR,QS,QT,QU,QV,QW,QX,QY,QZ,X0,X1,X2,X3,X4,X5,X6,X7,X8,X9,Xa,Xb,Xc,Xd,Xe,Xf,Xg,Xh,Xi,Xj,Xk,Xl,Xm,Xn,Xo,Xp,Xq,Xr,Xs,Xt,Xu,Xv,Xw,Xx,Xy,Xz,reduceIte,reduceCtorEq,ite_true,ite_false,if_true,if_false,XA,XB,XC,XD,XE,XF,and_true,true_and,and_self,true_imp_iff,false_imp_iff,eq_self,not_true_eq_false,not_false_eq_true,ne_eq,decide_true,decide_false,XG,XH,XI,XJ,XK,XL,XM,XN,XO,XP,XQ,XR,XS,XT,XU,XV,XW,XX,XY,Try.underlying3,Try.q3,Try.underlying4,Try.q4,Try.underlying22,Try.q22,Try.underlying23,Try.q23,Try.underlying25,Try.q25,Try.underlying26,Try.q26]
  simp -implicitDefEqProofs only [seqA_normal,Q0,Q1,Q2,Q3,Q4,Q5,Q6,Q7,Q8,Q9,Qa,Qb,Qc,Qd,Qe,Qf,Qg,Qh,Qi,Qj,Qk,Ql,Qm,Qn,Qo,Qp,Qq,Qr,Qs,Qt,Qu,Qv,Qw,Qx,Qy,Qz,QA,QB,QC,QD,QE,QF,QG,QH,QI,QJ,QK,QL,QM,QN,QO,QP,QQ,QR,QS,QT,QU,QV,QW,QX,QY,QZ,X0,X1,X2,X3,X4,X5,X6,X7,X8,X9,Xa,Xb,Xc,Xd,Xe,Xf,Xg,Xh,Xi,Xj,Xk,Xl,Xm,Xn,Xo,Xp,Xq,Xr,Xs,Xt,Xu,Xv,Xw,Xx,Xy,Xz,reduceIte,reduceCtorEq,ite_true,ite_false,if_true,if_false,XA,XB,XC,XD,XE,XF,and_true,true_and,and_self,true_imp_iff,false_imp_iff,eq_self,not_true_eq_false,not_false_eq_true,ne_eq,decide_true,decide_false,XG,XH,XI,XJ,XK,XL,XM,XN,XO,XP,XQ,XR,XS,XT,XU,XV,XW,XX,XY,Try.underlying3,Try.q3,Try.underlying4,Try.q4,Try.underlying22,Try.q22,Try.underlying23,Try.q23,Try.underlying25,Try.q25,Try.underlying26,Try.q26]
  have hLL : ∃ LL : List (List Int), LL = [A, [c2, d2], [], [c]] := ⟨_, rfl⟩
  obtain ⟨LL, hLL⟩ := hLL
  have hLl : LL.length = 4 := by rw [hLL]; rfl
  have hL6 : ∀ r ∈ LL, r.length ≤ 6 := by
    rw [hLL]
    intro r hr
    simp only [List.mem_cons, List.not_mem_nil, or_false] at hr
    rcases hr with rfl | rfl | rfl | rfl
    · omega
    · simp
    · simp
    · simp
  refine awp_shut (fun _ => False) [(19, .rows 1 (LL.map rowI)), (9, .rows 1 (p.map rowI)), (10, .iptr cs)] s' ⟨rfl, fun i y hy => .inr ⟨fun h => h, y, hy, .same _⟩⟩
    ⟨⟨_, rfl, .rows 1 _ _ (by rw [hLL]; rfl) (rowI_len _) fun i y z hy hz => by
      rw [hLL] at hz
      match i with
      | 0 => cases hy; cases hz; exact .same _
      | 1 => cases hy; cases hz; exact .same _
      | 2 => cases hy; cases hz; exact .nilI _
      | 3 => cases hy; cases hz; exact .same _
      | i + 4 => cases hy⟩, ⟨_, rfl, .same _⟩, ⟨_, rfl, .same _⟩, trivial⟩ ?_
  clear hLL
  have hlm : (LL.map rowI).length = 4 := by rw [List.length_map, hLl]
  refine awp_seq (awp_vc (by kernel_rfl) ?_)
  simp -implicitDefEqProofs only [seqA_normal,seqA_ret,seqA_exit,Q0,Q1,Q2,Q3,Q4,Q5,Q6,Q7,Q8,Q9,Qa,Qb,Qc,Qd,Qe,Qf,Qg,Qh,Qi,Qj,Qk,Ql,Qm,Qn,Qo,Qp,Qq,Qr,Qs,Qt,Qu,Qv,Qw,Qx,Qy,Qz,QA,QB,QC,QD,QE,QF,QG,QH,QI,QJ,QK,QL,QM,QN,QO,QP,QQ,QR,QS,QT,QU,QV,QW,QX,QY,QZ,X0,X1,X2,X3,X4,X5,X6,X7,X8,X9,Xa,Xb,Xc,Xd,Xe,Xf,Xg,Xh,Xi,Xj,Xk,Xl,Xm,Xn,Xo,Xp,Xq,Xr,Xs,Xt,Xu,Xv,Xw,Xx,Xy,Xz,reduceIte,reduceCtorEq,ite_true,ite_false,if_true,if_false,XA,XB,XC,XD,XE,XF,and_true,true_and,and_self,true_imp_iff,false_imp_iff,eq_self,not_true_eq_false,not_false_eq_true,ne_eq,decide_true,decide_false,XG,XH,XI,XJ,XK,XL,XM,XN,XO,XP,XQ,XR,XS,XT,XU,XV,XW,XX,XY,Try.underlying3,Try.q3,Try.underlying4,Try.q4,Try.underlying22,Try.q22,Try.underlying23,Try.q23,Try.underlying25,Try.q25,Try.underlying26,Try.q26]
  refine awp_loopW (fun i : Nat => [(20, .int .i64 i), (19, .rows 1 (LL.map rowI)), (9, .rows 1 (p.map rowI)), (10, .iptr cs)]) (fun i s => i ≤ 4) (fun i => 4 - i) 0 (by simp [sub_cons, sub_nil, get_cons]) (by simp) ?_
  rintro i s hi
  by_cases hlt : i < 4
  · have d1 : decide ((i : Int) < 4) = true := decide_eq_true (by omega)
    have wi : IntKind.i64.wrap ((i : Int) + 1) = ((i + 1 : Nat) : Int) := by rw [wrap_i64 (by omega) (by omega)]; rfl
    have hrow := rowI_get LL (k := i) (by omega)
    have h6 := hL6 _ (List.getElem_mem (by omega : i < LL.length))
    have bi : (0 : Int) ≤ (i : Int) ∧ (i : Int) < 4 := by omega
    generalize LL[i]'(by omega) = g at *
    obtain ⟨V, e, hV, hVc, kSm⟩ := hcs2 g (fun c => g.any fun d => isI p d c)
    obtain ⟨W, f, hW, hWc, kSn⟩ := hcs2 g (fun c => decide (c ∈ g) && !g.any (lowI p c))
    have q1 := kU g (by omega)
    have q2 := kV g (by omega)
    have q3 := kS g (by omega)
    have q4 := kT g (by omega)
    rw [hV] at q1 q2
    rw [hW] at q3 q4
    have he : decide (e = e) = true := decide_eq_true rfl
    have hf : decide (f = f) = true := decide_eq_true rfl
    refine awp_vc (by kernel_rfl) ?_
    simp -implicitDefEqProofs only [hlm,d1,hrow,Int.toNat_natCast,Q0,Q1,Q2,Q3,Q4,Q5,Q6,Q7,Q8,Q9,Qa,Qb,Qc,Qd,Qe,Qf,Qg,Qh,Qi,Qj,Qk,Ql,Qm,Qn,Qo,Qp,Qq,Qr,Qs,Qt,Qu,Qv,Qw,Qx,Qy,Qz,QA,QB,QC,QD,QE,QF,QG,QH,QI,QJ,QK,QL,QM,QN,QO,QP,QQ,QR,QS,QT,QU,QV,QW,QX,QY,QZ,X0,X1,X2,X3,X4,X5,X6,X7,X8,X9,Xa,Xb,Xc,Xd,Xe,Xf,Xg,Xh,Xi,Xj,Xk,Xl,Xm,Xn,Xo,Xp,Xq,Xr,Xs,Xt,Xu,Xv,Xw,Xx,Xy,Xz,reduceIte,reduceCtorEq,ite_true,ite_false,if_true,if_false,XA,XB,XC,XD,XE,XF,and_true,true_and,and_self,true_imp_iff,false_imp_iff,eq_self,not_true_eq_false,not_false_eq_true,ne_eq,decide_true,decide_false,XG,XH,XI,XJ,XK,XL,XM,XN,XO,XP,XQ,XR,XS,XT,XU,XV,XW,XX,XY,Try.underlying3,Try.q3,Try.underlying4,Try.q4,Try.underlying22,Try.q22,Try.underlying23,Try.q23,Try.underlying25,Try.q25,Try.underlying26,Try.q26]
    refine ⟨bi, ?_⟩
    refine acalls_then (q1 _) ?_
    simp -implicitDefEqProofs only [hlm,hrow,Int.toNat_natCast,Q0,Q1,Q2,Q3,Q4,Q5,Q6,Q7,Q8,Q9,Qa,Qb,Qc,Qd,Qe,Qf,Qg,Qh,Qi,Qj,Qk,Ql,Qm,Qn,Qo,Qp,Qq,Qr,Qs,Qt,Qu,Qv,Qw,Qx,Qy,Qz,QA,QB,QC,QD,QE,QF,QG,QH,QI,QJ,QK,QL,QM,QN,QO,QP,QQ,QR,QS,QT,QU,QV,QW,QX,QY,QZ,X0,X1,X2,X3,X4,X5,X6,X7,X8,X9,Xa,Xb,Xc,Xd,Xe,Xf,Xg,Xh,Xi,Xj,Xk,Xl,Xm,Xn,Xo,Xp,Xq,Xr,Xs,Xt,Xu,Xv,Xw,Xx,Xy,Xz,reduceIte,reduceCtorEq,ite_true,ite_false,if_true,if_false,XA,XB,XC,XD,XE,XF,and_true,true_and,and_self,true_imp_iff,false_imp_iff,eq_self,not_true_eq_false,not_false_eq_true,ne_eq,decide_true,decide_false,XG,XH,XI,XJ,XK,XL,XM,XN,XO,XP,XQ,XR,XS,XT,XU,XV,XW,XX,XY,Try.underlying3,Try.q3,Try.underlying4,Try.q4,Try.underlying22,Try.q22,Try.underlying23,Try.q23,Try.underlying25,Try.q25,Try.underlying26,Try.q26]
    refine ⟨bi, ?_⟩
    refine acalls_then (q2 _) ?_
    simp -implicitDefEqProofs only [hlm,hrow,Int.toNat_natCast,Q0,Q1,Q2,Q3,Q4,Q5,Q6,Q7,Q8,Q9,Qa,Qb,Qc,Qd,Qe,Qf,Qg,Qh,Qi,Qj,Qk,Ql,Qm,Qn,Qo,Qp,Qq,Qr,Qs,Qt,Qu,Qv,Qw,Qx,Qy,Qz,QA,QB,QC,QD,QE,QF,QG,QH,QI,QJ,QK,QL,QM,QN,QO,QP,QQ,QR,QS,QT,QU,QV,QW,QX,QY,QZ,X0,X1,X2,X3,X4,X5,X6,X7,X8,X9,Xa,Xb,Xc,Xd,Xe,Xf,Xg,Xh,Xi,Xj,Xk,Xl,Xm,Xn,Xo,Xp,Xq,Xr,Xs,Xt,Xu,Xv,Xw,Xx,Xy,Xz,reduceIte,reduceCtorEq,ite_true,ite_false,if_true,if_false,XA,XB,XC,XD,XE,XF,and_true,true_and,and_self,true_imp_iff,false_imp_iff,eq_self,not_true_eq_false,not_false_eq_true,ne_eq,decide_true,decide_false,XG,XH,XI,XJ,XK,XL,XM,XN,XO,XP,XQ,XR,XS,XT,XU,XV,XW,XX,XY,Try.underlying3,Try.q3,Try.underlying4,Try.q4,Try.underlying22,Try.q22,Try.underlying23,Try.q23,Try.underlying25,Try.q25,Try.underlying26,Try.q26]
    refine ⟨bi, ?_⟩
    refine acalls_then (q3 _) ?_
    simp -implicitDefEqProofs only [hlm,hrow,Int.toNat_natCast,Q0,Q1,Q2,Q3,Q4,Q5,Q6,Q7,Q8,Q9,Qa,Qb,Qc,Qd,Qe,Qf,Qg,Qh,Qi,Qj,Qk,Ql,Qm,Qn,Qo,Qp,Qq,Qr,Qs,Qt,Qu,Qv,Qw,Qx,Qy,Qz,QA,QB,QC,QD,QE,QF,QG,QH,QI,QJ,QK,QL,QM,QN,QO,QP,QQ,QR,QS,QT,QU,QV,QW,QX,QY,QZ,X0,X1,X2,X3,X4,X5,X6,X7,X8,X9,Xa,Xb,Xc,Xd,Xe,Xf,Xg,Xh,Xi,Xj,Xk,Xl,Xm,Xn,Xo,Xp,Xq,Xr,Xs,Xt,Xu,Xv,Xw,Xx,Xy,Xz,reduceIte,reduceCtorEq,ite_true,ite_false,if_true,if_false,XA,XB,XC,XD,XE,XF,and_true,true_and,and_self,true_imp_iff,false_imp_iff,eq_self,not_true_eq_false,not_false_eq_true,ne_eq,decide_true,decide_false,XG,XH,XI,XJ,XK,XL,XM,XN,XO,XP,XQ,XR,XS,XT,XU,XV,XW,XX,XY,Try.underlying3,Try.q3,Try.underlying4,Try.q4,Try.underlying22,Try.q22,Try.underlying23,Try.q23,Try.underlying25,Try.q25,Try.underlying26,Try.q26]
    refine ⟨bi, ?_⟩
    refine acalls_then (q4 _) ?_
    simp -implicitDefEqProofs only [he,hf,Q0,Q1,Q2,Q3,Q4,Q5,Q6,Q7,Q8,Q9,Qa,Qb,Qc,Qd,Qe,Qf,Qg,Qh,Qi,Qj,Qk,Ql,Qm,Qn,Qo,Qp,Qq,Qr,Qs,Qt,Qu,Qv,Qw,Qx,Qy,Qz,QA,QB,QC,QD,QE,QF,QG,QH,QI,QJ,QK,QL,QM,QN,QO,QP,QQ,QR,QS,QT,QU,QV,QW,QX,QY,QZ,X0,X1,X2,X3,X4,X5,X6,X7,X8,X9,Xa,Xb,Xc,Xd,Xe,Xf,Xg,Xh,Xi,Xj,Xk,Xl,Xm,Xn,Xo,Xp,Xq,Xr,Xs,Xt,Xu,Xv,Xw,Xx,Xy,Xz,reduceIte,reduceCtorEq,ite_true,ite_false,if_true,if_false,XA,XB,XC,XD,XE,XF,and_true,true_and,and_self,true_imp_iff,false_imp_iff,eq_self,not_true_eq_false,not_false_eq_true,ne_eq,decide_true,decide_false,XG,XH,XI,XJ,XK,XL,XM,XN,XO,XP,XQ,XR,XS,XT,XU,XV,XW,XX,XY,Try.underlying3,Try.q3,Try.underlying4,Try.q4,Try.underlying22,Try.q22,Try.underlying23,Try.q23,Try.underlying25,Try.q25,Try.underlying26,Try.q26]
    refine acalls_then (kSm _) ?_
    simp -implicitDefEqProofs only [Q0,Q1,Q2,Q3,Q4,Q5,Q6,Q7,Q8,Q9,Qa,Qb,Qc,Qd,Qe,Qf,Qg,Qh,Qi,Qj,Qk,Ql,Qm,Qn,Qo,Qp,Qq,Qr,Qs,Qt,Qu,Qv,Qw,Qx,Qy,Qz,QA,QB,QC,QD,QE,QF,QG,QH,QI,QJ,QK,QL,QM,QN,QO,QP,QQ,QR,QS,QT,QU,QV,QW,QX,QY,QZ,X0,X1,X2,X3,X4,X5,X6,X7,X8,X9,Xa,Xb,Xc,Xd,Xe,Xf,Xg,Xh,Xi,Xj,Xk,Xl,Xm,Xn,Xo,Xp,Xq,Xr,Xs,Xt,Xu,Xv,Xw,Xx,Xy,Xz,reduceIte,reduceCtorEq,ite_true,ite_false,if_true,if_false,XA,XB,XC,XD,XE,XF,and_true,true_and,and_self,true_imp_iff,false_imp_iff,eq_self,not_true_eq_false,not_false_eq_true,ne_eq,decide_true,decide_false,XG,XH,XI,XJ,XK,XL,XM,XN,XO,XP,XQ,XR,XS,XT,XU,XV,XW,XX,XY,Try.underlying3,Try.q3,Try.underlying4,Try.q4,Try.underlying22,Try.q22,Try.underlying23,Try.q23,Try.underlying25,Try.q25,Try.underlying26,Try.q26]
    refine acalls_then (kSn _) ?_
    simp -implicitDefEqProofs only [wi,Q0,Q1,Q2,Q3,Q4,Q5,Q6,Q7,Q8,Q9,Qa,Qb,Qc,Qd,Qe,Qf,Qg,Qh,Qi,Qj,Qk,Ql,Qm,Qn,Qo,Qp,Qq,Qr,Qs,Qt,Qu,Qv,Qw,Qx,Qy,Qz,QA,QB,QC,QD,QE,QF,QG,QH,QI,QJ,QK,QL,QM,QN,QO,QP,QQ,QR,QS,QT,QU,QV,QW,QX,QY,QZ,X0,X1,X2,X3,X4,X5,X6,X7,X8,X9,Xa,Xb,Xc,Xd,Xe,Xf,Xg,Xh,Xi,Xj,Xk,Xl,Xm,Xn,Xo,Xp,Xq,Xr,Xs,Xt,Xu,Xv,Xw,Xx,Xy,Xz,reduceIte,reduceCtorEq,ite_true,ite_false,if_true,if_false,XA,XB,XC,XD,XE,XF,and_true,true_and,and_self,true_imp_iff,false_imp_iff,eq_self,not_true_eq_false,not_false_eq_true,ne_eq,decide_true,decide_false,XG,XH,XI,XJ,XK,XL,XM,XN,XO,XP,XQ,XR,XS,XT,XU,XV,XW,XX,XY,Try.underlying3,Try.q3,Try.underlying4,Try.q4,Try.underlying22,Try.q22,Try.underlying23,Try.q23,Try.underlying25,Try.q25,Try.underlying26,Try.q26]
    exact ⟨i + 1, by simp, by omega, by omega⟩
  · have d1 : decide ((i : Int) < 4) = false := decide_eq_false (by omega)
    refine awp_vc (by kernel_rfl) ?_
    simp -implicitDefEqProofs only [hlm,d1,seqA_normal,Q0,Q1,Q2,Q3,Q4,Q5,Q6,Q7,Q8,Q9,Qa,Qb,Qc,Qd,Qe,Qf,Qg,Qh,Qi,Qj,Qk,Ql,Qm,Qn,Qo,Qp,Qq,Qr,Qs,Qt,Qu,Qv,Qw,Qx,Qy,Qz,QA,QB,QC,QD,QE,QF,QG,QH,QI,QJ,QK,QL,QM,QN,QO,QP,QQ,QR,QS,QT,QU,QV,QW,QX,QY,QZ,X0,X1,X2,X3,X4,X5,X6,X7,X8,X9,Xa,Xb,Xc,Xd,Xe,Xf,Xg,Xh,Xi,Xj,Xk,Xl,Xm,Xn,Xo,Xp,Xq,Xr,Xs,Xt,Xu,Xv,Xw,Xx,Xy,Xz,reduceIte,reduceCtorEq,ite_true,ite_false,if_true,if_false,XA,XB,XC,XD,XE,XF,and_true,true_and,and_self,true_imp_iff,false_imp_iff,eq_self,not_true_eq_false,not_false_eq_true,ne_eq,decide_true,decide_false,XG,XH,XI,XJ,XK,XL,XM,XN,XO,XP,XQ,XR,XS,XT,XU,XV,XW,XX,XY,Try.underlying3,Try.q3,Try.underlying4,Try.q4,Try.underlying22,Try.q22,Try.underlying23,Try.q23,Try.underlying25,Try.q25,Try.underlying26,Try.q26]
    refine awp_vc (by kernel_rfl) ?_
    simp -implicitDefEqProofs only [Q0,Q1,Q2,Q3,Q4,Q5,Q6,Q7,Q8,Q9,Qa,Qb,Qc,Qd,Qe,Qf,Qg,Qh,Qi,Qj,Qk,Ql,Qm,Qn,Qo,Qp,Qq,Qr,Qs,Qt,Qu,Qv,Qw,Qx,Qy,Qz,QA,QB,QC,QD,QE,QF,QG,QH,QI,QJ,QK,QL,QM,QN,QO,QP,QQ,QR,QS,QT,QU,QV,QW,QX,QY,QZ,X0,X1,X2,X3,X4,X5,X6,X7,X8,X9,Xa,Xb,Xc,Xd,Xe,Xf,Xg,Xh,Xi,Xj,Xk,Xl,Xm,Xn,Xo,Xp,Xq,Xr,Xs,Xt,Xu,Xv,Xw,Xx,Xy,Xz,reduceIte,reduceCtorEq,ite_true,ite_false,if_true,if_false,XA,XB,XC,XD,XE,XF,and_true,true_and,and_self,true_imp_iff,false_imp_iff,eq_self,not_true_eq_false,not_false_eq_true,ne_eq,decide_true,decide_false,XG,XH,XI,XJ,XK,XL,XM,XN,XO,XP,XQ,XR,XS,XT,XU,XV,XW,XX,XY,Try.underlying3,Try.q3,Try.underlying4,Try.q4,Try.underlying22,Try.q22,Try.underlying23,Try.q23,Try.underlying25,Try.q25,Try.underlying26,Try.q26]
    refine acalls_then (kL _) ?_
    simp -implicitDefEqProofs only [Q0,Q1,Q2,Q3,Q4,Q5,Q6,Q7,Q8,Q9,Qa,Qb,Qc,Qd,Qe,Qf,Qg,Qh,Qi,Qj,Qk,Ql,Qm,Qn,Qo,Qp,Qq,Qr,Qs,Qt,Qu,Qv,Qw,Qx,Qy,Qz,QA,QB,QC,QD,QE,QF,QG,QH,QI,QJ,QK,QL,QM,QN,QO,QP,QQ,QR,QS,QT,QU,QV,QW,QX,QY,QZ,X0,X1,X2,X3,X4,X5,X6,X7,X8,X9,Xa,Xb,Xc,Xd,Xe,Xf,Xg,Xh,Xi,Xj,Xk,Xl,Xm,Xn,Xo,Xp,Xq,Xr,Xs,Xt,Xu,Xv,Xw,Xx,Xy,Xz,reduceIte,reduceCtorEq,ite_true,ite_false,if_true,if_false,XA,XB,XC,XD,XE,XF,and_true,true_and,and_self,true_imp_iff,false_imp_iff,eq_self,not_true_eq_false,not_false_eq_true,ne_eq,decide_true,decide_false,XG,XH,XI,XJ,XK,XL,XM,XN,XO,XP,XQ,XR,XS,XT,XU,XV,XW,XX,XY,Try.underlying3,Try.q3,Try.underlying4,Try.q4,Try.underlying22,Try.q22,Try.underlying23,Try.q23,Try.underlying25,Try.q25,Try.underlying26,Try.q26]

end Go.Proofs
