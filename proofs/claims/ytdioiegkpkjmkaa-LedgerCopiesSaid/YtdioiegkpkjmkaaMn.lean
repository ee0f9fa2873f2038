/-
  The ledger: copies; the law.
-/
import Derived.Test.YtdioiegkpkjmkaaMm
namespace Go.Proofs
open Go.Pa
open Go.Pa renaming VB0 → Q0, VB1 → Q1, VB2 → Q2, VB3 → Q3, VB4 → Q4, VB5 → Q5, VB6 → Q6, VB7 → Q7, VB8 → Q8, VB9 → Q9, condV_bool → Qa, guardV_bool → Qb, vcS → Qc, evA → Qd, evBin → Qe, nilA → Qf, nilOf → Qg, intOp → Qh, strOp → Qi, evUn → Qj, evConv → Qk, evField → Ql, evFieldAddr → Qm, evIndexAddr → Qn, evIndex → Qo, evIndexA → Qp, bnd → Qq, evSlice → Qr, evLen → Qs, evPick → Qt, evExtract → Qu, evNilCheck → Qv, evMin → Qw, evMax → Qx, evLoadI → Qy, partsOne → QA, intsOf → QB, rowsAV → QC, evBuildSlice → QD, evBuild → QE, fillA → QF, splice → QG, evBuiltin → QH, guardD_bool → QI, dOp → QJ, cl → QK, vcLoad → QL, vcStore → QM, vcMake → QN, convA → QO, evIndexArr → QP, retA → QQ, ressA → QR, resA → QS, envOf → QT, condR_bool → QX, asgEnv → QY, parEnv → QZ, dstAt → XI, vcLook → XT, vcPut → XU, vcEnt → XV, vcESt → XW, vcMLen → XX, vcDel → XY, vcClear → XZ, vcLookD → Y0
open Go.Pa.AV renaming cell → Qz
open Go.Pa.Env renaming put → QU
open List renaming set_cons_zero → QV, set_cons_succ → QW, foldl_cons → X0, foldl_nil → X1, map_cons → X2, map_nil → X3, toList_toArray → X4, getElem?_cons_zero → X5, getElem?_cons_succ → X6, nil_append → Xa, append_nil → Xb, cons_append → Xc, singleton_append → Xd, length_cons → Xe, length_nil → Xf, all_cons → Xg, all_nil → Xh, take_succ_cons → Xi, take_zero → Xj, take_nil → Xk, drop_zero → Xl, drop_succ_cons → Xm, drop_nil → Xn, contains_nil → Xo, contains_cons → Xp
open Option renaming bind_some → X7, map_some → X8, map_none → X9
open Bool renaming or_false → Xq, false_or → Xr, or_true → Xs, true_or → Xt, false_eq_true → XC, not_true → XD, not_false → XE, and_true → XF, true_and → XG, and_self → XH
open Nat renaming reduceEqDiff → Xu, reduceAdd → Xv, reduceSub → Xw, reduceMul → Xx, reduceLT → Xy, reduceLeDiff → Xz, reduceBNe → XA, reduceBEq → XB, zero_add → XL, add_zero → XM
open UInt8 renaming reduceToNat → XJ
open Int renaming cast_ofNat_Int → XK, reduceToNat → XN, reduceLT → XO, reduceLE → XP, reduceNeg → XQ, reduceEq → XR, reduceNe → XS
set_option linter.unusedSimpArgs false
set_option linter.unusedVariables false
set_option maxRecDepth 20000
set_option maxHeartbeats 4000000

theorem law_LedgerCopies (l : List Int) (hl : ∀ x ∈ l, Okk .i64 x) (_ : l.length ≤ 9223372036854775807) (k : List Int) (hk : ∀ x ∈ k, Okk .i64 x) (_ : k.length ≤ 9223372036854775807) (n : List Int) (hn : ∀ x ∈ n, Okk .i64 x) (_ : n.length ≤ 9223372036854775807) :
    ACalls Try.prog 9 [.ints .i64 l, .ints .i64 k, .ints .i64 n] [] (fun r _ => r = .bool true) := by
  have kS := fun σ => r_script l hl 6 (by decide) σ
  have hG := scr_gen hl 6
  have hSl : (scrI l 6).length ≤ 6 := by rw [scrI_len]; omega
  generalize scrI l 6 = ops at *
  have lm : (ops.map opA).length = ops.length := List.length_map _
  have kSa := fun σ => r_script k hk 5 (by decide) σ
  have hGa := scr_gen hk 5
  have hSa : (scrI k 5).length ≤ 5 := by rw [scrI_len]; omega
  generalize scrI k 5 = oa at *
  have lma : (oa.map opA).length = oa.length := List.length_map _
  have kSb := fun σ => r_script n hn 5 (by decide) σ
  have hGb := scr_gen hn 5
  have hSb : (scrI n 5).length ≤ 5 := by rw [scrI_len]; omega
  generalize scrI n 5 = ob at *
  have lmb : (ob.map opA).length = ob.length := List.length_map _
  have kL := lives16
  have ht3 : ∀ x y z : AV, ([x, y, z] : List AV).take 3 = [x, y, z] := fun _ _ _ => rfl
  refine acalls_of_awp (fn := Try.f9) Try.call9 Try.func9 rfl (by simp [Try.ntmps9]) ?_
  simp only [Try.ntmps9, Try.results9]
  refine awp_seq (awp_vc (by kernel_rfl) ?_)
  simp -implicitDefEqProofs only [seqA_normal,seqA_ret,seqA_exit,Q0,Q1,Q2,Q3,Q4,Q5,Q6,Q7,Q8,Q9,Qa,Qb,Qc,Qd,Qe,Qf,Qg,Qh,Qi,Qj,Qk,Ql,Qm,Qn,Qo,Qp,Qq,Qr,Qs,Qt,Qu,Qv,Qw,Qx,Qy,Qz,QA,QB,QC,QD,QE,QF,QG,QH,QI,QJ,QK,QL,QM,QN,QO,QP,QQ,QR,QS,QT,QU,QV,QW,QX,QY,QZ,X0,X1,X2,X3,X4,X5,X6,X7,X8,X9,Xa,Xb,Xc,Xd,Xe,Xf,Xg,Xh,Xi,Xj,Xk,Xl,Xm,Xn,Xo,Xp,Xq,Xr,Xs,Xt,Xu,Xv,Xw,Xx,Xy,Xz,XA,XB,reduceIte,reduceCtorEq,XC,XD,XE,XF,XG,XH,XI,XJ,XK,XL,XM,XN,XO,XP,XQ,XR,XS,XT,XU,XV,XW,XX,XY,XZ,Y0,Try.q3,Try.q4,Try.q22,Try.q23,Try.q25,Try.q29,Try.q31,Try.underlying33,Try.q33,Try.underlying36,Try.q36,Try.underlying37,Try.q37,Try.q48,Try.underlying50,Try.q50,Try.q58]
  refine awp_seq (awp_vc (by kernel_rfl) ?_)
  simp -implicitDefEqProofs only [seqA_normal,seqA_ret,seqA_exit,Q0,Q1,Q2,Q3,Q4,Q5,Q6,Q7,Q8,Q9,Qa,Qb,Qc,Qd,Qe,Qf,Qg,Qh,Qi,Qj,Qk,Ql,Qm,Qn,Qo,Qp,Qq,Qr,Qs,Qt,Qu,Qv,Qw,Qx,Qy,Qz,QA,QB,QC,QD,QE,QF,QG,QH,QI,QJ,QK,QL,QM,QN,QO,QP,QQ,QR,QS,QT,QU,QV,QW,QX,QY,QZ,X0,X1,X2,X3,X4,X5,X6,X7,X8,X9,Xa,Xb,Xc,Xd,Xe,Xf,Xg,Xh,Xi,Xj,Xk,Xl,Xm,Xn,Xo,Xp,Xq,Xr,Xs,Xt,Xu,Xv,Xw,Xx,Xy,Xz,XA,XB,reduceIte,reduceCtorEq,XC,XD,XE,XF,XG,XH,XI,XJ,XK,XL,XM,XN,XO,XP,XQ,XR,XS,XT,XU,XV,XW,XX,XY,XZ,Y0,Try.q3,Try.q4,Try.q22,Try.q23,Try.q25,Try.q29,Try.q31,Try.underlying33,Try.q33,Try.underlying36,Try.q36,Try.underlying37,Try.q37,Try.q48,Try.underlying50,Try.q50,Try.q58]
  refine ACalls.mono (c_NewL _) ?_
  rintro r s0 ⟨id, j, rfl, hx0, -, -, hL0⟩
  simp -implicitDefEqProofs only [seqA_normal,Q0,Q1,Q2,Q3,Q4,Q5,Q6,Q7,Q8,Q9,Qa,Qb,Qc,Qd,Qe,Qf,Qg,Qh,Qi,Qj,Qk,Ql,Qm,Qn,Qo,Qp,Qq,Qr,Qs,Qt,Qu,Qv,Qw,Qx,Qy,Qz,QA,QB,QC,QD,QE,QF,QG,QH,QI,QJ,QK,QL,QM,QN,QO,QP,QQ,QR,QS,QT,QU,QV,QW,QX,QY,QZ,X0,X1,X2,X3,X4,X5,X6,X7,X8,X9,Xa,Xb,Xc,Xd,Xe,Xf,Xg,Xh,Xi,Xj,Xk,Xl,Xm,Xn,Xo,Xp,Xq,Xr,Xs,Xt,Xu,Xv,Xw,Xx,Xy,Xz,XA,XB,reduceIte,reduceCtorEq,XC,XD,XE,XF,XG,XH,XI,XJ,XK,XL,XM,XN,XO,XP,XQ,XR,XS,XT,XU,XV,XW,XX,XY,XZ,Y0,Try.q3,Try.q4,Try.q22,Try.q23,Try.q25,Try.q29,Try.q31,Try.underlying33,Try.q33,Try.underlying36,Try.q36,Try.underlying37,Try.q37,Try.q48,Try.underlying50,Try.q50,Try.q58]
  refine awp_seq (awp_vc (by kernel_rfl) ?_)
  simp -implicitDefEqProofs only [seqA_normal,Q0,Q1,Q2,Q3,Q4,Q5,Q6,Q7,Q8,Q9,Qa,Qb,Qc,Qd,Qe,Qf,Qg,Qh,Qi,Qj,Qk,Ql,Qm,Qn,Qo,Qp,Qq,Qr,Qs,Qt,Qu,Qv,Qw,Qx,Qy,Qz,QA,QB,QC,QD,QE,QF,QG,QH,QI,QJ,QK,QL,QM,QN,QO,QP,QQ,QR,QS,QT,QU,QV,QW,QX,QY,QZ,X0,X1,X2,X3,X4,X5,X6,X7,X8,X9,Xa,Xb,Xc,Xd,Xe,Xf,Xg,Xh,Xi,Xj,Xk,Xl,Xm,Xn,Xo,Xp,Xq,Xr,Xs,Xt,Xu,Xv,Xw,Xx,Xy,Xz,XA,XB,reduceIte,reduceCtorEq,XC,XD,XE,XF,XG,XH,XI,XJ,XK,XL,XM,XN,XO,XP,XQ,XR,XS,XT,XU,XV,XW,XX,XY,XZ,Y0,Try.q3,Try.q4,Try.q22,Try.q23,Try.q25,Try.q29,Try.q31,Try.underlying33,Try.q33,Try.underlying36,Try.q36,Try.underlying37,Try.q37,Try.q48,Try.underlying50,Try.q50,Try.q58]
  refine awp_shut (fun _ => False) [(8, .ptr s0.length 0), (7, .ptr id 0), (0, .ints .i64 l), (1, .ints .i64 k), (2, .ints .i64 n)] _ (sh_new s0) ⟨⟨_, rfl, .same _⟩, ⟨_, rfl, .same _⟩, ⟨_, rfl, .same _⟩, ⟨_, rfl, .same _⟩, ⟨_, rfl, .same _⟩, trivial⟩ ?_
  have hT0 := two_new hL0
  generalize s0 ++ [.box [esV [], .nils]] = s1 at hT0
  generalize s0.length = m at *
  refine awp_seq (awp_vc (by kernel_rfl) ?_)
  simp -implicitDefEqProofs only [seqA_normal,seqA_ret,seqA_exit,Q0,Q1,Q2,Q3,Q4,Q5,Q6,Q7,Q8,Q9,Qa,Qb,Qc,Qd,Qe,Qf,Qg,Qh,Qi,Qj,Qk,Ql,Qm,Qn,Qo,Qp,Qq,Qr,Qs,Qt,Qu,Qv,Qw,Qx,Qy,Qz,QA,QB,QC,QD,QE,QF,QG,QH,QI,QJ,QK,QL,QM,QN,QO,QP,QQ,QR,QS,QT,QU,QV,QW,QX,QY,QZ,X0,X1,X2,X3,X4,X5,X6,X7,X8,X9,Xa,Xb,Xc,Xd,Xe,Xf,Xg,Xh,Xi,Xj,Xk,Xl,Xm,Xn,Xo,Xp,Xq,Xr,Xs,Xt,Xu,Xv,Xw,Xx,Xy,Xz,XA,XB,reduceIte,reduceCtorEq,XC,XD,XE,XF,XG,XH,XI,XJ,XK,XL,XM,XN,XO,XP,XQ,XR,XS,XT,XU,XV,XW,XX,XY,XZ,Y0,Try.q3,Try.q4,Try.q22,Try.q23,Try.q25,Try.q29,Try.q31,Try.underlying33,Try.q33,Try.underlying36,Try.q36,Try.underlying37,Try.q37,Try.q48,Try.underlying50,Try.q50,Try.q58]
  refine awp_seq (awp_vc (by kernel_rfl) ?_)
  simp -implicitDefEqProofs only [seqA_normal,seqA_ret,seqA_exit,Q0,Q1,Q2,Q3,Q4,Q5,Q6,Q7,Q8,Q9,Qa,Qb,Qc,Qd,Qe,Qf,Qg,Qh,Qi,Qj,Qk,Ql,Qm,Qn,Qo,Qp,Qq,Qr,Qs,Qt,Qu,Qv,Qw,Qx,Qy,Qz,QA,QB,QC,QD,QE,QF,QG,QH,QI,QJ,QK,QL,QM,QN,QO,QP,QQ,QR,QS,QT,QU,QV,QW,QX,QY,QZ,X0,X1,X2,X3,X4,X5,X6,X7,X8,X9,Xa,Xb,Xc,Xd,Xe,Xf,Xg,Xh,Xi,Xj,Xk,Xl,Xm,Xn,Xo,Xp,Xq,Xr,Xs,Xt,Xu,Xv,Xw,Xx,Xy,Xz,XA,XB,reduceIte,reduceCtorEq,XC,XD,XE,XF,XG,XH,XI,XJ,XK,XL,XM,XN,XO,XP,XQ,XR,XS,XT,XU,XV,XW,XX,XY,XZ,Y0,Try.q3,Try.q4,Try.q22,Try.q23,Try.q25,Try.q29,Try.q31,Try.underlying33,Try.q33,Try.underlying36,Try.q36,Try.underlying37,Try.q37,Try.q48,Try.underlying50,Try.q50,Try.q58]
  refine acalls_then (kS _) ?_
  simp -implicitDefEqProofs only [seqA_normal,Q0,Q1,Q2,Q3,Q4,Q5,Q6,Q7,Q8,Q9,Qa,Qb,Qc,Qd,Qe,Qf,Qg,Qh,Qi,Qj,Qk,Ql,Qm,Qn,Qo,Qp,Qq,Qr,Qs,Qt,Qu,Qv,Qw,Qx,Qy,Qz,QA,QB,QC,QD,QE,QF,QG,QH,QI,QJ,QK,QL,QM,QN,QO,QP,QQ,QR,QS,QT,QU,QV,QW,QX,QY,QZ,X0,X1,X2,X3,X4,X5,X6,X7,X8,X9,Xa,Xb,Xc,Xd,Xe,Xf,Xg,Xh,Xi,Xj,Xk,Xl,Xm,Xn,Xo,Xp,Xq,Xr,Xs,Xt,Xu,Xv,Xw,Xx,Xy,Xz,XA,XB,reduceIte,reduceCtorEq,XC,XD,XE,XF,XG,XH,XI,XJ,XK,XL,XM,XN,XO,XP,XQ,XR,XS,XT,XU,XV,XW,XX,XY,XZ,Y0,Try.q3,Try.q4,Try.q22,Try.q23,Try.q25,Try.q29,Try.q31,Try.underlying33,Try.q33,Try.underlying36,Try.q36,Try.underlying37,Try.q37,Try.q48,Try.underlying50,Try.q50,Try.q58]
  refine awp_cutK (fun e' s' => (∃ es dn d D, LOk 18 es ∧ dn.length ≤ 12 ∧ Two s' id j m d D es dn) ∧ Env.sub [(8, .ptr m 0), (7, .ptr id 0), (1, .ints .i64 k), (2, .ints .i64 n)] e') ?_ ?_
  · refine awp_seq (awp_vc (by kernel_rfl) ?_)
    simp -implicitDefEqProofs only [seqA_normal,seqA_ret,seqA_exit,Q0,Q1,Q2,Q3,Q4,Q5,Q6,Q7,Q8,Q9,Qa,Qb,Qc,Qd,Qe,Qf,Qg,Qh,Qi,Qj,Qk,Ql,Qm,Qn,Qo,Qp,Qq,Qr,Qs,Qt,Qu,Qv,Qw,Qx,Qy,Qz,QA,QB,QC,QD,QE,QF,QG,QH,QI,QJ,QK,QL,QM,QN,QO,QP,QQ,QR,QS,QT,QU,QV,QW,QX,QY,QZ,X0,X1,X2,X3,X4,X5,X6,X7,X8,X9,Xa,Xb,Xc,Xd,Xe,Xf,Xg,Xh,Xi,Xj,Xk,Xl,Xm,Xn,Xo,Xp,Xq,Xr,Xs,Xt,Xu,Xv,Xw,Xx,Xy,Xz,XA,XB,reduceIte,reduceCtorEq,XC,XD,XE,XF,XG,XH,XI,XJ,XK,XL,XM,XN,XO,XP,XQ,XR,XS,XT,XU,XV,XW,XX,XY,XZ,Y0,Try.q3,Try.q4,Try.q22,Try.q23,Try.q25,Try.q29,Try.q31,Try.underlying33,Try.q33,Try.underlying36,Try.q36,Try.underlying37,Try.q37,Try.q48,Try.underlying50,Try.q50,Try.q58]
    refine awp_blk ?_
    refine awp_loopW (fun i : Nat => [(10, .int .i64 i), (9, .rows 3 (ops.map opA)), (8, .ptr m 0), (7, .ptr id 0), (1, .ints .i64 k), (2, .ints .i64 n)]) (fun i s => i ≤ ops.length ∧ ∃ es dn d D, LOk (3 * i) es ∧ dn.length ≤ 2 * i ∧ Two s id j m d D es dn) (fun i => ops.length - i) 0 (by simp [sub_cons, sub_nil, get_cons]) ⟨by omega, [], [], m, .nils, LOk.nil, by simp, hT0⟩ ?_
    rintro i s ⟨hi, es, dn, d, D, hOk, hdl, hT⟩
    by_cases hlt : i < ops.length
    · have d1 : decide ((i : Int) < (ops.length : Int)) = true := decide_eq_true (by omega)
      have hrow : (ops.map opA).getD (i : Int).toNat [] = opA ops[i] := by rw [Int.toNat_natCast, getD_get (by simpa using hlt)]; simp
      have wi : IntKind.i64.wrap ((i : Int) + 1) = ((i + 1 : Nat) : Int) := by rw [wrap_i64 (by omega) (by omega)]; rfl
      have bi : (0 : Int) ≤ (i : Int) ∧ (i : Int) < (ops.length : Int) := by omega
      have hg := hG _ (List.getElem_mem hlt)
      generalize ops[i] = o at *
      have hlen := hOk.len
      have hes := hg.len
      have hOk2 := (hOk.op (by omega) dn hg).up (C := 3 * (i + 1)) (by omega)
      have hdl2 := dn_len es dn o
      obtain ⟨s2, d2, D2, hT2, -, -, kd⟩ := r_do es dn (by omega) hOk.val (by omega) o (by omega) hg.okx s id j m d D hT
      generalize (opR es dn o).2 = dn2 at *
      generalize (opR es dn o).1 = es2 at *
      have hrow2 : (ops.map opA).getD (i : Int).toNat [] = [.rows 6 (o.es.map entA), .int .i64 o.ix, .int .i64 o.dy] := hrow
      unfold opA at kd
      refine awp_vc (by kernel_rfl) ?_
      simp -implicitDefEqProofs only [d1,lm,hrow2,ht3,Q0,Q1,Q2,Q3,Q4,Q5,Q6,Q7,Q8,Q9,Qa,Qb,Qc,Qd,Qe,Qf,Qg,Qh,Qi,Qj,Qk,Ql,Qm,Qn,Qo,Qp,Qq,Qr,Qs,Qt,Qu,Qv,Qw,Qx,Qy,Qz,QA,QB,QC,QD,QE,QF,QG,QH,QI,QJ,QK,QL,QM,QN,QO,QP,QQ,QR,QS,QT,QU,QV,QW,QX,QY,QZ,X0,X1,X2,X3,X4,X5,X6,X7,X8,X9,Xa,Xb,Xc,Xd,Xe,Xf,Xg,Xh,Xi,Xj,Xk,Xl,Xm,Xn,Xo,Xp,Xq,Xr,Xs,Xt,Xu,Xv,Xw,Xx,Xy,Xz,XA,XB,reduceIte,reduceCtorEq,XC,XD,XE,XF,XG,XH,XI,XJ,XK,XL,XM,XN,XO,XP,XQ,XR,XS,XT,XU,XV,XW,XX,XY,XZ,Y0,Try.q3,Try.q4,Try.q22,Try.q23,Try.q25,Try.q29,Try.q31,Try.underlying33,Try.q33,Try.underlying36,Try.q36,Try.underlying37,Try.q37,Try.q48,Try.underlying50,Try.q50,Try.q58]
      refine ⟨bi, ?_⟩
      refine acalls_then (kd) ?_
      simp -implicitDefEqProofs only [wi,Q0,Q1,Q2,Q3,Q4,Q5,Q6,Q7,Q8,Q9,Qa,Qb,Qc,Qd,Qe,Qf,Qg,Qh,Qi,Qj,Qk,Ql,Qm,Qn,Qo,Qp,Qq,Qr,Qs,Qt,Qu,Qv,Qw,Qx,Qy,Qz,QA,QB,QC,QD,QE,QF,QG,QH,QI,QJ,QK,QL,QM,QN,QO,QP,QQ,QR,QS,QT,QU,QV,QW,QX,QY,QZ,X0,X1,X2,X3,X4,X5,X6,X7,X8,X9,Xa,Xb,Xc,Xd,Xe,Xf,Xg,Xh,Xi,Xj,Xk,Xl,Xm,Xn,Xo,Xp,Xq,Xr,Xs,Xt,Xu,Xv,Xw,Xx,Xy,Xz,XA,XB,reduceIte,reduceCtorEq,XC,XD,XE,XF,XG,XH,XI,XJ,XK,XL,XM,XN,XO,XP,XQ,XR,XS,XT,XU,XV,XW,XX,XY,XZ,Y0,Try.q3,Try.q4,Try.q22,Try.q23,Try.q25,Try.q29,Try.q31,Try.underlying33,Try.q33,Try.underlying36,Try.q36,Try.underlying37,Try.q37,Try.q48,Try.underlying50,Try.q50,Try.q58]
      exact ⟨i + 1, by simp [sub_cons, sub_nil, get_cons], ⟨by omega, es2, dn2, d2, D2, hOk2, by omega, hT2⟩, by omega⟩
    · have d1 : decide ((i : Int) < (ops.length : Int)) = false := decide_eq_false (by omega)
      refine awp_vc (by kernel_rfl) ?_
      simp -implicitDefEqProofs only [d1,lm,seqA_normal,cutK_normal,Q0,Q1,Q2,Q3,Q4,Q5,Q6,Q7,Q8,Q9,Qa,Qb,Qc,Qd,Qe,Qf,Qg,Qh,Qi,Qj,Qk,Ql,Qm,Qn,Qo,Qp,Qq,Qr,Qs,Qt,Qu,Qv,Qw,Qx,Qy,Qz,QA,QB,QC,QD,QE,QF,QG,QH,QI,QJ,QK,QL,QM,QN,QO,QP,QQ,QR,QS,QT,QU,QV,QW,QX,QY,QZ,X0,X1,X2,X3,X4,X5,X6,X7,X8,X9,Xa,Xb,Xc,Xd,Xe,Xf,Xg,Xh,Xi,Xj,Xk,Xl,Xm,Xn,Xo,Xp,Xq,Xr,Xs,Xt,Xu,Xv,Xw,Xx,Xy,Xz,XA,XB,reduceIte,reduceCtorEq,XC,XD,XE,XF,XG,XH,XI,XJ,XK,XL,XM,XN,XO,XP,XQ,XR,XS,XT,XU,XV,XW,XX,XY,XZ,Y0,Try.q3,Try.q4,Try.q22,Try.q23,Try.q25,Try.q29,Try.q31,Try.underlying33,Try.q33,Try.underlying36,Try.q36,Try.underlying37,Try.q37,Try.q48,Try.underlying50,Try.q50,Try.q58]
      exact ⟨es, dn, d, D, hOk.up (by omega), by omega, hT⟩
  rintro e' s' ⟨⟨es, dn, d0, D, hOk, hdl, hT1⟩, he⟩
  refine awp_subJ _ he ?_
  clear he e' hL0 hx0 hT0 kS hG lm hSl ops
  have hlen := hOk.len
  obtain ⟨d, hT, hd, -⟩ := hT1.norm
  clear hT1 d0
  have hled := hT.led.lt
  have hmm := (List.getElem?_eq_some_iff.1 hT.rl.box).1
  obtain ⟨s2, hx2, hC2, kc⟩ := c_Copy es (by omega) dn s' id j hT.led
  have hT2 := hT.ext hx2
  have hc2 := hC2.lt
  refine awp_seq (awp_vc (by kernel_rfl) ?_)
  simp -implicitDefEqProofs only [Q0,Q1,Q2,Q3,Q4,Q5,Q6,Q7,Q8,Q9,Qa,Qb,Qc,Qd,Qe,Qf,Qg,Qh,Qi,Qj,Qk,Ql,Qm,Qn,Qo,Qp,Qq,Qr,Qs,Qt,Qu,Qv,Qw,Qx,Qy,Qz,QA,QB,QC,QD,QE,QF,QG,QH,QI,QJ,QK,QL,QM,QN,QO,QP,QQ,QR,QS,QT,QU,QV,QW,QX,QY,QZ,X0,X1,X2,X3,X4,X5,X6,X7,X8,X9,Xa,Xb,Xc,Xd,Xe,Xf,Xg,Xh,Xi,Xj,Xk,Xl,Xm,Xn,Xo,Xp,Xq,Xr,Xs,Xt,Xu,Xv,Xw,Xx,Xy,Xz,XA,XB,reduceIte,reduceCtorEq,XC,XD,XE,XF,XG,XH,XI,XJ,XK,XL,XM,XN,XO,XP,XQ,XR,XS,XT,XU,XV,XW,XX,XY,XZ,Y0,Try.q3,Try.q4,Try.q22,Try.q23,Try.q25,Try.q29,Try.q31,Try.underlying33,Try.q33,Try.underlying36,Try.q36,Try.underlying37,Try.q37,Try.q48,Try.underlying50,Try.q50,Try.q58]
  refine ACalls.mono kc ?_
  rintro r s3 ⟨rfl, rfl⟩
  simp -implicitDefEqProofs only [seqA_normal,Q0,Q1,Q2,Q3,Q4,Q5,Q6,Q7,Q8,Q9,Qa,Qb,Qc,Qd,Qe,Qf,Qg,Qh,Qi,Qj,Qk,Ql,Qm,Qn,Qo,Qp,Qq,Qr,Qs,Qt,Qu,Qv,Qw,Qx,Qy,Qz,QA,QB,QC,QD,QE,QF,QG,QH,QI,QJ,QK,QL,QM,QN,QO,QP,QQ,QR,QS,QT,QU,QV,QW,QX,QY,QZ,X0,X1,X2,X3,X4,X5,X6,X7,X8,X9,Xa,Xb,Xc,Xd,Xe,Xf,Xg,Xh,Xi,Xj,Xk,Xl,Xm,Xn,Xo,Xp,Xq,Xr,Xs,Xt,Xu,Xv,Xw,Xx,Xy,Xz,XA,XB,reduceIte,reduceCtorEq,XC,XD,XE,XF,XG,XH,XI,XJ,XK,XL,XM,XN,XO,XP,XQ,XR,XS,XT,XU,XV,XW,XX,XY,XZ,Y0,Try.q3,Try.q4,Try.q22,Try.q23,Try.q25,Try.q29,Try.q31,Try.underlying33,Try.q33,Try.underlying36,Try.q36,Try.underlying37,Try.q37,Try.q48,Try.underlying50,Try.q50,Try.q58]
  refine awp_seq (awp_vc (by kernel_rfl) ?_)
  simp -implicitDefEqProofs only [Q0,Q1,Q2,Q3,Q4,Q5,Q6,Q7,Q8,Q9,Qa,Qb,Qc,Qd,Qe,Qf,Qg,Qh,Qi,Qj,Qk,Ql,Qm,Qn,Qo,Qp,Qq,Qr,Qs,Qt,Qu,Qv,Qw,Qx,Qy,Qz,QA,QB,QC,QD,QE,QF,QG,QH,QI,QJ,QK,QL,QM,QN,QO,QP,QQ,QR,QS,QT,QU,QV,QW,QX,QY,QZ,X0,X1,X2,X3,X4,X5,X6,X7,X8,X9,Xa,Xb,Xc,Xd,Xe,Xf,Xg,Xh,Xi,Xj,Xk,Xl,Xm,Xn,Xo,Xp,Xq,Xr,Xs,Xt,Xu,Xv,Xw,Xx,Xy,Xz,XA,XB,reduceIte,reduceCtorEq,XC,XD,XE,XF,XG,XH,XI,XJ,XK,XL,XM,XN,XO,XP,XQ,XR,XS,XT,XU,XV,XW,XX,XY,XZ,Y0,Try.q3,Try.q4,Try.q22,Try.q23,Try.q25,Try.q29,Try.q31,Try.underlying33,Try.q33,Try.underlying36,Try.q36,Try.underlying37,Try.q37,Try.q48,Try.underlying50,Try.q50,Try.q58]
  refine ACalls.mono (rr_Copy es dn (by omega) (by omega) s3 m d D hT2.rl) ?_
  rintro r s4 ⟨m2, d2, D2, rfl, hx4, hm2, hd2, hR4⟩
  simp -implicitDefEqProofs only [seqA_normal,Q0,Q1,Q2,Q3,Q4,Q5,Q6,Q7,Q8,Q9,Qa,Qb,Qc,Qd,Qe,Qf,Qg,Qh,Qi,Qj,Qk,Ql,Qm,Qn,Qo,Qp,Qq,Qr,Qs,Qt,Qu,Qv,Qw,Qx,Qy,Qz,QA,QB,QC,QD,QE,QF,QG,QH,QI,QJ,QK,QL,QM,QN,QO,QP,QQ,QR,QS,QT,QU,QV,QW,QX,QY,QZ,X0,X1,X2,X3,X4,X5,X6,X7,X8,X9,Xa,Xb,Xc,Xd,Xe,Xf,Xg,Xh,Xi,Xj,Xk,Xl,Xm,Xn,Xo,Xp,Xq,Xr,Xs,Xt,Xu,Xv,Xw,Xx,Xy,Xz,XA,XB,reduceIte,reduceCtorEq,XC,XD,XE,XF,XG,XH,XI,XJ,XK,XL,XM,XN,XO,XP,XQ,XR,XS,XT,XU,XV,XW,XX,XY,XZ,Y0,Try.q3,Try.q4,Try.q22,Try.q23,Try.q25,Try.q29,Try.q31,Try.underlying33,Try.q33,Try.underlying36,Try.q36,Try.underlying37,Try.q37,Try.q48,Try.underlying50,Try.q50,Try.q58]
  have hT4 := hT2.ext hx4
  have hC4 := hC2.ext hx4
  have hs2 := hx2.len
  have hs4 := hx4.len
  have hY0 : Two s4 (s'.length + 1) s'.length m2 d2 D2 es dn := ⟨hC4, hR4, by omega, by omega, by omega, by omega⟩
  obtain ⟨d3, hY, hd3, hdd⟩ := hY0.norm
  have hF : Four s4 id j m d D es dn (s'.length + 1) s'.length m2 d3 D2 es dn := ⟨hT4, by omega, hY, hd3, by
    intro x hx y hy
    simp only [List.mem_cons, List.not_mem_nil, or_false] at hx hy
    omega⟩
  generalize s'.length + 1 = a at *
  generalize s'.length = b at *
  clear hT hT2 hC2 hT4 hC4 hR4 hY0 hY hdd kc hx2 hx4
  refine awp_seq (awp_vc (by kernel_rfl) ?_)
  simp -implicitDefEqProofs only [seqA_normal,Q0,Q1,Q2,Q3,Q4,Q5,Q6,Q7,Q8,Q9,Qa,Qb,Qc,Qd,Qe,Qf,Qg,Qh,Qi,Qj,Qk,Ql,Qm,Qn,Qo,Qp,Qq,Qr,Qs,Qt,Qu,Qv,Qw,Qx,Qy,Qz,QA,QB,QC,QD,QE,QF,QG,QH,QI,QJ,QK,QL,QM,QN,QO,QP,QQ,QR,QS,QT,QU,QV,QW,QX,QY,QZ,X0,X1,X2,X3,X4,X5,X6,X7,X8,X9,Xa,Xb,Xc,Xd,Xe,Xf,Xg,Xh,Xi,Xj,Xk,Xl,Xm,Xn,Xo,Xp,Xq,Xr,Xs,Xt,Xu,Xv,Xw,Xx,Xy,Xz,XA,XB,reduceIte,reduceCtorEq,XC,XD,XE,XF,XG,XH,XI,XJ,XK,XL,XM,XN,XO,XP,XQ,XR,XS,XT,XU,XV,XW,XX,XY,XZ,Y0,Try.q3,Try.q4,Try.q22,Try.q23,Try.q25,Try.q29,Try.q31,Try.underlying33,Try.q33,Try.underlying36,Try.q36,Try.underlying37,Try.q37,Try.q48,Try.underlying50,Try.q50,Try.q58]
  have kE := c_EntriesB es (by omega) _ s4 id hF.x.led.1
  refine awp_seq (awp_vc (by kernel_rfl) ?_)
  simp -implicitDefEqProofs only [Q0,Q1,Q2,Q3,Q4,Q5,Q6,Q7,Q8,Q9,Qa,Qb,Qc,Qd,Qe,Qf,Qg,Qh,Qi,Qj,Qk,Ql,Qm,Qn,Qo,Qp,Qq,Qr,Qs,Qt,Qu,Qv,Qw,Qx,Qy,Qz,QA,QB,QC,QD,QE,QF,QG,QH,QI,QJ,QK,QL,QM,QN,QO,QP,QQ,QR,QS,QT,QU,QV,QW,QX,QY,QZ,X0,X1,X2,X3,X4,X5,X6,X7,X8,X9,Xa,Xb,Xc,Xd,Xe,Xf,Xg,Xh,Xi,Xj,Xk,Xl,Xm,Xn,Xo,Xp,Xq,Xr,Xs,Xt,Xu,Xv,Xw,Xx,Xy,Xz,XA,XB,reduceIte,reduceCtorEq,XC,XD,XE,XF,XG,XH,XI,XJ,XK,XL,XM,XN,XO,XP,XQ,XR,XS,XT,XU,XV,XW,XX,XY,XZ,Y0,Try.q3,Try.q4,Try.q22,Try.q23,Try.q25,Try.q29,Try.q31,Try.underlying33,Try.q33,Try.underlying36,Try.q36,Try.underlying37,Try.q37,Try.q48,Try.underlying50,Try.q50,Try.q58]
  refine ACalls.mono kE ?_
  rintro rL s5 ⟨hx5, hb5⟩
  simp -implicitDefEqProofs only [seqA_normal,Q0,Q1,Q2,Q3,Q4,Q5,Q6,Q7,Q8,Q9,Qa,Qb,Qc,Qd,Qe,Qf,Qg,Qh,Qi,Qj,Qk,Ql,Qm,Qn,Qo,Qp,Qq,Qr,Qs,Qt,Qu,Qv,Qw,Qx,Qy,Qz,QA,QB,QC,QD,QE,QF,QG,QH,QI,QJ,QK,QL,QM,QN,QO,QP,QQ,QR,QS,QT,QU,QV,QW,QX,QY,QZ,X0,X1,X2,X3,X4,X5,X6,X7,X8,X9,Xa,Xb,Xc,Xd,Xe,Xf,Xg,Xh,Xi,Xj,Xk,Xl,Xm,Xn,Xo,Xp,Xq,Xr,Xs,Xt,Xu,Xv,Xw,Xx,Xy,Xz,XA,XB,reduceIte,reduceCtorEq,XC,XD,XE,XF,XG,XH,XI,XJ,XK,XL,XM,XN,XO,XP,XQ,XR,XS,XT,XU,XV,XW,XX,XY,XZ,Y0,Try.q3,Try.q4,Try.q22,Try.q23,Try.q25,Try.q29,Try.q31,Try.underlying33,Try.q33,Try.underlying36,Try.q36,Try.underlying37,Try.q37,Try.q48,Try.underlying50,Try.q50,Try.q58]
  refine awp_cutK (fun e' s' => Ext s4 s' ∧ Env.sub [(7, .ptr id 0), (8, .ptr m 0), (11, .ptr a 0), (12, .ptr m2 0), (1, .ints .i64 k), (2, .ints .i64 n)] e') ?_ ?_
  · refine awp_seq (awp_vc (by kernel_rfl) ?_)
    simp -implicitDefEqProofs only [seqA_normal,seqA_ret,seqA_exit,Q0,Q1,Q2,Q3,Q4,Q5,Q6,Q7,Q8,Q9,Qa,Qb,Qc,Qd,Qe,Qf,Qg,Qh,Qi,Qj,Qk,Ql,Qm,Qn,Qo,Qp,Qq,Qr,Qs,Qt,Qu,Qv,Qw,Qx,Qy,Qz,QA,QB,QC,QD,QE,QF,QG,QH,QI,QJ,QK,QL,QM,QN,QO,QP,QQ,QR,QS,QT,QU,QV,QW,QX,QY,QZ,X0,X1,X2,X3,X4,X5,X6,X7,X8,X9,Xa,Xb,Xc,Xd,Xe,Xf,Xg,Xh,Xi,Xj,Xk,Xl,Xm,Xn,Xo,Xp,Xq,Xr,Xs,Xt,Xu,Xv,Xw,Xx,Xy,Xz,XA,XB,reduceIte,reduceCtorEq,XC,XD,XE,XF,XG,XH,XI,XJ,XK,XL,XM,XN,XO,XP,XQ,XR,XS,XT,XU,XV,XW,XX,XY,XZ,Y0,Try.q3,Try.q4,Try.q22,Try.q23,Try.q25,Try.q29,Try.q31,Try.underlying33,Try.q33,Try.underlying36,Try.q36,Try.underlying37,Try.q37,Try.q48,Try.underlying50,Try.q50,Try.q58]
    refine awp_blk ?_
    rcases hb5 with ⟨h1, h2⟩ | ⟨q, h1, h2, h3⟩
    · refine awp_loopW (fun _ : Unit => [(14, .int .i64 0), (13, rL), (7, .ptr id 0), (8, .ptr m 0), (11, .ptr a 0), (12, .ptr m2 0), (1, .ints .i64 k), (2, .ints .i64 n)]) (fun _ s => Ext s4 s) (fun _ => 0) () (by simp [sub_cons, sub_nil, get_cons]) hx5 ?_
      rintro _ s hx
      have d0 : decide ((0 : Int) < 0) = false := rfl
      rcases h1 with h1 | h1
      · subst h1
        refine awp_vc (by kernel_rfl) ?_
        simp -implicitDefEqProofs only [d0,cutK_normal,Q0,Q1,Q2,Q3,Q4,Q5,Q6,Q7,Q8,Q9,Qa,Qb,Qc,Qd,Qe,Qf,Qg,Qh,Qi,Qj,Qk,Ql,Qm,Qn,Qo,Qp,Qq,Qr,Qs,Qt,Qu,Qv,Qw,Qx,Qy,Qz,QA,QB,QC,QD,QE,QF,QG,QH,QI,QJ,QK,QL,QM,QN,QO,QP,QQ,QR,QS,QT,QU,QV,QW,QX,QY,QZ,X0,X1,X2,X3,X4,X5,X6,X7,X8,X9,Xa,Xb,Xc,Xd,Xe,Xf,Xg,Xh,Xi,Xj,Xk,Xl,Xm,Xn,Xo,Xp,Xq,Xr,Xs,Xt,Xu,Xv,Xw,Xx,Xy,Xz,XA,XB,reduceIte,reduceCtorEq,XC,XD,XE,XF,XG,XH,XI,XJ,XK,XL,XM,XN,XO,XP,XQ,XR,XS,XT,XU,XV,XW,XX,XY,XZ,Y0,Try.q3,Try.q4,Try.q22,Try.q23,Try.q25,Try.q29,Try.q31,Try.underlying33,Try.q33,Try.underlying36,Try.q36,Try.underlying37,Try.q37,Try.q48,Try.underlying50,Try.q50,Try.q58]
        exact hx
      · subst h1
        refine awp_vc (by kernel_rfl) ?_
        simp -implicitDefEqProofs only [d0,cutK_normal,Q0,Q1,Q2,Q3,Q4,Q5,Q6,Q7,Q8,Q9,Qa,Qb,Qc,Qd,Qe,Qf,Qg,Qh,Qi,Qj,Qk,Ql,Qm,Qn,Qo,Qp,Qq,Qr,Qs,Qt,Qu,Qv,Qw,Qx,Qy,Qz,QA,QB,QC,QD,QE,QF,QG,QH,QI,QJ,QK,QL,QM,QN,QO,QP,QQ,QR,QS,QT,QU,QV,QW,QX,QY,QZ,X0,X1,X2,X3,X4,X5,X6,X7,X8,X9,Xa,Xb,Xc,Xd,Xe,Xf,Xg,Xh,Xi,Xj,Xk,Xl,Xm,Xn,Xo,Xp,Xq,Xr,Xs,Xt,Xu,Xv,Xw,Xx,Xy,Xz,XA,XB,reduceIte,reduceCtorEq,XC,XD,XE,XF,XG,XH,XI,XJ,XK,XL,XM,XN,XO,XP,XQ,XR,XS,XT,XU,XV,XW,XX,XY,XZ,Y0,Try.q3,Try.q4,Try.q22,Try.q23,Try.q25,Try.q29,Try.q31,Try.underlying33,Try.q33,Try.underlying36,Try.q36,Try.underlying37,Try.q37,Try.q48,Try.underlying50,Try.q50,Try.q58]
        exact hx
    · subst h1
      rw [List.length_map]
      refine awp_loopW (fun i : Nat => [(14, .int .i64 i), (13, .mvec q 0 es.length 6), (7, .ptr id 0), (8, .ptr m 0), (11, .ptr a 0), (12, .ptr m2 0), (1, .ints .i64 k), (2, .ints .i64 n)])
        (fun i s => i ≤ es.length ∧ Ext s4 s ∧ ∃ rs, s[q]? = some (.vecR 6 rs) ∧ rs.length = es.length) (fun i => es.length - i) 0 (by simp [sub_cons, sub_nil, get_cons]) ⟨by omega, hx5, _, h2, List.length_map _⟩ ?_
      rintro i s ⟨hi, hx, rs, hq, hrs⟩
      have hql := (List.getElem?_eq_some_iff.1 hq).1
      by_cases hlt : i < es.length
      · have d1 : decide ((i : Int) < (es.length : Int)) = true := decide_eq_true (by omega)
        have wi : IntKind.i64.wrap ((i : Int) + 1) = ((i + 1 : Nat) : Int) := by rw [wrap_i64 (by omega) (by omega)]; rfl
        have bi : (0 : Int) ≤ (i : Int) ∧ (i : Int) < (es.length : Int) := by omega
        refine awp_vc (by kernel_rfl) ?_
        simp -implicitDefEqProofs only [d1,hq,Q0,Q1,Q2,Q3,Q4,Q5,Q6,Q7,Q8,Q9,Qa,Qb,Qc,Qd,Qe,Qf,Qg,Qh,Qi,Qj,Qk,Ql,Qm,Qn,Qo,Qp,Qq,Qr,Qs,Qt,Qu,Qv,Qw,Qx,Qy,Qz,QA,QB,QC,QD,QE,QF,QG,QH,QI,QJ,QK,QL,QM,QN,QO,QP,QQ,QR,QS,QT,QU,QV,QW,QX,QY,QZ,X0,X1,X2,X3,X4,X5,X6,X7,X8,X9,Xa,Xb,Xc,Xd,Xe,Xf,Xg,Xh,Xi,Xj,Xk,Xl,Xm,Xn,Xo,Xp,Xq,Xr,Xs,Xt,Xu,Xv,Xw,Xx,Xy,Xz,XA,XB,reduceIte,reduceCtorEq,XC,XD,XE,XF,XG,XH,XI,XJ,XK,XL,XM,XN,XO,XP,XQ,XR,XS,XT,XU,XV,XW,XX,XY,XZ,Y0,Try.q3,Try.q4,Try.q22,Try.q23,Try.q25,Try.q29,Try.q31,Try.underlying33,Try.q33,Try.underlying36,Try.q36,Try.underlying37,Try.q37,Try.q48,Try.underlying50,Try.q50,Try.q58]
        refine ⟨bi, by omega, i + 1, by rw [wi], ⟨by omega, hx.set h3 _, _, List.getElem?_set_self hql, ?_⟩, by omega⟩
        rw [List.length_set]; exact hrs
      · have d1 : decide ((i : Int) < (es.length : Int)) = false := decide_eq_false (by omega)
        refine awp_vc (by kernel_rfl) ?_
        simp -implicitDefEqProofs only [d1,cutK_normal,Q0,Q1,Q2,Q3,Q4,Q5,Q6,Q7,Q8,Q9,Qa,Qb,Qc,Qd,Qe,Qf,Qg,Qh,Qi,Qj,Qk,Ql,Qm,Qn,Qo,Qp,Qq,Qr,Qs,Qt,Qu,Qv,Qw,Qx,Qy,Qz,QA,QB,QC,QD,QE,QF,QG,QH,QI,QJ,QK,QL,QM,QN,QO,QP,QQ,QR,QS,QT,QU,QV,QW,QX,QY,QZ,X0,X1,X2,X3,X4,X5,X6,X7,X8,X9,Xa,Xb,Xc,Xd,Xe,Xf,Xg,Xh,Xi,Xj,Xk,Xl,Xm,Xn,Xo,Xp,Xq,Xr,Xs,Xt,Xu,Xv,Xw,Xx,Xy,Xz,XA,XB,reduceIte,reduceCtorEq,XC,XD,XE,XF,XG,XH,XI,XJ,XK,XL,XM,XN,XO,XP,XQ,XR,XS,XT,XU,XV,XW,XX,XY,XZ,Y0,Try.q3,Try.q4,Try.q22,Try.q23,Try.q25,Try.q29,Try.q31,Try.underlying33,Try.q33,Try.underlying36,Try.q36,Try.underlying37,Try.q37,Try.q48,Try.underlying50,Try.q50,Try.q58]
        exact hx
  rintro e' s6 ⟨hx6, he⟩
  refine awp_subJ _ he ?_
  clear he e' hx5 hb5 kE
  have hF6 : Four s6 id j m d D es dn a b m2 d3 D2 es dn := ⟨hF.x.ext hx6, by have := hx6.len; have := hF.xd; omega, hF.y.ext hx6, by have := hx6.len; have := hF.yd; omega, hF.apt⟩
  clear hx6 hF
  refine awp_seq (awp_vc (by kernel_rfl) ?_)
  simp -implicitDefEqProofs only [seqA_normal,seqA_ret,seqA_exit,Q0,Q1,Q2,Q3,Q4,Q5,Q6,Q7,Q8,Q9,Qa,Qb,Qc,Qd,Qe,Qf,Qg,Qh,Qi,Qj,Qk,Ql,Qm,Qn,Qo,Qp,Qq,Qr,Qs,Qt,Qu,Qv,Qw,Qx,Qy,Qz,QA,QB,QC,QD,QE,QF,QG,QH,QI,QJ,QK,QL,QM,QN,QO,QP,QQ,QR,QS,QT,QU,QV,QW,QX,QY,QZ,X0,X1,X2,X3,X4,X5,X6,X7,X8,X9,Xa,Xb,Xc,Xd,Xe,Xf,Xg,Xh,Xi,Xj,Xk,Xl,Xm,Xn,Xo,Xp,Xq,Xr,Xs,Xt,Xu,Xv,Xw,Xx,Xy,Xz,XA,XB,reduceIte,reduceCtorEq,XC,XD,XE,XF,XG,XH,XI,XJ,XK,XL,XM,XN,XO,XP,XQ,XR,XS,XT,XU,XV,XW,XX,XY,XZ,Y0,Try.q3,Try.q4,Try.q22,Try.q23,Try.q25,Try.q29,Try.q31,Try.underlying33,Try.q33,Try.underlying36,Try.q36,Try.underlying37,Try.q37,Try.q48,Try.underlying50,Try.q50,Try.q58]
  refine acalls_then (kSa _) ?_
  simp -implicitDefEqProofs only [seqA_normal,Q0,Q1,Q2,Q3,Q4,Q5,Q6,Q7,Q8,Q9,Qa,Qb,Qc,Qd,Qe,Qf,Qg,Qh,Qi,Qj,Qk,Ql,Qm,Qn,Qo,Qp,Qq,Qr,Qs,Qt,Qu,Qv,Qw,Qx,Qy,Qz,QA,QB,QC,QD,QE,QF,QG,QH,QI,QJ,QK,QL,QM,QN,QO,QP,QQ,QR,QS,QT,QU,QV,QW,QX,QY,QZ,X0,X1,X2,X3,X4,X5,X6,X7,X8,X9,Xa,Xb,Xc,Xd,Xe,Xf,Xg,Xh,Xi,Xj,Xk,Xl,Xm,Xn,Xo,Xp,Xq,Xr,Xs,Xt,Xu,Xv,Xw,Xx,Xy,Xz,XA,XB,reduceIte,reduceCtorEq,XC,XD,XE,XF,XG,XH,XI,XJ,XK,XL,XM,XN,XO,XP,XQ,XR,XS,XT,XU,XV,XW,XX,XY,XZ,Y0,Try.q3,Try.q4,Try.q22,Try.q23,Try.q25,Try.q29,Try.q31,Try.underlying33,Try.q33,Try.underlying36,Try.q36,Try.underlying37,Try.q37,Try.q48,Try.underlying50,Try.q50,Try.q58]
  refine awp_seq (awp_vc (by kernel_rfl) ?_)
  simp -implicitDefEqProofs only [seqA_normal,seqA_ret,seqA_exit,Q0,Q1,Q2,Q3,Q4,Q5,Q6,Q7,Q8,Q9,Qa,Qb,Qc,Qd,Qe,Qf,Qg,Qh,Qi,Qj,Qk,Ql,Qm,Qn,Qo,Qp,Qq,Qr,Qs,Qt,Qu,Qv,Qw,Qx,Qy,Qz,QA,QB,QC,QD,QE,QF,QG,QH,QI,QJ,QK,QL,QM,QN,QO,QP,QQ,QR,QS,QT,QU,QV,QW,QX,QY,QZ,X0,X1,X2,X3,X4,X5,X6,X7,X8,X9,Xa,Xb,Xc,Xd,Xe,Xf,Xg,Xh,Xi,Xj,Xk,Xl,Xm,Xn,Xo,Xp,Xq,Xr,Xs,Xt,Xu,Xv,Xw,Xx,Xy,Xz,XA,XB,reduceIte,reduceCtorEq,XC,XD,XE,XF,XG,XH,XI,XJ,XK,XL,XM,XN,XO,XP,XQ,XR,XS,XT,XU,XV,XW,XX,XY,XZ,Y0,Try.q3,Try.q4,Try.q22,Try.q23,Try.q25,Try.q29,Try.q31,Try.underlying33,Try.q33,Try.underlying36,Try.q36,Try.underlying37,Try.q37,Try.q48,Try.underlying50,Try.q50,Try.q58]
  refine acalls_then (kSb _) ?_
  simp -implicitDefEqProofs only [seqA_normal,Q0,Q1,Q2,Q3,Q4,Q5,Q6,Q7,Q8,Q9,Qa,Qb,Qc,Qd,Qe,Qf,Qg,Qh,Qi,Qj,Qk,Ql,Qm,Qn,Qo,Qp,Qq,Qr,Qs,Qt,Qu,Qv,Qw,Qx,Qy,Qz,QA,QB,QC,QD,QE,QF,QG,QH,QI,QJ,QK,QL,QM,QN,QO,QP,QQ,QR,QS,QT,QU,QV,QW,QX,QY,QZ,X0,X1,X2,X3,X4,X5,X6,X7,X8,X9,Xa,Xb,Xc,Xd,Xe,Xf,Xg,Xh,Xi,Xj,Xk,Xl,Xm,Xn,Xo,Xp,Xq,Xr,Xs,Xt,Xu,Xv,Xw,Xx,Xy,Xz,XA,XB,reduceIte,reduceCtorEq,XC,XD,XE,XF,XG,XH,XI,XJ,XK,XL,XM,XN,XO,XP,XQ,XR,XS,XT,XU,XV,XW,XX,XY,XZ,Y0,Try.q3,Try.q4,Try.q22,Try.q23,Try.q25,Try.q29,Try.q31,Try.underlying33,Try.q33,Try.underlying36,Try.q36,Try.underlying37,Try.q37,Try.q48,Try.underlying50,Try.q50,Try.q58]
  refine awp_cutK (fun e' s' => (∃ es dn d D fs en e E, LOk 40 es ∧ LOk 40 fs ∧ Four s' id j m d D es dn a b m2 e E fs en) ∧ Env.sub [(7, .ptr id 0), (8, .ptr m 0), (11, .ptr a 0), (12, .ptr m2 0)] e') ?_ ?_
  · refine awp_seq (awp_vc (by kernel_rfl) ?_)
    simp -implicitDefEqProofs only [seqA_normal,seqA_ret,seqA_exit,Q0,Q1,Q2,Q3,Q4,Q5,Q6,Q7,Q8,Q9,Qa,Qb,Qc,Qd,Qe,Qf,Qg,Qh,Qi,Qj,Qk,Ql,Qm,Qn,Qo,Qp,Qq,Qr,Qs,Qt,Qu,Qv,Qw,Qx,Qy,Qz,QA,QB,QC,QD,QE,QF,QG,QH,QI,QJ,QK,QL,QM,QN,QO,QP,QQ,QR,QS,QT,QU,QV,QW,QX,QY,QZ,X0,X1,X2,X3,X4,X5,X6,X7,X8,X9,Xa,Xb,Xc,Xd,Xe,Xf,Xg,Xh,Xi,Xj,Xk,Xl,Xm,Xn,Xo,Xp,Xq,Xr,Xs,Xt,Xu,Xv,Xw,Xx,Xy,Xz,XA,XB,reduceIte,reduceCtorEq,XC,XD,XE,XF,XG,XH,XI,XJ,XK,XL,XM,XN,XO,XP,XQ,XR,XS,XT,XU,XV,XW,XX,XY,XZ,Y0,Try.q3,Try.q4,Try.q22,Try.q23,Try.q25,Try.q29,Try.q31,Try.underlying33,Try.q33,Try.underlying36,Try.q36,Try.underlying37,Try.q37,Try.q48,Try.underlying50,Try.q50,Try.q58]
    refine awp_blk ?_
    refine awp_loopW (fun i : Nat => [(17, .int .i64 i), (15, .rows 3 (oa.map opA)), (16, .rows 3 (ob.map opA)), (7, .ptr id 0), (8, .ptr m 0), (11, .ptr a 0), (12, .ptr m2 0)])
      (fun i s => i ≤ 5 ∧ ∃ es dn d D fs en e E, LOk (18 + 3 * i) es ∧ dn.length ≤ 12 + 2 * i ∧ LOk (18 + 3 * i) fs ∧ en.length ≤ 12 + 2 * i ∧ Four s id j m d D es dn a b m2 e E fs en) (fun i => 5 - i) 0
      (by simp [sub_cons, sub_nil, get_cons]) ⟨by omega, es, dn, d, D, es, dn, d3, D2, hOk, by omega, hOk, by omega, hF6⟩ ?_
    clear hF6 hOk hlen hdl
    rintro i s ⟨hi, es, dn, d, D, fs, en, e, E, hOk, hdl, hOf, hel, hF⟩
    have hlen := hOk.len
    have hlef := hOf.len
    have wi : IntKind.i64.wrap ((i : Int) + 1) = ((i + 1 : Nat) : Int) := by rw [wrap_i64 (by omega) (by omega)]; rfl
    by_cases hla : i < oa.length
    · have d1 : decide ((i : Int) < (oa.length : Int)) = true := decide_eq_true (by omega)
      have ba : (0 : Int) ≤ (i : Int) ∧ (i : Int) < (oa.length : Int) := by omega
      have hrow : (oa.map opA).getD (i : Int).toNat [] = opA oa[i] := by rw [Int.toNat_natCast, getD_get (by simpa using hla)]; simp
      have hg := hGa _ (List.getElem_mem hla)
      generalize oa[i] = o at *
      have hrow2 : (oa.map opA).getD (i : Int).toNat [] = [.rows 6 (o.es.map entA), .int .i64 o.ix, .int .i64 o.dy] := hrow
      have hes := hg.len
      have hOk2 := (hOk.op (by omega) dn hg).up (C := 18 + 3 * (i + 1)) (by omega)
      have hdl2 := dn_len es dn o
      obtain ⟨s2, d2, D2, hF2, kd⟩ := do_four hF (by omega) hOk.val (by omega) o (by omega) hg.okx
      generalize (opR es dn o).2 = dn2 at *
      generalize (opR es dn o).1 = es2 at *
      by_cases hlb : i < ob.length
      · have d2' : decide ((i : Int) < (ob.length : Int)) = true := decide_eq_true (by omega)
        have bb : (0 : Int) ≤ (i : Int) ∧ (i : Int) < (ob.length : Int) := by omega
        have hrowb : (ob.map opA).getD (i : Int).toNat [] = opA ob[i] := by rw [Int.toNat_natCast, getD_get (by simpa using hlb)]; simp
        have hgb := hGb _ (List.getElem_mem hlb)
        generalize ob[i] = ob' at *
        have hrowb2 : (ob.map opA).getD (i : Int).toNat [] = [.rows 6 (ob'.es.map entA), .int .i64 ob'.ix, .int .i64 ob'.dy] := hrowb
        have hesb := hgb.len
        have hOf2 := (hOf.op (by omega) en hgb).up (C := 18 + 3 * (i + 1)) (by omega)
        have hel2 := dn_len fs en ob'
        obtain ⟨s3, d3, D3, hF3, kd2⟩ := do_four hF2.symm (by omega) hOf.val (by omega) ob' (by omega) hgb.okx
        generalize (opR fs en ob').2 = en2 at *
        generalize (opR fs en ob').1 = fs2 at *
        refine awp_vc (by kernel_rfl) ?_
        simp -implicitDefEqProofs only [d1,lma,hrow2,ht3,Q0,Q1,Q2,Q3,Q4,Q5,Q6,Q7,Q8,Q9,Qa,Qb,Qc,Qd,Qe,Qf,Qg,Qh,Qi,Qj,Qk,Ql,Qm,Qn,Qo,Qp,Qq,Qr,Qs,Qt,Qu,Qv,Qw,Qx,Qy,Qz,QA,QB,QC,QD,QE,QF,QG,QH,QI,QJ,QK,QL,QM,QN,QO,QP,QQ,QR,QS,QT,QU,QV,QW,QX,QY,QZ,X0,X1,X2,X3,X4,X5,X6,X7,X8,X9,Xa,Xb,Xc,Xd,Xe,Xf,Xg,Xh,Xi,Xj,Xk,Xl,Xm,Xn,Xo,Xp,Xq,Xr,Xs,Xt,Xu,Xv,Xw,Xx,Xy,Xz,XA,XB,reduceIte,reduceCtorEq,XC,XD,XE,XF,XG,XH,XI,XJ,XK,XL,XM,XN,XO,XP,XQ,XR,XS,XT,XU,XV,XW,XX,XY,XZ,Y0,Try.q3,Try.q4,Try.q22,Try.q23,Try.q25,Try.q29,Try.q31,Try.underlying33,Try.q33,Try.underlying36,Try.q36,Try.underlying37,Try.q37,Try.q48,Try.underlying50,Try.q50,Try.q58]
        refine ⟨ba, ?_⟩
        refine acalls_then (kd) ?_
        simp -implicitDefEqProofs only [d2',lmb,hrowb2,ht3,Q0,Q1,Q2,Q3,Q4,Q5,Q6,Q7,Q8,Q9,Qa,Qb,Qc,Qd,Qe,Qf,Qg,Qh,Qi,Qj,Qk,Ql,Qm,Qn,Qo,Qp,Qq,Qr,Qs,Qt,Qu,Qv,Qw,Qx,Qy,Qz,QA,QB,QC,QD,QE,QF,QG,QH,QI,QJ,QK,QL,QM,QN,QO,QP,QQ,QR,QS,QT,QU,QV,QW,QX,QY,QZ,X0,X1,X2,X3,X4,X5,X6,X7,X8,X9,Xa,Xb,Xc,Xd,Xe,Xf,Xg,Xh,Xi,Xj,Xk,Xl,Xm,Xn,Xo,Xp,Xq,Xr,Xs,Xt,Xu,Xv,Xw,Xx,Xy,Xz,XA,XB,reduceIte,reduceCtorEq,XC,XD,XE,XF,XG,XH,XI,XJ,XK,XL,XM,XN,XO,XP,XQ,XR,XS,XT,XU,XV,XW,XX,XY,XZ,Y0,Try.q3,Try.q4,Try.q22,Try.q23,Try.q25,Try.q29,Try.q31,Try.underlying33,Try.q33,Try.underlying36,Try.q36,Try.underlying37,Try.q37,Try.q48,Try.underlying50,Try.q50,Try.q58]
        refine ⟨bb, ?_⟩
        refine acalls_then (kd2) ?_
        simp -implicitDefEqProofs only [wi,Q0,Q1,Q2,Q3,Q4,Q5,Q6,Q7,Q8,Q9,Qa,Qb,Qc,Qd,Qe,Qf,Qg,Qh,Qi,Qj,Qk,Ql,Qm,Qn,Qo,Qp,Qq,Qr,Qs,Qt,Qu,Qv,Qw,Qx,Qy,Qz,QA,QB,QC,QD,QE,QF,QG,QH,QI,QJ,QK,QL,QM,QN,QO,QP,QQ,QR,QS,QT,QU,QV,QW,QX,QY,QZ,X0,X1,X2,X3,X4,X5,X6,X7,X8,X9,Xa,Xb,Xc,Xd,Xe,Xf,Xg,Xh,Xi,Xj,Xk,Xl,Xm,Xn,Xo,Xp,Xq,Xr,Xs,Xt,Xu,Xv,Xw,Xx,Xy,Xz,XA,XB,reduceIte,reduceCtorEq,XC,XD,XE,XF,XG,XH,XI,XJ,XK,XL,XM,XN,XO,XP,XQ,XR,XS,XT,XU,XV,XW,XX,XY,XZ,Y0,Try.q3,Try.q4,Try.q22,Try.q23,Try.q25,Try.q29,Try.q31,Try.underlying33,Try.q33,Try.underlying36,Try.q36,Try.underlying37,Try.q37,Try.q48,Try.underlying50,Try.q50,Try.q58]
        exact ⟨i + 1, by simp [sub_cons, sub_nil, get_cons], ⟨by omega, es2, dn2, d2, D2, fs2, en2, d3, D3, hOk2, by omega, hOf2, by omega, hF3.symm⟩, by omega⟩
      · have d2' : decide ((i : Int) < (ob.length : Int)) = false := decide_eq_false (by omega)
        refine awp_vc (by kernel_rfl) ?_
        simp -implicitDefEqProofs only [d1,lma,hrow2,ht3,Q0,Q1,Q2,Q3,Q4,Q5,Q6,Q7,Q8,Q9,Qa,Qb,Qc,Qd,Qe,Qf,Qg,Qh,Qi,Qj,Qk,Ql,Qm,Qn,Qo,Qp,Qq,Qr,Qs,Qt,Qu,Qv,Qw,Qx,Qy,Qz,QA,QB,QC,QD,QE,QF,QG,QH,QI,QJ,QK,QL,QM,QN,QO,QP,QQ,QR,QS,QT,QU,QV,QW,QX,QY,QZ,X0,X1,X2,X3,X4,X5,X6,X7,X8,X9,Xa,Xb,Xc,Xd,Xe,Xf,Xg,Xh,Xi,Xj,Xk,Xl,Xm,Xn,Xo,Xp,Xq,Xr,Xs,Xt,Xu,Xv,Xw,Xx,Xy,Xz,XA,XB,reduceIte,reduceCtorEq,XC,XD,XE,XF,XG,XH,XI,XJ,XK,XL,XM,XN,XO,XP,XQ,XR,XS,XT,XU,XV,XW,XX,XY,XZ,Y0,Try.q3,Try.q4,Try.q22,Try.q23,Try.q25,Try.q29,Try.q31,Try.underlying33,Try.q33,Try.underlying36,Try.q36,Try.underlying37,Try.q37,Try.q48,Try.underlying50,Try.q50,Try.q58]
        refine ⟨ba, ?_⟩
        refine acalls_then (kd) ?_
        simp -implicitDefEqProofs only [d2',lmb,wi,Q0,Q1,Q2,Q3,Q4,Q5,Q6,Q7,Q8,Q9,Qa,Qb,Qc,Qd,Qe,Qf,Qg,Qh,Qi,Qj,Qk,Ql,Qm,Qn,Qo,Qp,Qq,Qr,Qs,Qt,Qu,Qv,Qw,Qx,Qy,Qz,QA,QB,QC,QD,QE,QF,QG,QH,QI,QJ,QK,QL,QM,QN,QO,QP,QQ,QR,QS,QT,QU,QV,QW,QX,QY,QZ,X0,X1,X2,X3,X4,X5,X6,X7,X8,X9,Xa,Xb,Xc,Xd,Xe,Xf,Xg,Xh,Xi,Xj,Xk,Xl,Xm,Xn,Xo,Xp,Xq,Xr,Xs,Xt,Xu,Xv,Xw,Xx,Xy,Xz,XA,XB,reduceIte,reduceCtorEq,XC,XD,XE,XF,XG,XH,XI,XJ,XK,XL,XM,XN,XO,XP,XQ,XR,XS,XT,XU,XV,XW,XX,XY,XZ,Y0,Try.q3,Try.q4,Try.q22,Try.q23,Try.q25,Try.q29,Try.q31,Try.underlying33,Try.q33,Try.underlying36,Try.q36,Try.underlying37,Try.q37,Try.q48,Try.underlying50,Try.q50,Try.q58]
        exact ⟨i + 1, by simp [sub_cons, sub_nil, get_cons], ⟨by omega, es2, dn2, d2, D2, fs, en, e, E, hOk2, by omega, hOf.up (by omega), by omega, hF2⟩, by omega⟩
    · have d1 : decide ((i : Int) < (oa.length : Int)) = false := decide_eq_false (by omega)
      by_cases hlb : i < ob.length
      · have d2' : decide ((i : Int) < (ob.length : Int)) = true := decide_eq_true (by omega)
        have bb : (0 : Int) ≤ (i : Int) ∧ (i : Int) < (ob.length : Int) := by omega
        have hrowb : (ob.map opA).getD (i : Int).toNat [] = opA ob[i] := by rw [Int.toNat_natCast, getD_get (by simpa using hlb)]; simp
        have hgb := hGb _ (List.getElem_mem hlb)
        generalize ob[i] = ob' at *
        have hrowb2 : (ob.map opA).getD (i : Int).toNat [] = [.rows 6 (ob'.es.map entA), .int .i64 ob'.ix, .int .i64 ob'.dy] := hrowb
        have hesb := hgb.len
        have hOf2 := (hOf.op (by omega) en hgb).up (C := 18 + 3 * (i + 1)) (by omega)
        have hel2 := dn_len fs en ob'
        obtain ⟨s3, d3, D3, hF3, kd2⟩ := do_four hF.symm (by omega) hOf.val (by omega) ob' (by omega) hgb.okx
        generalize (opR fs en ob').2 = en2 at *
        generalize (opR fs en ob').1 = fs2 at *
        refine awp_vc (by kernel_rfl) ?_
        simp -implicitDefEqProofs only [d1,lma,d2',lmb,hrowb2,ht3,Q0,Q1,Q2,Q3,Q4,Q5,Q6,Q7,Q8,Q9,Qa,Qb,Qc,Qd,Qe,Qf,Qg,Qh,Qi,Qj,Qk,Ql,Qm,Qn,Qo,Qp,Qq,Qr,Qs,Qt,Qu,Qv,Qw,Qx,Qy,Qz,QA,QB,QC,QD,QE,QF,QG,QH,QI,QJ,QK,QL,QM,QN,QO,QP,QQ,QR,QS,QT,QU,QV,QW,QX,QY,QZ,X0,X1,X2,X3,X4,X5,X6,X7,X8,X9,Xa,Xb,Xc,Xd,Xe,Xf,Xg,Xh,Xi,Xj,Xk,Xl,Xm,Xn,Xo,Xp,Xq,Xr,Xs,Xt,Xu,Xv,Xw,Xx,Xy,Xz,XA,XB,reduceIte,reduceCtorEq,XC,XD,XE,XF,XG,XH,XI,XJ,XK,XL,XM,XN,XO,XP,XQ,XR,XS,XT,XU,XV,XW,XX,XY,XZ,Y0,Try.q3,Try.q4,Try.q22,Try.q23,Try.q25,Try.q29,Try.q31,Try.underlying33,Try.q33,Try.underlying36,Try.q36,Try.underlying37,Try.q37,Try.q48,Try.underlying50,Try.q50,Try.q58]
        refine ⟨bb, ?_⟩
        refine acalls_then (kd2) ?_
        simp -implicitDefEqProofs only [wi,Q0,Q1,Q2,Q3,Q4,Q5,Q6,Q7,Q8,Q9,Qa,Qb,Qc,Qd,Qe,Qf,Qg,Qh,Qi,Qj,Qk,Ql,Qm,Qn,Qo,Qp,Qq,Qr,Qs,Qt,Qu,Qv,Qw,Qx,Qy,Qz,QA,QB,QC,QD,QE,QF,QG,QH,QI,QJ,QK,QL,QM,QN,QO,QP,QQ,QR,QS,QT,QU,QV,QW,QX,QY,QZ,X0,X1,X2,X3,X4,X5,X6,X7,X8,X9,Xa,Xb,Xc,Xd,Xe,Xf,Xg,Xh,Xi,Xj,Xk,Xl,Xm,Xn,Xo,Xp,Xq,Xr,Xs,Xt,Xu,Xv,Xw,Xx,Xy,Xz,XA,XB,reduceIte,reduceCtorEq,XC,XD,XE,XF,XG,XH,XI,XJ,XK,XL,XM,XN,XO,XP,XQ,XR,XS,XT,XU,XV,XW,XX,XY,XZ,Y0,Try.q3,Try.q4,Try.q22,Try.q23,Try.q25,Try.q29,Try.q31,Try.underlying33,Try.q33,Try.underlying36,Try.q36,Try.underlying37,Try.q37,Try.q48,Try.underlying50,Try.q50,Try.q58]
        exact ⟨i + 1, by simp [sub_cons, sub_nil, get_cons], ⟨by omega, es, dn, d, D, fs2, en2, d3, D3, hOk.up (by omega), by omega, hOf2, by omega, hF3.symm⟩, by omega⟩
      · have d2' : decide ((i : Int) < (ob.length : Int)) = false := decide_eq_false (by omega)
        refine awp_vc (by kernel_rfl) ?_
        simp -implicitDefEqProofs only [d1,lma,d2',lmb,cutK_normal,Q0,Q1,Q2,Q3,Q4,Q5,Q6,Q7,Q8,Q9,Qa,Qb,Qc,Qd,Qe,Qf,Qg,Qh,Qi,Qj,Qk,Ql,Qm,Qn,Qo,Qp,Qq,Qr,Qs,Qt,Qu,Qv,Qw,Qx,Qy,Qz,QA,QB,QC,QD,QE,QF,QG,QH,QI,QJ,QK,QL,QM,QN,QO,QP,QQ,QR,QS,QT,QU,QV,QW,QX,QY,QZ,X0,X1,X2,X3,X4,X5,X6,X7,X8,X9,Xa,Xb,Xc,Xd,Xe,Xf,Xg,Xh,Xi,Xj,Xk,Xl,Xm,Xn,Xo,Xp,Xq,Xr,Xs,Xt,Xu,Xv,Xw,Xx,Xy,Xz,XA,XB,reduceIte,reduceCtorEq,XC,XD,XE,XF,XG,XH,XI,XJ,XK,XL,XM,XN,XO,XP,XQ,XR,XS,XT,XU,XV,XW,XX,XY,XZ,Y0,Try.q3,Try.q4,Try.q22,Try.q23,Try.q25,Try.q29,Try.q31,Try.underlying33,Try.q33,Try.underlying36,Try.q36,Try.underlying37,Try.q37,Try.q48,Try.underlying50,Try.q50,Try.q58]
        exact ⟨es, dn, d, D, fs, en, e, E, hOk.up (by omega), hOf.up (by omega), hF⟩
  clear hF6 hOk hlen hdl
  rintro e' s7 ⟨⟨es, dn, d, D, fs, en, e, E, hOk, hOf, hF⟩, he⟩
  refine awp_subJ _ he ?_
  clear he e' hGa hSa lma hGb hSb lmb kSa kSb
  have hlen := hOk.len
  have hlef := hOf.len
  have lms : (es.map entA).length = es.length := List.length_map _
  have hwl := wordsE_len es
  have kE := c_Entries es (by omega) _ s7 id hF.x.led.1
  refine awp_seq (awp_vc (by kernel_rfl) ?_)
  simp -implicitDefEqProofs only [seqA_normal,Q0,Q1,Q2,Q3,Q4,Q5,Q6,Q7,Q8,Q9,Qa,Qb,Qc,Qd,Qe,Qf,Qg,Qh,Qi,Qj,Qk,Ql,Qm,Qn,Qo,Qp,Qq,Qr,Qs,Qt,Qu,Qv,Qw,Qx,Qy,Qz,QA,QB,QC,QD,QE,QF,QG,QH,QI,QJ,QK,QL,QM,QN,QO,QP,QQ,QR,QS,QT,QU,QV,QW,QX,QY,QZ,X0,X1,X2,X3,X4,X5,X6,X7,X8,X9,Xa,Xb,Xc,Xd,Xe,Xf,Xg,Xh,Xi,Xj,Xk,Xl,Xm,Xn,Xo,Xp,Xq,Xr,Xs,Xt,Xu,Xv,Xw,Xx,Xy,Xz,XA,XB,reduceIte,reduceCtorEq,XC,XD,XE,XF,XG,XH,XI,XJ,XK,XL,XM,XN,XO,XP,XQ,XR,XS,XT,XU,XV,XW,XX,XY,XZ,Y0,Try.q3,Try.q4,Try.q22,Try.q23,Try.q25,Try.q29,Try.q31,Try.underlying33,Try.q33,Try.underlying36,Try.q36,Try.underlying37,Try.q37,Try.q48,Try.underlying50,Try.q50,Try.q58]
  refine awp_seq (awp_vc (by kernel_rfl) ?_)
  simp -implicitDefEqProofs only [seqA_normal,seqA_ret,seqA_exit,Q0,Q1,Q2,Q3,Q4,Q5,Q6,Q7,Q8,Q9,Qa,Qb,Qc,Qd,Qe,Qf,Qg,Qh,Qi,Qj,Qk,Ql,Qm,Qn,Qo,Qp,Qq,Qr,Qs,Qt,Qu,Qv,Qw,Qx,Qy,Qz,QA,QB,QC,QD,QE,QF,QG,QH,QI,QJ,QK,QL,QM,QN,QO,QP,QQ,QR,QS,QT,QU,QV,QW,QX,QY,QZ,X0,X1,X2,X3,X4,X5,X6,X7,X8,X9,Xa,Xb,Xc,Xd,Xe,Xf,Xg,Xh,Xi,Xj,Xk,Xl,Xm,Xn,Xo,Xp,Xq,Xr,Xs,Xt,Xu,Xv,Xw,Xx,Xy,Xz,XA,XB,reduceIte,reduceCtorEq,XC,XD,XE,XF,XG,XH,XI,XJ,XK,XL,XM,XN,XO,XP,XQ,XR,XS,XT,XU,XV,XW,XX,XY,XZ,Y0,Try.q3,Try.q4,Try.q22,Try.q23,Try.q25,Try.q29,Try.q31,Try.underlying33,Try.q33,Try.underlying36,Try.q36,Try.underlying37,Try.q37,Try.q48,Try.underlying50,Try.q50,Try.q58]
  refine acalls_then (kE) ?_
  simp -implicitDefEqProofs only [seqA_normal,Q0,Q1,Q2,Q3,Q4,Q5,Q6,Q7,Q8,Q9,Qa,Qb,Qc,Qd,Qe,Qf,Qg,Qh,Qi,Qj,Qk,Ql,Qm,Qn,Qo,Qp,Qq,Qr,Qs,Qt,Qu,Qv,Qw,Qx,Qy,Qz,QA,QB,QC,QD,QE,QF,QG,QH,QI,QJ,QK,QL,QM,QN,QO,QP,QQ,QR,QS,QT,QU,QV,QW,QX,QY,QZ,X0,X1,X2,X3,X4,X5,X6,X7,X8,X9,Xa,Xb,Xc,Xd,Xe,Xf,Xg,Xh,Xi,Xj,Xk,Xl,Xm,Xn,Xo,Xp,Xq,Xr,Xs,Xt,Xu,Xv,Xw,Xx,Xy,Xz,XA,XB,reduceIte,reduceCtorEq,XC,XD,XE,XF,XG,XH,XI,XJ,XK,XL,XM,XN,XO,XP,XQ,XR,XS,XT,XU,XV,XW,XX,XY,XZ,Y0,Try.q3,Try.q4,Try.q22,Try.q23,Try.q25,Try.q29,Try.q31,Try.underlying33,Try.q33,Try.underlying36,Try.q36,Try.underlying37,Try.q37,Try.q48,Try.underlying50,Try.q50,Try.q58]
  refine awp_seq (awp_vc (by kernel_rfl) ?_)
  simp -implicitDefEqProofs only [seqA_normal,seqA_ret,seqA_exit,Q0,Q1,Q2,Q3,Q4,Q5,Q6,Q7,Q8,Q9,Qa,Qb,Qc,Qd,Qe,Qf,Qg,Qh,Qi,Qj,Qk,Ql,Qm,Qn,Qo,Qp,Qq,Qr,Qs,Qt,Qu,Qv,Qw,Qx,Qy,Qz,QA,QB,QC,QD,QE,QF,QG,QH,QI,QJ,QK,QL,QM,QN,QO,QP,QQ,QR,QS,QT,QU,QV,QW,QX,QY,QZ,X0,X1,X2,X3,X4,X5,X6,X7,X8,X9,Xa,Xb,Xc,Xd,Xe,Xf,Xg,Xh,Xi,Xj,Xk,Xl,Xm,Xn,Xo,Xp,Xq,Xr,Xs,Xt,Xu,Xv,Xw,Xx,Xy,Xz,XA,XB,reduceIte,reduceCtorEq,XC,XD,XE,XF,XG,XH,XI,XJ,XK,XL,XM,XN,XO,XP,XQ,XR,XS,XT,XU,XV,XW,XX,XY,XZ,Y0,Try.q3,Try.q4,Try.q22,Try.q23,Try.q25,Try.q29,Try.q31,Try.underlying33,Try.q33,Try.underlying36,Try.q36,Try.underlying37,Try.q37,Try.q48,Try.underlying50,Try.q50,Try.q58]
  refine awp_loopW (fun q : Nat × AV => [(20, .int .i64 q.1), (19, .rows 6 (es.map entA)), (18, q.2), (7, .ptr id 0), (11, .ptr a 0), (12, .ptr m2 0)]) (fun q s => q.1 ≤ es.length ∧ Ext s7 s ∧ BufI s s7.length q.2 .i64 (wordsE (es.take q.1))) (fun q => es.length - q.1) (0, .nils) (by simp [sub_cons, sub_nil, get_cons]) ⟨by simp, .refl _, .nil⟩ ?_
  rintro ⟨i, r⟩ s ⟨hi, hx, hbuf⟩
  simp only at hi hbuf
  by_cases hlt : i < es.length
  · have d1 : decide ((i : Int) < (es.length : Int)) = true := decide_eq_true (by omega)
    have hrow : (es.map entA).getD (i : Int).toNat [] = entA es[i] := by rw [Int.toNat_natCast, getD_get (by simpa using hlt)]; simp
    have wi : IntKind.i64.wrap ((i : Int) + 1) = ((i + 1 : Nat) : Int) := by rw [wrap_i64 (by omega) (by omega)]; rfl
    have bi : (0 : Int) ≤ (i : Int) ∧ (i : Int) < (es.length : Int) := by omega
    have ht := wordsE_take es hlt
    have hle : (wordsE (es.take i)).length ≤ 120000 := by rw [wordsE_len, List.length_take]; omega
    generalize es[i] = e at *
    have hrow2 : (es.map entA).getD (i : Int).toNat [] = [.int .i64 e.day, .int .i64 e.fr, .int .i64 e.to, .int .i64 e.cur, .int .i64 e.amt, .int .i64 e.note] := hrow
    refine awp_seq (awp_vc (by kernel_rfl) ?_)
    simp -implicitDefEqProofs only [seqA_normal,seqA_ret,seqA_exit,d1,lms,Q0,Q1,Q2,Q3,Q4,Q5,Q6,Q7,Q8,Q9,Qa,Qb,Qc,Qd,Qe,Qf,Qg,Qh,Qi,Qj,Qk,Ql,Qm,Qn,Qo,Qp,Qq,Qr,Qs,Qt,Qu,Qv,Qw,Qx,Qy,Qz,QA,QB,QC,QD,QE,QF,QG,QH,QI,QJ,QK,QL,QM,QN,QO,QP,QQ,QR,QS,QT,QU,QV,QW,QX,QY,QZ,X0,X1,X2,X3,X4,X5,X6,X7,X8,X9,Xa,Xb,Xc,Xd,Xe,Xf,Xg,Xh,Xi,Xj,Xk,Xl,Xm,Xn,Xo,Xp,Xq,Xr,Xs,Xt,Xu,Xv,Xw,Xx,Xy,Xz,XA,XB,reduceIte,reduceCtorEq,XC,XD,XE,XF,XG,XH,XI,XJ,XK,XL,XM,XN,XO,XP,XQ,XR,XS,XT,XU,XV,XW,XX,XY,XZ,Y0,Try.q3,Try.q4,Try.q22,Try.q23,Try.q25,Try.q29,Try.q31,Try.underlying33,Try.q33,Try.underlying36,Try.q36,Try.underlying37,Try.q37,Try.q48,Try.underlying50,Try.q50,Try.q58]
    refine awp_seq (awp_blk ?_)
    refine awp_draws [32, 200005, 200010, 200015, 200020, 200025, 200030] Try.mixed (by kernel_rfl) ?_
    simp -implicitDefEqProofs only [hrow2,lms,Q0,Q1,Q2,Q3,Q4,Q5,Q6,Q7,Q8,Q9,Qa,Qb,Qc,Qd,Qe,Qf,Qg,Qh,Qi,Qj,Qk,Ql,Qm,Qn,Qo,Qp,Qq,Qr,Qs,Qt,Qu,Qv,Qw,Qx,Qy,Qz,QA,QB,QC,QD,QE,QF,QG,QH,QI,QJ,QK,QL,QM,QN,QO,QP,QQ,QR,QS,QT,QU,QV,QW,QX,QY,QZ,X0,X1,X2,X3,X4,X5,X6,X7,X8,X9,Xa,Xb,Xc,Xd,Xe,Xf,Xg,Xh,Xi,Xj,Xk,Xl,Xm,Xn,Xo,Xp,Xq,Xr,Xs,Xt,Xu,Xv,Xw,Xx,Xy,Xz,XA,XB,reduceIte,reduceCtorEq,XC,XD,XE,XF,XG,XH,XI,XJ,XK,XL,XM,XN,XO,XP,XQ,XR,XS,XT,XU,XV,XW,XX,XY,XZ,Y0,Try.q3,Try.q4,Try.q22,Try.q23,Try.q25,Try.q29,Try.q31,Try.underlying33,Try.q33,Try.underlying36,Try.q36,Try.underlying37,Try.q37,Try.q48,Try.underlying50,Try.q50,Try.q58]
    refine ⟨bi, bi, bi, bi, bi, bi, ?_⟩
    refine append_buf Try.sl22 (by simp [Try.bt3]) hx hbuf (.inl rfl) (by simp only [appFits, Try.bt3, List.length_cons, List.length_nil]; omega) fun r2 s2 hx2 hb2 => ?_
    simp -implicitDefEqProofs only [seqA_normal,Q0,Q1,Q2,Q3,Q4,Q5,Q6,Q7,Q8,Q9,Qa,Qb,Qc,Qd,Qe,Qf,Qg,Qh,Qi,Qj,Qk,Ql,Qm,Qn,Qo,Qp,Qq,Qr,Qs,Qt,Qu,Qv,Qw,Qx,Qy,Qz,QA,QB,QC,QD,QE,QF,QG,QH,QI,QJ,QK,QL,QM,QN,QO,QP,QQ,QR,QS,QT,QU,QV,QW,QX,QY,QZ,X0,X1,X2,X3,X4,X5,X6,X7,X8,X9,Xa,Xb,Xc,Xd,Xe,Xf,Xg,Xh,Xi,Xj,Xk,Xl,Xm,Xn,Xo,Xp,Xq,Xr,Xs,Xt,Xu,Xv,Xw,Xx,Xy,Xz,XA,XB,reduceIte,reduceCtorEq,XC,XD,XE,XF,XG,XH,XI,XJ,XK,XL,XM,XN,XO,XP,XQ,XR,XS,XT,XU,XV,XW,XX,XY,XZ,Y0,Try.q3,Try.q4,Try.q22,Try.q23,Try.q25,Try.q29,Try.q31,Try.underlying33,Try.q33,Try.underlying36,Try.q36,Try.underlying37,Try.q37,Try.q48,Try.underlying50,Try.q50,Try.q58]
    refine awp_vc (by kernel_rfl) ?_
    simp -implicitDefEqProofs only [wi,Q0,Q1,Q2,Q3,Q4,Q5,Q6,Q7,Q8,Q9,Qa,Qb,Qc,Qd,Qe,Qf,Qg,Qh,Qi,Qj,Qk,Ql,Qm,Qn,Qo,Qp,Qq,Qr,Qs,Qt,Qu,Qv,Qw,Qx,Qy,Qz,QA,QB,QC,QD,QE,QF,QG,QH,QI,QJ,QK,QL,QM,QN,QO,QP,QQ,QR,QS,QT,QU,QV,QW,QX,QY,QZ,X0,X1,X2,X3,X4,X5,X6,X7,X8,X9,Xa,Xb,Xc,Xd,Xe,Xf,Xg,Xh,Xi,Xj,Xk,Xl,Xm,Xn,Xo,Xp,Xq,Xr,Xs,Xt,Xu,Xv,Xw,Xx,Xy,Xz,XA,XB,reduceIte,reduceCtorEq,XC,XD,XE,XF,XG,XH,XI,XJ,XK,XL,XM,XN,XO,XP,XQ,XR,XS,XT,XU,XV,XW,XX,XY,XZ,Y0,Try.q3,Try.q4,Try.q22,Try.q23,Try.q25,Try.q29,Try.q31,Try.underlying33,Try.q33,Try.underlying36,Try.q36,Try.underlying37,Try.q37,Try.q48,Try.underlying50,Try.q50,Try.q58]
    exact ⟨(i + 1, r2), by simp [sub_cons, sub_nil, get_cons], ⟨by simp only; omega, hx2, by simp only; rw [ht]; exact hb2⟩, by simp only; omega⟩
  · have d1 : decide ((i : Int) < (es.length : Int)) = false := decide_eq_false (by omega)
    rw [List.take_of_length_le (by omega)] at hbuf
    refine awp_vc (by kernel_rfl) ?_
    simp -implicitDefEqProofs only [d1,lms,seqA_normal,Q0,Q1,Q2,Q3,Q4,Q5,Q6,Q7,Q8,Q9,Qa,Qb,Qc,Qd,Qe,Qf,Qg,Qh,Qi,Qj,Qk,Ql,Qm,Qn,Qo,Qp,Qq,Qr,Qs,Qt,Qu,Qv,Qw,Qx,Qy,Qz,QA,QB,QC,QD,QE,QF,QG,QH,QI,QJ,QK,QL,QM,QN,QO,QP,QQ,QR,QS,QT,QU,QV,QW,QX,QY,QZ,X0,X1,X2,X3,X4,X5,X6,X7,X8,X9,Xa,Xb,Xc,Xd,Xe,Xf,Xg,Xh,Xi,Xj,Xk,Xl,Xm,Xn,Xo,Xp,Xq,Xr,Xs,Xt,Xu,Xv,Xw,Xx,Xy,Xz,XA,XB,reduceIte,reduceCtorEq,XC,XD,XE,XF,XG,XH,XI,XJ,XK,XL,XM,XN,XO,XP,XQ,XR,XS,XT,XU,XV,XW,XX,XY,XZ,Y0,Try.q3,Try.q4,Try.q22,Try.q23,Try.q25,Try.q29,Try.q31,Try.underlying33,Try.q33,Try.underlying36,Try.q36,Try.underlying37,Try.q37,Try.q48,Try.underlying50,Try.q50,Try.q58]
    refine awp_kill s7.length s.length hx.len (Nat.le_refl _) [(18, .ints .i64 (wordsE es)), (7, .ptr id 0), (11, .ptr a 0), (12, .ptr m2 0)] ⟨⟨_, rfl, hbuf.sh (Nat.le_refl _)⟩, ⟨_, rfl, .same _⟩, ⟨_, rfl, .same _⟩, ⟨_, rfl, .same _⟩, trivial⟩ ?_
    have hx8 : Ext s7 (killS s s7.length s.length) := killS_ext hx hx.len (Nat.le_refl _) (Nat.le_refl _)
    generalize killS s s7.length s.length = s8 at hx8
    have hX := hF.x.ext hx8
    have hY := hF.y.ext hx8
    have gm := hY.rl.box
    have kH1 := c_Hash es (by omega) s8 id _ hX.led.1
    have kH2 := hsum lblL (wordsE es) s8 lbl_u8 (by decide) (by omega)
    have kH3 := c_Hash fs (by omega) s8 a _ hY.led.1
    have kH4 := rr_Hash fs (by omega) s8 m2 E gm
    have kE2 := c_Entries fs (by omega) _ s8 a hY.led.1
    have kP := c_plain fs (by omega)
    have kM := rr_Same fs (by omega)
    unfold lblL at *
    generalize sumR _ (wordsE es) = v1 at *
    generalize sumR _ (wordsE fs) = v2 at *
    have e1 : decide (v1 = v1) = true := decide_eq_true rfl
    have e2 : decide (v2 = v2) = true := decide_eq_true rfl
    refine awp_seq (awp_draws [] Try.mixed (by kernel_rfl) ?_)
    simp -implicitDefEqProofs only [Q0,Q1,Q2,Q3,Q4,Q5,Q6,Q7,Q8,Q9,Qa,Qb,Qc,Qd,Qe,Qf,Qg,Qh,Qi,Qj,Qk,Ql,Qm,Qn,Qo,Qp,Qq,Qr,Qs,Qt,Qu,Qv,Qw,Qx,Qy,Qz,QA,QB,QC,QD,QE,QF,QG,QH,QI,QJ,QK,QL,QM,QN,QO,QP,QQ,QR,QS,QT,QU,QV,QW,QX,QY,QZ,X0,X1,X2,X3,X4,X5,X6,X7,X8,X9,Xa,Xb,Xc,Xd,Xe,Xf,Xg,Xh,Xi,Xj,Xk,Xl,Xm,Xn,Xo,Xp,Xq,Xr,Xs,Xt,Xu,Xv,Xw,Xx,Xy,Xz,XA,XB,reduceIte,reduceCtorEq,XC,XD,XE,XF,XG,XH,XI,XJ,XK,XL,XM,XN,XO,XP,XQ,XR,XS,XT,XU,XV,XW,XX,XY,XZ,Y0,Try.q3,Try.q4,Try.q22,Try.q23,Try.q25,Try.q29,Try.q31,Try.underlying33,Try.q33,Try.underlying36,Try.q36,Try.underlying37,Try.q37,Try.q48,Try.underlying50,Try.q50,Try.q58]
    refine dCall_of (kH1) (by decide) ?_
    simp -implicitDefEqProofs only [Q0,Q1,Q2,Q3,Q4,Q5,Q6,Q7,Q8,Q9,Qa,Qb,Qc,Qd,Qe,Qf,Qg,Qh,Qi,Qj,Qk,Ql,Qm,Qn,Qo,Qp,Qq,Qr,Qs,Qt,Qu,Qv,Qw,Qx,Qy,Qz,QA,QB,QC,QD,QE,QF,QG,QH,QI,QJ,QK,QL,QM,QN,QO,QP,QQ,QR,QS,QT,QU,QV,QW,QX,QY,QZ,X0,X1,X2,X3,X4,X5,X6,X7,X8,X9,Xa,Xb,Xc,Xd,Xe,Xf,Xg,Xh,Xi,Xj,Xk,Xl,Xm,Xn,Xo,Xp,Xq,Xr,Xs,Xt,Xu,Xv,Xw,Xx,Xy,Xz,XA,XB,reduceIte,reduceCtorEq,XC,XD,XE,XF,XG,XH,XI,XJ,XK,XL,XM,XN,XO,XP,XQ,XR,XS,XT,XU,XV,XW,XX,XY,XZ,Y0,Try.q3,Try.q4,Try.q22,Try.q23,Try.q25,Try.q29,Try.q31,Try.underlying33,Try.q33,Try.underlying36,Try.q36,Try.underlying37,Try.q37,Try.q48,Try.underlying50,Try.q50,Try.q58]
    refine dCall_of (kH2) (by decide) ?_
    simp -implicitDefEqProofs only [e1,Q0,Q1,Q2,Q3,Q4,Q5,Q6,Q7,Q8,Q9,Qa,Qb,Qc,Qd,Qe,Qf,Qg,Qh,Qi,Qj,Qk,Ql,Qm,Qn,Qo,Qp,Qq,Qr,Qs,Qt,Qu,Qv,Qw,Qx,Qy,Qz,QA,QB,QC,QD,QE,QF,QG,QH,QI,QJ,QK,QL,QM,QN,QO,QP,QQ,QR,QS,QT,QU,QV,QW,QX,QY,QZ,X0,X1,X2,X3,X4,X5,X6,X7,X8,X9,Xa,Xb,Xc,Xd,Xe,Xf,Xg,Xh,Xi,Xj,Xk,Xl,Xm,Xn,Xo,Xp,Xq,Xr,Xs,Xt,Xu,Xv,Xw,Xx,Xy,Xz,XA,XB,reduceIte,reduceCtorEq,XC,XD,XE,XF,XG,XH,XI,XJ,XK,XL,XM,XN,XO,XP,XQ,XR,XS,XT,XU,XV,XW,XX,XY,XZ,Y0,Try.q3,Try.q4,Try.q22,Try.q23,Try.q25,Try.q29,Try.q31,Try.underlying33,Try.q33,Try.underlying36,Try.q36,Try.underlying37,Try.q37,Try.q48,Try.underlying50,Try.q50,Try.q58]
    refine dCall_of (kH3) (by decide) ?_
    simp -implicitDefEqProofs only [Q0,Q1,Q2,Q3,Q4,Q5,Q6,Q7,Q8,Q9,Qa,Qb,Qc,Qd,Qe,Qf,Qg,Qh,Qi,Qj,Qk,Ql,Qm,Qn,Qo,Qp,Qq,Qr,Qs,Qt,Qu,Qv,Qw,Qx,Qy,Qz,QA,QB,QC,QD,QE,QF,QG,QH,QI,QJ,QK,QL,QM,QN,QO,QP,QQ,QR,QS,QT,QU,QV,QW,QX,QY,QZ,X0,X1,X2,X3,X4,X5,X6,X7,X8,X9,Xa,Xb,Xc,Xd,Xe,Xf,Xg,Xh,Xi,Xj,Xk,Xl,Xm,Xn,Xo,Xp,Xq,Xr,Xs,Xt,Xu,Xv,Xw,Xx,Xy,Xz,XA,XB,reduceIte,reduceCtorEq,XC,XD,XE,XF,XG,XH,XI,XJ,XK,XL,XM,XN,XO,XP,XQ,XR,XS,XT,XU,XV,XW,XX,XY,XZ,Y0,Try.q3,Try.q4,Try.q22,Try.q23,Try.q25,Try.q29,Try.q31,Try.underlying33,Try.q33,Try.underlying36,Try.q36,Try.underlying37,Try.q37,Try.q48,Try.underlying50,Try.q50,Try.q58]
    refine dCall_of (kH4) (by decide) ?_
    simp -implicitDefEqProofs only [e2,Q0,Q1,Q2,Q3,Q4,Q5,Q6,Q7,Q8,Q9,Qa,Qb,Qc,Qd,Qe,Qf,Qg,Qh,Qi,Qj,Qk,Ql,Qm,Qn,Qo,Qp,Qq,Qr,Qs,Qt,Qu,Qv,Qw,Qx,Qy,Qz,QA,QB,QC,QD,QE,QF,QG,QH,QI,QJ,QK,QL,QM,QN,QO,QP,QQ,QR,QS,QT,QU,QV,QW,QX,QY,QZ,X0,X1,X2,X3,X4,X5,X6,X7,X8,X9,Xa,Xb,Xc,Xd,Xe,Xf,Xg,Xh,Xi,Xj,Xk,Xl,Xm,Xn,Xo,Xp,Xq,Xr,Xs,Xt,Xu,Xv,Xw,Xx,Xy,Xz,XA,XB,reduceIte,reduceCtorEq,XC,XD,XE,XF,XG,XH,XI,XJ,XK,XL,XM,XN,XO,XP,XQ,XR,XS,XT,XU,XV,XW,XX,XY,XZ,Y0,Try.q3,Try.q4,Try.q22,Try.q23,Try.q25,Try.q29,Try.q31,Try.underlying33,Try.q33,Try.underlying36,Try.q36,Try.underlying37,Try.q37,Try.q48,Try.underlying50,Try.q50,Try.q58]
    refine dCall_of (kE2) (by decide) ?_
    simp -implicitDefEqProofs only [Q0,Q1,Q2,Q3,Q4,Q5,Q6,Q7,Q8,Q9,Qa,Qb,Qc,Qd,Qe,Qf,Qg,Qh,Qi,Qj,Qk,Ql,Qm,Qn,Qo,Qp,Qq,Qr,Qs,Qt,Qu,Qv,Qw,Qx,Qy,Qz,QA,QB,QC,QD,QE,QF,QG,QH,QI,QJ,QK,QL,QM,QN,QO,QP,QQ,QR,QS,QT,QU,QV,QW,QX,QY,QZ,X0,X1,X2,X3,X4,X5,X6,X7,X8,X9,Xa,Xb,Xc,Xd,Xe,Xf,Xg,Xh,Xi,Xj,Xk,Xl,Xm,Xn,Xo,Xp,Xq,Xr,Xs,Xt,Xu,Xv,Xw,Xx,Xy,Xz,XA,XB,reduceIte,reduceCtorEq,XC,XD,XE,XF,XG,XH,XI,XJ,XK,XL,XM,XN,XO,XP,XQ,XR,XS,XT,XU,XV,XW,XX,XY,XZ,Y0,Try.q3,Try.q4,Try.q22,Try.q23,Try.q25,Try.q29,Try.q31,Try.underlying33,Try.q33,Try.underlying36,Try.q36,Try.underlying37,Try.q37,Try.q48,Try.underlying50,Try.q50,Try.q58]
    refine dCall_of (kP _) (by decide) ?_
    simp -implicitDefEqProofs only [gm,Q0,Q1,Q2,Q3,Q4,Q5,Q6,Q7,Q8,Q9,Qa,Qb,Qc,Qd,Qe,Qf,Qg,Qh,Qi,Qj,Qk,Ql,Qm,Qn,Qo,Qp,Qq,Qr,Qs,Qt,Qu,Qv,Qw,Qx,Qy,Qz,QA,QB,QC,QD,QE,QF,QG,QH,QI,QJ,QK,QL,QM,QN,QO,QP,QQ,QR,QS,QT,QU,QV,QW,QX,QY,QZ,X0,X1,X2,X3,X4,X5,X6,X7,X8,X9,Xa,Xb,Xc,Xd,Xe,Xf,Xg,Xh,Xi,Xj,Xk,Xl,Xm,Xn,Xo,Xp,Xq,Xr,Xs,Xt,Xu,Xv,Xw,Xx,Xy,Xz,XA,XB,reduceIte,reduceCtorEq,XC,XD,XE,XF,XG,XH,XI,XJ,XK,XL,XM,XN,XO,XP,XQ,XR,XS,XT,XU,XV,XW,XX,XY,XZ,Y0,Try.q3,Try.q4,Try.q22,Try.q23,Try.q25,Try.q29,Try.q31,Try.underlying33,Try.q33,Try.underlying36,Try.q36,Try.underlying37,Try.q37,Try.q48,Try.underlying50,Try.q50,Try.q58]
    refine dCall_of (kM _) (by decide) ?_
    simp -implicitDefEqProofs only [Q0,Q1,Q2,Q3,Q4,Q5,Q6,Q7,Q8,Q9,Qa,Qb,Qc,Qd,Qe,Qf,Qg,Qh,Qi,Qj,Qk,Ql,Qm,Qn,Qo,Qp,Qq,Qr,Qs,Qt,Qu,Qv,Qw,Qx,Qy,Qz,QA,QB,QC,QD,QE,QF,QG,QH,QI,QJ,QK,QL,QM,QN,QO,QP,QQ,QR,QS,QT,QU,QV,QW,QX,QY,QZ,X0,X1,X2,X3,X4,X5,X6,X7,X8,X9,Xa,Xb,Xc,Xd,Xe,Xf,Xg,Xh,Xi,Xj,Xk,Xl,Xm,Xn,Xo,Xp,Xq,Xr,Xs,Xt,Xu,Xv,Xw,Xx,Xy,Xz,XA,XB,reduceIte,reduceCtorEq,XC,XD,XE,XF,XG,XH,XI,XJ,XK,XL,XM,XN,XO,XP,XQ,XR,XS,XT,XU,XV,XW,XX,XY,XZ,Y0,Try.q3,Try.q4,Try.q22,Try.q23,Try.q25,Try.q29,Try.q31,Try.underlying33,Try.q33,Try.underlying36,Try.q36,Try.underlying37,Try.q37,Try.q48,Try.underlying50,Try.q50,Try.q58]
    refine dCall_of (kL _) (by decide) ?_
    simp -implicitDefEqProofs only [seqA_normal,Q0,Q1,Q2,Q3,Q4,Q5,Q6,Q7,Q8,Q9,Qa,Qb,Qc,Qd,Qe,Qf,Qg,Qh,Qi,Qj,Qk,Ql,Qm,Qn,Qo,Qp,Qq,Qr,Qs,Qt,Qu,Qv,Qw,Qx,Qy,Qz,QA,QB,QC,QD,QE,QF,QG,QH,QI,QJ,QK,QL,QM,QN,QO,QP,QQ,QR,QS,QT,QU,QV,QW,QX,QY,QZ,X0,X1,X2,X3,X4,X5,X6,X7,X8,X9,Xa,Xb,Xc,Xd,Xe,Xf,Xg,Xh,Xi,Xj,Xk,Xl,Xm,Xn,Xo,Xp,Xq,Xr,Xs,Xt,Xu,Xv,Xw,Xx,Xy,Xz,XA,XB,reduceIte,reduceCtorEq,XC,XD,XE,XF,XG,XH,XI,XJ,XK,XL,XM,XN,XO,XP,XQ,XR,XS,XT,XU,XV,XW,XX,XY,XZ,Y0,Try.q3,Try.q4,Try.q22,Try.q23,Try.q25,Try.q29,Try.q31,Try.underlying33,Try.q33,Try.underlying36,Try.q36,Try.underlying37,Try.q37,Try.q48,Try.underlying50,Try.q50,Try.q58]
    refine awp_vc (by kernel_rfl) ?_
    simp -implicitDefEqProofs only [Q0,Q1,Q2,Q3,Q4,Q5,Q6,Q7,Q8,Q9,Qa,Qb,Qc,Qd,Qe,Qf,Qg,Qh,Qi,Qj,Qk,Ql,Qm,Qn,Qo,Qp,Qq,Qr,Qs,Qt,Qu,Qv,Qw,Qx,Qy,Qz,QA,QB,QC,QD,QE,QF,QG,QH,QI,QJ,QK,QL,QM,QN,QO,QP,QQ,QR,QS,QT,QU,QV,QW,QX,QY,QZ,X0,X1,X2,X3,X4,X5,X6,X7,X8,X9,Xa,Xb,Xc,Xd,Xe,Xf,Xg,Xh,Xi,Xj,Xk,Xl,Xm,Xn,Xo,Xp,Xq,Xr,Xs,Xt,Xu,Xv,Xw,Xx,Xy,Xz,XA,XB,reduceIte,reduceCtorEq,XC,XD,XE,XF,XG,XH,XI,XJ,XK,XL,XM,XN,XO,XP,XQ,XR,XS,XT,XU,XV,XW,XX,XY,XZ,Y0,Try.q3,Try.q4,Try.q22,Try.q23,Try.q25,Try.q29,Try.q31,Try.underlying33,Try.q33,Try.underlying36,Try.q36,Try.underlying37,Try.q37,Try.q48,Try.underlying50,Try.q50,Try.q58]

end Go.Proofs
