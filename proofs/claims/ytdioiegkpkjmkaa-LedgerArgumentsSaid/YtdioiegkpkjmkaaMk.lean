/-
  The ledger: arguments of any kind; the law.
-/
import Derived.Test.YtdioiegkpkjmkaaMf
namespace Go.Proofs
open Go.Pa
open Go.Pa renaming VB0 → Q0, VB1 → Q1, VB2 → Q2, VB3 → Q3, VB4 → Q4, VB5 → Q5, VB6 → Q6, VB7 → Q7, VB8 → Q8, VB9 → Q9, condV_bool → Qa, guardV_bool → Qb, vcS → Qc, evA → Qd, evBin → Qe, nilA → Qf, nilOf → Qg, intOp → Qh, strOp → Qi, evUn → Qj, evConv → Qk, evField → Ql, evFieldAddr → Qm, evIndexAddr → Qn, evIndex → Qo, evIndexA → Qp, bnd → Qq, evSlice → Qr, evLen → Qs, evPick → Qt, evExtract → Qu, evNilCheck → Qv, evMin → Qw, evMax → Qx, evLoadI → Qy, partsOne → QA, intsOf → QB, rowsAV → QC, evBuildSlice → QD, evBuild → QE, fillA → QF, splice → QG, evBuiltin → QH, guardD_bool → QI, dOp → QJ, cl → QK, vcLoad → QL, vcStore → QM, vcMake → QN, convA → QO, evIndexArr → QP, retA → QQ, ressA → QR, resA → QS, envOf → QT, condR_bool → QX, asgEnv → QY, parEnv → QZ, dstAt → XI, vcLook → XT, vcPut → XU, vcEnt → XV, vcESt → XW, vcMLen → XX, vcDel → XY, vcClear → XZ, vcLookD → Y0
open Go.Pa.AV renaming cell → Qz
open Go.Pa.Env renaming put → QU
open List renaming set_cons_zero → QV, set_cons_succ → QW, foldl_cons → X0, foldl_nil → X1, map_cons → X2, map_nil → X3, toList_toArray → X4, getElem?_cons_zero → X5, getElem?_cons_succ → X6, nil_append → Xa, append_nil → Xb, cons_append → Xc, singleton_append → Xd, length_cons → Xe, length_nil → Xf, all_cons → Xg, all_nil → Xh, take_succ_cons → Xi, take_zero → Xj, take_nil → Xk, drop_zero → Xl, drop_succ_cons → Xm, drop_nil → Xn, contains_nil → Xo, contains_cons → Xp
open Option renaming bind_some → X7, map_some → X8, map_none → X9
open Bool renaming or_false → Xq, false_or → Xr, or_true → Xs, true_or → Xt, false_eq_true → XC, not_true → XD, not_false → XE, and_true → XF, true_and → XG, and_self → XH
open Nat renaming reduceEqDiff → Xu, reduceAdd → Xv, reduceSub → Xw, reduceMul → Xx, reduceLT → Xy, reduceLeDiff → Xz, reduceBNe → XA, reduceBEq → XB, zero_add → XL, add_zero → XM
open UInt8 renaming reduceToNat → XJ
open Int renaming cast_ofNat_Int → XK, reduceToNat → XN, reduceLT → XO, reduceLE → XP, reduceNeg → XQ, reduceEq → XR, reduceNe → XS
set_option linter.unusedSimpArgs false
set_option linter.unusedVariables false
set_option maxRecDepth 20000
set_option maxHeartbeats 4000000

def rowD (p : Int × Int) : List AV := [.int .i64 p.1, .int .i64 p.2]

theorem law_LedgerArguments (l : List Int) (hl : ∀ x ∈ l, Okk .i64 x) (_ : l.length ≤ 9223372036854775807) (hw : Int) (hhw : Okk .i64 hw) (b : Int) (hb : Okk .i64 b) (ac : Int) (hac : Okk .i64 ac) (cu : Int) (hcu : Okk .i64 cu) (fr : Int) (hfr : Okk .i64 fr) (to : Int) (hto : Okk .i64 to) :
    ACalls Try.prog 6 [.ints .i64 l, .int .i64 hw, .int .i64 b, .int .i64 ac, .int .i64 cu, .int .i64 fr, .int .i64 to] [] (fun r _ => r = .bool true) := by
  have kS := fun σ => r_script l hl 6 (by decide) σ
  have hG := scr_gen hl 6
  have hSl : (scrI l 6).length ≤ 6 := by rw [scrI_len]; omega
  generalize scrI l 6 = ops at *
  have lm : (ops.map opA).length = ops.length := List.length_map _
  have kL := lives16
  have kA := fun σ => around ac 5 σ (by decide)
  have kF := fun σ => around fr 12 σ (by decide)
  have kT := fun σ => around to 12 σ (by decide)
  have kC := fun σ => around cu 2 σ (by decide)
  have bF := aroundI_bound hfr (m := 12) (by decide)
  have bT := aroundI_bound hto (m := 12) (by decide)
  generalize aroundI ac 5 = wa at *
  generalize aroundI fr 12 = wf at *
  generalize aroundI to 12 = wt at *
  generalize aroundI cu 2 = wc at *
  have ww : IntKind.i64.wrap (100 + wf) = 100 + wf := wrap_i64 (by omega) (by omega)
  have wv : IntKind.i64.wrap (100 + wt) = 100 + wt := wrap_i64 (by omega) (by omega)
  have kQ := fun σ => r_spE ⟨100, 0, 1, 1, 7, 0⟩ hw b σ
  generalize spE ⟨100, 0, 1, 1, 7, 0⟩ (aroundI hw 7) b = sp at *
  refine acalls_of_awp (fn := Try.f6) Try.call6 Try.func6 rfl (by simp [Try.ntmps6]) ?_
  simp only [Try.ntmps6, Try.results6]
  refine awp_seq (awp_vc (by kernel_rfl) ?_)
  simp -implicitDefEqProofs only [seqA_normal,seqA_ret,seqA_exit,Q0,Q1,Q2,Q3,Q4,Q5,Q6,Q7,Q8,Q9,Qa,Qb,Qc,Qd,Qe,Qf,Qg,Qh,Qi,Qj,Qk,Ql,Qm,Qn,Qo,Qp,Qq,Qr,Qs,Qt,Qu,Qv,Qw,Qx,Qy,Qz,QA,QB,QC,QD,QE,QF,QG,QH,QI,QJ,QK,QL,QM,QN,QO,QP,QQ,QR,QS,QT,QU,QV,QW,QX,QY,QZ,X0,X1,X2,X3,X4,X5,X6,X7,X8,X9,Xa,Xb,Xc,Xd,Xe,Xf,Xg,Xh,Xi,Xj,Xk,Xl,Xm,Xn,Xo,Xp,Xq,Xr,Xs,Xt,Xu,Xv,Xw,Xx,Xy,Xz,XA,XB,reduceIte,reduceCtorEq,XC,XD,XE,XF,XG,XH,XI,XJ,XK,XL,XM,XN,XO,XP,XQ,XR,XS,XT,XU,XV,XW,XX,XY,XZ,Y0,Try.q3,Try.q4,Try.q22,Try.q23,Try.q25,Try.q27,Try.q29,Try.q31,Try.underlying33,Try.q33,Try.underlying36,Try.q36,Try.underlying37,Try.q37,Try.q48,Try.underlying50,Try.q50,Try.underlying53,Try.q53,Try.q54]
  refine awp_seq (awp_vc (by kernel_rfl) ?_)
  simp -implicitDefEqProofs only [seqA_normal,seqA_ret,seqA_exit,Q0,Q1,Q2,Q3,Q4,Q5,Q6,Q7,Q8,Q9,Qa,Qb,Qc,Qd,Qe,Qf,Qg,Qh,Qi,Qj,Qk,Ql,Qm,Qn,Qo,Qp,Qq,Qr,Qs,Qt,Qu,Qv,Qw,Qx,Qy,Qz,QA,QB,QC,QD,QE,QF,QG,QH,QI,QJ,QK,QL,QM,QN,QO,QP,QQ,QR,QS,QT,QU,QV,QW,QX,QY,QZ,X0,X1,X2,X3,X4,X5,X6,X7,X8,X9,Xa,Xb,Xc,Xd,Xe,Xf,Xg,Xh,Xi,Xj,Xk,Xl,Xm,Xn,Xo,Xp,Xq,Xr,Xs,Xt,Xu,Xv,Xw,Xx,Xy,Xz,XA,XB,reduceIte,reduceCtorEq,XC,XD,XE,XF,XG,XH,XI,XJ,XK,XL,XM,XN,XO,XP,XQ,XR,XS,XT,XU,XV,XW,XX,XY,XZ,Y0,Try.q3,Try.q4,Try.q22,Try.q23,Try.q25,Try.q27,Try.q29,Try.q31,Try.underlying33,Try.q33,Try.underlying36,Try.q36,Try.underlying37,Try.q37,Try.q48,Try.underlying50,Try.q50,Try.underlying53,Try.q53,Try.q54]
  refine ACalls.mono (c_NewL _) ?_
  rintro r s0 ⟨id, j, rfl, hx0, -, -, hL0⟩
  simp -implicitDefEqProofs only [seqA_normal,Q0,Q1,Q2,Q3,Q4,Q5,Q6,Q7,Q8,Q9,Qa,Qb,Qc,Qd,Qe,Qf,Qg,Qh,Qi,Qj,Qk,Ql,Qm,Qn,Qo,Qp,Qq,Qr,Qs,Qt,Qu,Qv,Qw,Qx,Qy,Qz,QA,QB,QC,QD,QE,QF,QG,QH,QI,QJ,QK,QL,QM,QN,QO,QP,QQ,QR,QS,QT,QU,QV,QW,QX,QY,QZ,X0,X1,X2,X3,X4,X5,X6,X7,X8,X9,Xa,Xb,Xc,Xd,Xe,Xf,Xg,Xh,Xi,Xj,Xk,Xl,Xm,Xn,Xo,Xp,Xq,Xr,Xs,Xt,Xu,Xv,Xw,Xx,Xy,Xz,XA,XB,reduceIte,reduceCtorEq,XC,XD,XE,XF,XG,XH,XI,XJ,XK,XL,XM,XN,XO,XP,XQ,XR,XS,XT,XU,XV,XW,XX,XY,XZ,Y0,Try.q3,Try.q4,Try.q22,Try.q23,Try.q25,Try.q27,Try.q29,Try.q31,Try.underlying33,Try.q33,Try.underlying36,Try.q36,Try.underlying37,Try.q37,Try.q48,Try.underlying50,Try.q50,Try.underlying53,Try.q53,Try.q54]
  refine awp_seq (awp_vc (by kernel_rfl) ?_)
  simp -implicitDefEqProofs only [seqA_normal,Q0,Q1,Q2,Q3,Q4,Q5,Q6,Q7,Q8,Q9,Qa,Qb,Qc,Qd,Qe,Qf,Qg,Qh,Qi,Qj,Qk,Ql,Qm,Qn,Qo,Qp,Qq,Qr,Qs,Qt,Qu,Qv,Qw,Qx,Qy,Qz,QA,QB,QC,QD,QE,QF,QG,QH,QI,QJ,QK,QL,QM,QN,QO,QP,QQ,QR,QS,QT,QU,QV,QW,QX,QY,QZ,X0,X1,X2,X3,X4,X5,X6,X7,X8,X9,Xa,Xb,Xc,Xd,Xe,Xf,Xg,Xh,Xi,Xj,Xk,Xl,Xm,Xn,Xo,Xp,Xq,Xr,Xs,Xt,Xu,Xv,Xw,Xx,Xy,Xz,XA,XB,reduceIte,reduceCtorEq,XC,XD,XE,XF,XG,XH,XI,XJ,XK,XL,XM,XN,XO,XP,XQ,XR,XS,XT,XU,XV,XW,XX,XY,XZ,Y0,Try.q3,Try.q4,Try.q22,Try.q23,Try.q25,Try.q27,Try.q29,Try.q31,Try.underlying33,Try.q33,Try.underlying36,Try.q36,Try.underlying37,Try.q37,Try.q48,Try.underlying50,Try.q50,Try.underlying53,Try.q53,Try.q54]
  refine awp_shut (fun _ => False) [(16, .ptr s0.length 0), (15, .ptr id 0), (0, .ints .i64 l), (1, .int .i64 hw), (2, .int .i64 b), (3, .int .i64 ac), (4, .int .i64 cu), (5, .int .i64 fr), (6, .int .i64 to)] _ (sh_new s0) ⟨⟨_, rfl, .same _⟩, ⟨_, rfl, .same _⟩, ⟨_, rfl, .same _⟩, ⟨_, rfl, .same _⟩, ⟨_, rfl, .same _⟩, ⟨_, rfl, .same _⟩, ⟨_, rfl, .same _⟩, ⟨_, rfl, .same _⟩, ⟨_, rfl, .same _⟩, trivial⟩ ?_
  have hT0 := two_new hL0
  generalize s0 ++ [.box [esV [], .nils]] = s1 at hT0
  generalize s0.length = m at *
  refine awp_seq (awp_vc (by kernel_rfl) ?_)
  simp -implicitDefEqProofs only [seqA_normal,seqA_ret,seqA_exit,Q0,Q1,Q2,Q3,Q4,Q5,Q6,Q7,Q8,Q9,Qa,Qb,Qc,Qd,Qe,Qf,Qg,Qh,Qi,Qj,Qk,Ql,Qm,Qn,Qo,Qp,Qq,Qr,Qs,Qt,Qu,Qv,Qw,Qx,Qy,Qz,QA,QB,QC,QD,QE,QF,QG,QH,QI,QJ,QK,QL,QM,QN,QO,QP,QQ,QR,QS,QT,QU,QV,QW,QX,QY,QZ,X0,X1,X2,X3,X4,X5,X6,X7,X8,X9,Xa,Xb,Xc,Xd,Xe,Xf,Xg,Xh,Xi,Xj,Xk,Xl,Xm,Xn,Xo,Xp,Xq,Xr,Xs,Xt,Xu,Xv,Xw,Xx,Xy,Xz,XA,XB,reduceIte,reduceCtorEq,XC,XD,XE,XF,XG,XH,XI,XJ,XK,XL,XM,XN,XO,XP,XQ,XR,XS,XT,XU,XV,XW,XX,XY,XZ,Y0,Try.q3,Try.q4,Try.q22,Try.q23,Try.q25,Try.q27,Try.q29,Try.q31,Try.underlying33,Try.q33,Try.underlying36,Try.q36,Try.underlying37,Try.q37,Try.q48,Try.underlying50,Try.q50,Try.underlying53,Try.q53,Try.q54]
  refine awp_seq (awp_vc (by kernel_rfl) ?_)
  simp -implicitDefEqProofs only [seqA_normal,seqA_ret,seqA_exit,Q0,Q1,Q2,Q3,Q4,Q5,Q6,Q7,Q8,Q9,Qa,Qb,Qc,Qd,Qe,Qf,Qg,Qh,Qi,Qj,Qk,Ql,Qm,Qn,Qo,Qp,Qq,Qr,Qs,Qt,Qu,Qv,Qw,Qx,Qy,Qz,QA,QB,QC,QD,QE,QF,QG,QH,QI,QJ,QK,QL,QM,QN,QO,QP,QQ,QR,QS,QT,QU,QV,QW,QX,QY,QZ,X0,X1,X2,X3,X4,X5,X6,X7,X8,X9,Xa,Xb,Xc,Xd,Xe,Xf,Xg,Xh,Xi,Xj,Xk,Xl,Xm,Xn,Xo,Xp,Xq,Xr,Xs,Xt,Xu,Xv,Xw,Xx,Xy,Xz,XA,XB,reduceIte,reduceCtorEq,XC,XD,XE,XF,XG,XH,XI,XJ,XK,XL,XM,XN,XO,XP,XQ,XR,XS,XT,XU,XV,XW,XX,XY,XZ,Y0,Try.q3,Try.q4,Try.q22,Try.q23,Try.q25,Try.q27,Try.q29,Try.q31,Try.underlying33,Try.q33,Try.underlying36,Try.q36,Try.underlying37,Try.q37,Try.q48,Try.underlying50,Try.q50,Try.underlying53,Try.q53,Try.q54]
  refine acalls_then (kS _) ?_
  simp -implicitDefEqProofs only [seqA_normal,Q0,Q1,Q2,Q3,Q4,Q5,Q6,Q7,Q8,Q9,Qa,Qb,Qc,Qd,Qe,Qf,Qg,Qh,Qi,Qj,Qk,Ql,Qm,Qn,Qo,Qp,Qq,Qr,Qs,Qt,Qu,Qv,Qw,Qx,Qy,Qz,QA,QB,QC,QD,QE,QF,QG,QH,QI,QJ,QK,QL,QM,QN,QO,QP,QQ,QR,QS,QT,QU,QV,QW,QX,QY,QZ,X0,X1,X2,X3,X4,X5,X6,X7,X8,X9,Xa,Xb,Xc,Xd,Xe,Xf,Xg,Xh,Xi,Xj,Xk,Xl,Xm,Xn,Xo,Xp,Xq,Xr,Xs,Xt,Xu,Xv,Xw,Xx,Xy,Xz,XA,XB,reduceIte,reduceCtorEq,XC,XD,XE,XF,XG,XH,XI,XJ,XK,XL,XM,XN,XO,XP,XQ,XR,XS,XT,XU,XV,XW,XX,XY,XZ,Y0,Try.q3,Try.q4,Try.q22,Try.q23,Try.q25,Try.q27,Try.q29,Try.q31,Try.underlying33,Try.q33,Try.underlying36,Try.q36,Try.underlying37,Try.q37,Try.q48,Try.underlying50,Try.q50,Try.underlying53,Try.q53,Try.q54]
  refine awp_cutK (fun e' s' => (∃ es dn d D, NOk 18 es ∧ dn.length ≤ 12 ∧ Two s' id j m d D es dn) ∧ Env.sub [(16, .ptr m 0), (15, .ptr id 0), (1, .int .i64 hw), (2, .int .i64 b), (3, .int .i64 ac), (4, .int .i64 cu), (5, .int .i64 fr), (6, .int .i64 to)] e') ?_ ?_
  · refine awp_seq (awp_vc (by kernel_rfl) ?_)
    simp -implicitDefEqProofs only [seqA_normal,seqA_ret,seqA_exit,Q0,Q1,Q2,Q3,Q4,Q5,Q6,Q7,Q8,Q9,Qa,Qb,Qc,Qd,Qe,Qf,Qg,Qh,Qi,Qj,Qk,Ql,Qm,Qn,Qo,Qp,Qq,Qr,Qs,Qt,Qu,Qv,Qw,Qx,Qy,Qz,QA,QB,QC,QD,QE,QF,QG,QH,QI,QJ,QK,QL,QM,QN,QO,QP,QQ,QR,QS,QT,QU,QV,QW,QX,QY,QZ,X0,X1,X2,X3,X4,X5,X6,X7,X8,X9,Xa,Xb,Xc,Xd,Xe,Xf,Xg,Xh,Xi,Xj,Xk,Xl,Xm,Xn,Xo,Xp,Xq,Xr,Xs,Xt,Xu,Xv,Xw,Xx,Xy,Xz,XA,XB,reduceIte,reduceCtorEq,XC,XD,XE,XF,XG,XH,XI,XJ,XK,XL,XM,XN,XO,XP,XQ,XR,XS,XT,XU,XV,XW,XX,XY,XZ,Y0,Try.q3,Try.q4,Try.q22,Try.q23,Try.q25,Try.q27,Try.q29,Try.q31,Try.underlying33,Try.q33,Try.underlying36,Try.q36,Try.underlying37,Try.q37,Try.q48,Try.underlying50,Try.q50,Try.underlying53,Try.q53,Try.q54]
    refine awp_blk ?_
    refine awp_loopW (fun i : Nat => [(18, .int .i64 i), (17, .rows 3 (ops.map opA)), (16, .ptr m 0), (15, .ptr id 0), (1, .int .i64 hw), (2, .int .i64 b), (3, .int .i64 ac), (4, .int .i64 cu), (5, .int .i64 fr), (6, .int .i64 to)]) (fun i s => i ≤ ops.length ∧ ∃ es dn d D, NOk (3 * i) es ∧ dn.length ≤ 2 * i ∧ Two s id j m d D es dn) (fun i => ops.length - i) 0 (by simp [sub_cons, sub_nil, get_cons]) ⟨by omega, [], [], m, .nils, ⟨by simp, by simp⟩, by simp, hT0⟩ ?_
    rintro i s ⟨hi, es, dn, d, D, hOk, hdl, hT⟩
    by_cases hlt : i < ops.length
    · have d1 : decide ((i : Int) < (ops.length : Int)) = true := decide_eq_true (by omega)
      have hrow : (ops.map opA).getD (i : Int).toNat [] = opA ops[i] := by rw [Int.toNat_natCast, getD_get (by simpa using hlt)]; simp
      have wi : IntKind.i64.wrap ((i : Int) + 1) = ((i + 1 : Nat) : Int) := by rw [wrap_i64 (by omega) (by omega)]; rfl
      have bi : (0 : Int) ≤ (i : Int) ∧ (i : Int) < (ops.length : Int) := by omega
      have hg := hG _ (List.getElem_mem hlt)
      generalize ops[i] = o at *
      have hlen := hOk.len
      have hes := hg.len
      have hOk2 := (hOk.op (by omega) dn hes).up (C := 3 * (i + 1)) (by omega)
      have hdl2 := dn_len es dn o
      obtain ⟨s2, d2, D2, hT2, -, -, kd⟩ := r_do es dn (by omega) hOk.val (by omega) o (by omega) hg.okx s id j m d D hT
      generalize (opR es dn o).2 = dn2 at *
      generalize (opR es dn o).1 = es2 at *
      have hrow2 : (ops.map opA).getD (i : Int).toNat [] = [.rows 6 (o.es.map entA), .int .i64 o.ix, .int .i64 o.dy] := hrow
      have ht3 : ∀ x y z : AV, ([x, y, z] : List AV).take 3 = [x, y, z] := fun _ _ _ => rfl
      unfold opA at kd
      refine awp_vc (by kernel_rfl) ?_
      simp -implicitDefEqProofs only [d1,lm,hrow2,ht3,Q0,Q1,Q2,Q3,Q4,Q5,Q6,Q7,Q8,Q9,Qa,Qb,Qc,Qd,Qe,Qf,Qg,Qh,Qi,Qj,Qk,Ql,Qm,Qn,Qo,Qp,Qq,Qr,Qs,Qt,Qu,Qv,Qw,Qx,Qy,Qz,QA,QB,QC,QD,QE,QF,QG,QH,QI,QJ,QK,QL,QM,QN,QO,QP,QQ,QR,QS,QT,QU,QV,QW,QX,QY,QZ,X0,X1,X2,X3,X4,X5,X6,X7,X8,X9,Xa,Xb,Xc,Xd,Xe,Xf,Xg,Xh,Xi,Xj,Xk,Xl,Xm,Xn,Xo,Xp,Xq,Xr,Xs,Xt,Xu,Xv,Xw,Xx,Xy,Xz,XA,XB,reduceIte,reduceCtorEq,XC,XD,XE,XF,XG,XH,XI,XJ,XK,XL,XM,XN,XO,XP,XQ,XR,XS,XT,XU,XV,XW,XX,XY,XZ,Y0,Try.q3,Try.q4,Try.q22,Try.q23,Try.q25,Try.q27,Try.q29,Try.q31,Try.underlying33,Try.q33,Try.underlying36,Try.q36,Try.underlying37,Try.q37,Try.q48,Try.underlying50,Try.q50,Try.underlying53,Try.q53,Try.q54]
      refine ⟨bi, ?_⟩
      refine acalls_then (kd) ?_
      simp -implicitDefEqProofs only [wi,Q0,Q1,Q2,Q3,Q4,Q5,Q6,Q7,Q8,Q9,Qa,Qb,Qc,Qd,Qe,Qf,Qg,Qh,Qi,Qj,Qk,Ql,Qm,Qn,Qo,Qp,Qq,Qr,Qs,Qt,Qu,Qv,Qw,Qx,Qy,Qz,QA,QB,QC,QD,QE,QF,QG,QH,QI,QJ,QK,QL,QM,QN,QO,QP,QQ,QR,QS,QT,QU,QV,QW,QX,QY,QZ,X0,X1,X2,X3,X4,X5,X6,X7,X8,X9,Xa,Xb,Xc,Xd,Xe,Xf,Xg,Xh,Xi,Xj,Xk,Xl,Xm,Xn,Xo,Xp,Xq,Xr,Xs,Xt,Xu,Xv,Xw,Xx,Xy,Xz,XA,XB,reduceIte,reduceCtorEq,XC,XD,XE,XF,XG,XH,XI,XJ,XK,XL,XM,XN,XO,XP,XQ,XR,XS,XT,XU,XV,XW,XX,XY,XZ,Y0,Try.q3,Try.q4,Try.q22,Try.q23,Try.q25,Try.q27,Try.q29,Try.q31,Try.underlying33,Try.q33,Try.underlying36,Try.q36,Try.underlying37,Try.q37,Try.q48,Try.underlying50,Try.q50,Try.underlying53,Try.q53,Try.q54]
      exact ⟨i + 1, by simp [sub_cons, sub_nil, get_cons], ⟨by omega, es2, dn2, d2, D2, hOk2, by omega, hT2⟩, by omega⟩
    · have d1 : decide ((i : Int) < (ops.length : Int)) = false := decide_eq_false (by omega)
      refine awp_vc (by kernel_rfl) ?_
      simp -implicitDefEqProofs only [d1,lm,seqA_normal,cutK_normal,Q0,Q1,Q2,Q3,Q4,Q5,Q6,Q7,Q8,Q9,Qa,Qb,Qc,Qd,Qe,Qf,Qg,Qh,Qi,Qj,Qk,Ql,Qm,Qn,Qo,Qp,Qq,Qr,Qs,Qt,Qu,Qv,Qw,Qx,Qy,Qz,QA,QB,QC,QD,QE,QF,QG,QH,QI,QJ,QK,QL,QM,QN,QO,QP,QQ,QR,QS,QT,QU,QV,QW,QX,QY,QZ,X0,X1,X2,X3,X4,X5,X6,X7,X8,X9,Xa,Xb,Xc,Xd,Xe,Xf,Xg,Xh,Xi,Xj,Xk,Xl,Xm,Xn,Xo,Xp,Xq,Xr,Xs,Xt,Xu,Xv,Xw,Xx,Xy,Xz,XA,XB,reduceIte,reduceCtorEq,XC,XD,XE,XF,XG,XH,XI,XJ,XK,XL,XM,XN,XO,XP,XQ,XR,XS,XT,XU,XV,XW,XX,XY,XZ,Y0,Try.q3,Try.q4,Try.q22,Try.q23,Try.q25,Try.q27,Try.q29,Try.q31,Try.underlying33,Try.q33,Try.underlying36,Try.q36,Try.underlying37,Try.q37,Try.q48,Try.underlying50,Try.q50,Try.underlying53,Try.q53,Try.q54]
      exact ⟨es, dn, d, D, hOk.up (by omega), by omega, hT⟩
  rintro e' s' ⟨⟨es, dn, d, D, hOk, hdl, hT⟩, he⟩
  refine awp_subJ _ he ?_
  clear he e' hL0 hx0 hT0 kS hG lm hSl ops
  refine awp_seq (awp_vc (by kernel_rfl) ?_)
  simp -implicitDefEqProofs only [seqA_normal,seqA_ret,seqA_exit,Q0,Q1,Q2,Q3,Q4,Q5,Q6,Q7,Q8,Q9,Qa,Qb,Qc,Qd,Qe,Qf,Qg,Qh,Qi,Qj,Qk,Ql,Qm,Qn,Qo,Qp,Qq,Qr,Qs,Qt,Qu,Qv,Qw,Qx,Qy,Qz,QA,QB,QC,QD,QE,QF,QG,QH,QI,QJ,QK,QL,QM,QN,QO,QP,QQ,QR,QS,QT,QU,QV,QW,QX,QY,QZ,X0,X1,X2,X3,X4,X5,X6,X7,X8,X9,Xa,Xb,Xc,Xd,Xe,Xf,Xg,Xh,Xi,Xj,Xk,Xl,Xm,Xn,Xo,Xp,Xq,Xr,Xs,Xt,Xu,Xv,Xw,Xx,Xy,Xz,XA,XB,reduceIte,reduceCtorEq,XC,XD,XE,XF,XG,XH,XI,XJ,XK,XL,XM,XN,XO,XP,XQ,XR,XS,XT,XU,XV,XW,XX,XY,XZ,Y0,Try.q3,Try.q4,Try.q22,Try.q23,Try.q25,Try.q27,Try.q29,Try.q31,Try.underlying33,Try.q33,Try.underlying36,Try.q36,Try.underlying37,Try.q37,Try.q48,Try.underlying50,Try.q50,Try.underlying53,Try.q53,Try.q54]
  refine awp_kill s'.length (s'.length + 1) (by omega) (by simp) [(19, .iptr [.int .i64 100, .int .i64 0, .int .i64 1, .int .i64 1, .int .i64 7, .int .i64 0]), (16, .ptr m 0), (15, .ptr id 0), (1, .int .i64 hw), (2, .int .i64 b), (3, .int .i64 ac), (4, .int .i64 cu), (5, .int .i64 fr), (6, .int .i64 to)]
    ⟨⟨_, rfl, Sh.boxAll (by simp) ⟨by omega, by omega⟩⟩, ⟨_, rfl, .same _⟩, ⟨_, rfl, .same _⟩, ⟨_, rfl, .same _⟩, ⟨_, rfl, .same _⟩, ⟨_, rfl, .same _⟩, ⟨_, rfl, .same _⟩, ⟨_, rfl, .same _⟩, ⟨_, rfl, .same _⟩, trivial⟩ ?_
  have hx4 : Ext s' (killS (s' ++ [AObj.box [.int .i64 100, .int .i64 0, .int .i64 1, .int .i64 1, .int .i64 7, .int .i64 0]]) s'.length (s'.length + 1)) := killS_ext (Ext.app _ _) (by omega) (by simp) (by omega)
  generalize killS (s' ++ [AObj.box [.int .i64 100, .int .i64 0, .int .i64 1, .int .i64 1, .int .i64 7, .int .i64 0]]) s'.length (s'.length + 1) = s4 at hx4
  have hT4 := hT.ext hx4
  clear hT hx4
  unfold entA at kQ
  simp only at kQ
  refine awp_seq (awp_draws [7, 8, 200000, 200001, 200004] Try.mixed (by kernel_rfl) ?_)
  simp -implicitDefEqProofs only [Q0,Q1,Q2,Q3,Q4,Q5,Q6,Q7,Q8,Q9,Qa,Qb,Qc,Qd,Qe,Qf,Qg,Qh,Qi,Qj,Qk,Ql,Qm,Qn,Qo,Qp,Qq,Qr,Qs,Qt,Qu,Qv,Qw,Qx,Qy,Qz,QA,QB,QC,QD,QE,QF,QG,QH,QI,QJ,QK,QL,QM,QN,QO,QP,QQ,QR,QS,QT,QU,QV,QW,QX,QY,QZ,X0,X1,X2,X3,X4,X5,X6,X7,X8,X9,Xa,Xb,Xc,Xd,Xe,Xf,Xg,Xh,Xi,Xj,Xk,Xl,Xm,Xn,Xo,Xp,Xq,Xr,Xs,Xt,Xu,Xv,Xw,Xx,Xy,Xz,XA,XB,reduceIte,reduceCtorEq,XC,XD,XE,XF,XG,XH,XI,XJ,XK,XL,XM,XN,XO,XP,XQ,XR,XS,XT,XU,XV,XW,XX,XY,XZ,Y0,Try.q3,Try.q4,Try.q22,Try.q23,Try.q25,Try.q27,Try.q29,Try.q31,Try.underlying33,Try.q33,Try.underlying36,Try.q36,Try.underlying37,Try.q37,Try.q48,Try.underlying50,Try.q50,Try.underlying53,Try.q53,Try.q54]
  refine dCall_of0 (kQ) ?_
  simp -implicitDefEqProofs only [seqA_normal,Q0,Q1,Q2,Q3,Q4,Q5,Q6,Q7,Q8,Q9,Qa,Qb,Qc,Qd,Qe,Qf,Qg,Qh,Qi,Qj,Qk,Ql,Qm,Qn,Qo,Qp,Qq,Qr,Qs,Qt,Qu,Qv,Qw,Qx,Qy,Qz,QA,QB,QC,QD,QE,QF,QG,QH,QI,QJ,QK,QL,QM,QN,QO,QP,QQ,QR,QS,QT,QU,QV,QW,QX,QY,QZ,X0,X1,X2,X3,X4,X5,X6,X7,X8,X9,Xa,Xb,Xc,Xd,Xe,Xf,Xg,Xh,Xi,Xj,Xk,Xl,Xm,Xn,Xo,Xp,Xq,Xr,Xs,Xt,Xu,Xv,Xw,Xx,Xy,Xz,XA,XB,reduceIte,reduceCtorEq,XC,XD,XE,XF,XG,XH,XI,XJ,XK,XL,XM,XN,XO,XP,XQ,XR,XS,XT,XU,XV,XW,XX,XY,XZ,Y0,Try.q3,Try.q4,Try.q22,Try.q23,Try.q25,Try.q27,Try.q29,Try.q31,Try.underlying33,Try.q33,Try.underlying36,Try.q36,Try.underlying37,Try.q37,Try.q48,Try.underlying50,Try.q50,Try.underlying53,Try.q53,Try.q54]
  refine awp_kill s4.length (s4.length + 1) (by omega) (by simp) [(20, .iptr [.rows 6 [[.int .i64 100, .int .i64 0, .int .i64 1, .int .i64 1, .int .i64 7, .int .i64 0], [.int .i64 sp.day, .int .i64 sp.fr, .int .i64 sp.to, .int .i64 sp.cur, .int .i64 sp.amt, .int .i64 sp.note]], .int .i64 0, .int .i64 0]), (16, .ptr m 0), (15, .ptr id 0), (3, .int .i64 ac), (4, .int .i64 cu), (5, .int .i64 fr), (6, .int .i64 to)]
    ⟨⟨_, rfl, Sh.boxAll (by simp) ⟨by omega, by omega⟩⟩, ⟨_, rfl, .same _⟩, ⟨_, rfl, .same _⟩, ⟨_, rfl, .same _⟩, ⟨_, rfl, .same _⟩, ⟨_, rfl, .same _⟩, ⟨_, rfl, .same _⟩, trivial⟩ ?_
  have hx5 : Ext s4 (killS (s4 ++ [AObj.box [.rows 6 [[.int .i64 100, .int .i64 0, .int .i64 1, .int .i64 1, .int .i64 7, .int .i64 0], [.int .i64 sp.day, .int .i64 sp.fr, .int .i64 sp.to, .int .i64 sp.cur, .int .i64 sp.amt, .int .i64 sp.note]], .int .i64 0, .int .i64 0]]) s4.length (s4.length + 1)) := killS_ext (Ext.app _ _) (by omega) (by simp) (by omega)
  generalize killS (s4 ++ [AObj.box [.rows 6 [[.int .i64 100, .int .i64 0, .int .i64 1, .int .i64 1, .int .i64 7, .int .i64 0], [.int .i64 sp.day, .int .i64 sp.fr, .int .i64 sp.to, .int .i64 sp.cur, .int .i64 sp.amt, .int .i64 sp.note]], .int .i64 0, .int .i64 0]]) s4.length (s4.length + 1) = s5 at hx5
  have hT5 := hT4.ext hx5
  clear hT4 hx5 kQ
  obtain ⟨s6, d2, D2, hT6, -, -, kd1⟩ := r_do es dn (by have := hOk.len; omega) hOk.val (by omega) ⟨[⟨100, 0, 1, 1, 7, 0⟩, sp], 0, 0⟩ (by simp) (i64_okk (n := 0) (by omega) (by omega)) s5 id j m d D hT5
  have hOk2 := hOk.op (by omega) dn (o := ⟨[⟨100, 0, 1, 1, 7, 0⟩, sp], 0, 0⟩) (by simp)
  have hdl2 := dn_len es dn ⟨[⟨100, 0, 1, 1, 7, 0⟩, sp], 0, 0⟩
  generalize opR es dn ⟨[⟨100, 0, 1, 1, 7, 0⟩, sp], 0, 0⟩ = q2 at *
  obtain ⟨es2, dn2⟩ := q2
  simp only at hT6 hOk2 hdl2
  obtain ⟨s7, d3, D3, hT7, kd2⟩ := r_doN es2 dn2 (by have := hOk2.len; omega) hOk2.val (by omega) ac fr hac s6 id j m d2 D2 hT6
  have hOk3 := hOk2.op (by omega) dn2 (o := ⟨[], ac, fr⟩) (by simp)
  have hdl3 := dn_len es2 dn2 ⟨[], ac, fr⟩
  generalize opR es2 dn2 ⟨[], ac, fr⟩ = q3 at *
  obtain ⟨es3, dn3⟩ := q3
  simp only at hT7 hOk3 hdl3
  have hl3 := hOk3.len
  have kA3 := fun σ => around ac ((es3.length : Int) + 1) σ (by omega)
  have bA3 := aroundI_bound hac (m := (es3.length : Int) + 1) (by omega)
  generalize aroundI ac ((es3.length : Int) + 1) = n3 at *
  obtain ⟨s8, d4, D4, hT8, kd3⟩ := r_doN es3 dn3 (by omega) hOk3.val (by omega) n3 to (i64_okk (by omega) (by omega)) s7 id j m d3 D3 hT7
  have hOk4 := hOk3.op (by omega) dn3 (o := ⟨[], n3, to⟩) (by simp)
  generalize opR es3 dn3 ⟨[], n3, to⟩ = q4 at *
  obtain ⟨es4, dn4⟩ := q4
  simp only at hT8 hOk4
  have hl4 := hOk4.len
  have g3 := hT7.rl.box
  have lm3 : (es3.map entA).length = es3.length := List.length_map _
  have w3 : IntKind.i64.wrap ((es3.length : Int) + 1) = (es3.length : Int) + 1 := wrap_i64 (by omega) (by omega)
  refine awp_seq (awp_vc (by kernel_rfl) ?_)
  simp -implicitDefEqProofs only [Q0,Q1,Q2,Q3,Q4,Q5,Q6,Q7,Q8,Q9,Qa,Qb,Qc,Qd,Qe,Qf,Qg,Qh,Qi,Qj,Qk,Ql,Qm,Qn,Qo,Qp,Qq,Qr,Qs,Qt,Qu,Qv,Qw,Qx,Qy,Qz,QA,QB,QC,QD,QE,QF,QG,QH,QI,QJ,QK,QL,QM,QN,QO,QP,QQ,QR,QS,QT,QU,QV,QW,QX,QY,QZ,X0,X1,X2,X3,X4,X5,X6,X7,X8,X9,Xa,Xb,Xc,Xd,Xe,Xf,Xg,Xh,Xi,Xj,Xk,Xl,Xm,Xn,Xo,Xp,Xq,Xr,Xs,Xt,Xu,Xv,Xw,Xx,Xy,Xz,XA,XB,reduceIte,reduceCtorEq,XC,XD,XE,XF,XG,XH,XI,XJ,XK,XL,XM,XN,XO,XP,XQ,XR,XS,XT,XU,XV,XW,XX,XY,XZ,Y0,Try.q3,Try.q4,Try.q22,Try.q23,Try.q25,Try.q27,Try.q29,Try.q31,Try.underlying33,Try.q33,Try.underlying36,Try.q36,Try.underlying37,Try.q37,Try.q48,Try.underlying50,Try.q50,Try.underlying53,Try.q53,Try.q54]
  refine acalls_then (kA _) ?_
  simp -implicitDefEqProofs only [seqA_normal,Q0,Q1,Q2,Q3,Q4,Q5,Q6,Q7,Q8,Q9,Qa,Qb,Qc,Qd,Qe,Qf,Qg,Qh,Qi,Qj,Qk,Ql,Qm,Qn,Qo,Qp,Qq,Qr,Qs,Qt,Qu,Qv,Qw,Qx,Qy,Qz,QA,QB,QC,QD,QE,QF,QG,QH,QI,QJ,QK,QL,QM,QN,QO,QP,QQ,QR,QS,QT,QU,QV,QW,QX,QY,QZ,X0,X1,X2,X3,X4,X5,X6,X7,X8,X9,Xa,Xb,Xc,Xd,Xe,Xf,Xg,Xh,Xi,Xj,Xk,Xl,Xm,Xn,Xo,Xp,Xq,Xr,Xs,Xt,Xu,Xv,Xw,Xx,Xy,Xz,XA,XB,reduceIte,reduceCtorEq,XC,XD,XE,XF,XG,XH,XI,XJ,XK,XL,XM,XN,XO,XP,XQ,XR,XS,XT,XU,XV,XW,XX,XY,XZ,Y0,Try.q3,Try.q4,Try.q22,Try.q23,Try.q25,Try.q27,Try.q29,Try.q31,Try.underlying33,Try.q33,Try.underlying36,Try.q36,Try.underlying37,Try.q37,Try.q48,Try.underlying50,Try.q50,Try.underlying53,Try.q53,Try.q54]
  refine awp_seq (awp_vc (by kernel_rfl) ?_)
  simp -implicitDefEqProofs only [Q0,Q1,Q2,Q3,Q4,Q5,Q6,Q7,Q8,Q9,Qa,Qb,Qc,Qd,Qe,Qf,Qg,Qh,Qi,Qj,Qk,Ql,Qm,Qn,Qo,Qp,Qq,Qr,Qs,Qt,Qu,Qv,Qw,Qx,Qy,Qz,QA,QB,QC,QD,QE,QF,QG,QH,QI,QJ,QK,QL,QM,QN,QO,QP,QQ,QR,QS,QT,QU,QV,QW,QX,QY,QZ,X0,X1,X2,X3,X4,X5,X6,X7,X8,X9,Xa,Xb,Xc,Xd,Xe,Xf,Xg,Xh,Xi,Xj,Xk,Xl,Xm,Xn,Xo,Xp,Xq,Xr,Xs,Xt,Xu,Xv,Xw,Xx,Xy,Xz,XA,XB,reduceIte,reduceCtorEq,XC,XD,XE,XF,XG,XH,XI,XJ,XK,XL,XM,XN,XO,XP,XQ,XR,XS,XT,XU,XV,XW,XX,XY,XZ,Y0,Try.q3,Try.q4,Try.q22,Try.q23,Try.q25,Try.q27,Try.q29,Try.q31,Try.underlying33,Try.q33,Try.underlying36,Try.q36,Try.underlying37,Try.q37,Try.q48,Try.underlying50,Try.q50,Try.underlying53,Try.q53,Try.q54]
  refine acalls_then (kF _) ?_
  simp -implicitDefEqProofs only [ww,Q0,Q1,Q2,Q3,Q4,Q5,Q6,Q7,Q8,Q9,Qa,Qb,Qc,Qd,Qe,Qf,Qg,Qh,Qi,Qj,Qk,Ql,Qm,Qn,Qo,Qp,Qq,Qr,Qs,Qt,Qu,Qv,Qw,Qx,Qy,Qz,QA,QB,QC,QD,QE,QF,QG,QH,QI,QJ,QK,QL,QM,QN,QO,QP,QQ,QR,QS,QT,QU,QV,QW,QX,QY,QZ,X0,X1,X2,X3,X4,X5,X6,X7,X8,X9,Xa,Xb,Xc,Xd,Xe,Xf,Xg,Xh,Xi,Xj,Xk,Xl,Xm,Xn,Xo,Xp,Xq,Xr,Xs,Xt,Xu,Xv,Xw,Xx,Xy,Xz,XA,XB,reduceIte,reduceCtorEq,XC,XD,XE,XF,XG,XH,XI,XJ,XK,XL,XM,XN,XO,XP,XQ,XR,XS,XT,XU,XV,XW,XX,XY,XZ,Y0,Try.q3,Try.q4,Try.q22,Try.q23,Try.q25,Try.q27,Try.q29,Try.q31,Try.underlying33,Try.q33,Try.underlying36,Try.q36,Try.underlying37,Try.q37,Try.q48,Try.underlying50,Try.q50,Try.underlying53,Try.q53,Try.q54]
  refine acalls_then (kT _) ?_
  simp -implicitDefEqProofs only [wv,seqA_normal,Q0,Q1,Q2,Q3,Q4,Q5,Q6,Q7,Q8,Q9,Qa,Qb,Qc,Qd,Qe,Qf,Qg,Qh,Qi,Qj,Qk,Ql,Qm,Qn,Qo,Qp,Qq,Qr,Qs,Qt,Qu,Qv,Qw,Qx,Qy,Qz,QA,QB,QC,QD,QE,QF,QG,QH,QI,QJ,QK,QL,QM,QN,QO,QP,QQ,QR,QS,QT,QU,QV,QW,QX,QY,QZ,X0,X1,X2,X3,X4,X5,X6,X7,X8,X9,Xa,Xb,Xc,Xd,Xe,Xf,Xg,Xh,Xi,Xj,Xk,Xl,Xm,Xn,Xo,Xp,Xq,Xr,Xs,Xt,Xu,Xv,Xw,Xx,Xy,Xz,XA,XB,reduceIte,reduceCtorEq,XC,XD,XE,XF,XG,XH,XI,XJ,XK,XL,XM,XN,XO,XP,XQ,XR,XS,XT,XU,XV,XW,XX,XY,XZ,Y0,Try.q3,Try.q4,Try.q22,Try.q23,Try.q25,Try.q27,Try.q29,Try.q31,Try.underlying33,Try.q33,Try.underlying36,Try.q36,Try.underlying37,Try.q37,Try.q48,Try.underlying50,Try.q50,Try.underlying53,Try.q53,Try.q54]
  obtain ⟨acs, has⟩ : ∃ acs : List Int, acs = [ac, wa, 1048576] := ⟨_, rfl⟩
  have hal : acs.length = 3 := by rw [has]; rfl
  obtain ⟨ds, hds⟩ : ∃ ds : List (Int × Int), ds = [(fr, to), (100 + wf, 100 + wt), (0, 131072)] := ⟨_, rfl⟩
  have hdsl : (ds.map rowD).length = 3 := by rw [hds]; rfl
  have hdse : [[AV.int .i64 fr, .int .i64 to], [.int .i64 (100 + wf), .int .i64 (100 + wt)], [.int .i64 0, .int .i64 131072]] = ds.map rowD := by rw [hds]; rfl
  rw [← has, hdse]
  clear has hds hdse hT5 hT6
  unfold opA at kd1
  have ht3 : ∀ x y z : AV, ([x, y, z] : List AV).take 3 = [x, y, z] := fun _ _ _ => rfl
  simp only [List.map_cons, List.map_nil, entA] at kd1
  refine awp_seq (awp_vc (by kernel_rfl) ?_)
  simp -implicitDefEqProofs only [ht3,Q0,Q1,Q2,Q3,Q4,Q5,Q6,Q7,Q8,Q9,Qa,Qb,Qc,Qd,Qe,Qf,Qg,Qh,Qi,Qj,Qk,Ql,Qm,Qn,Qo,Qp,Qq,Qr,Qs,Qt,Qu,Qv,Qw,Qx,Qy,Qz,QA,QB,QC,QD,QE,QF,QG,QH,QI,QJ,QK,QL,QM,QN,QO,QP,QQ,QR,QS,QT,QU,QV,QW,QX,QY,QZ,X0,X1,X2,X3,X4,X5,X6,X7,X8,X9,Xa,Xb,Xc,Xd,Xe,Xf,Xg,Xh,Xi,Xj,Xk,Xl,Xm,Xn,Xo,Xp,Xq,Xr,Xs,Xt,Xu,Xv,Xw,Xx,Xy,Xz,XA,XB,reduceIte,reduceCtorEq,XC,XD,XE,XF,XG,XH,XI,XJ,XK,XL,XM,XN,XO,XP,XQ,XR,XS,XT,XU,XV,XW,XX,XY,XZ,Y0,Try.q3,Try.q4,Try.q22,Try.q23,Try.q25,Try.q27,Try.q29,Try.q31,Try.underlying33,Try.q33,Try.underlying36,Try.q36,Try.underlying37,Try.q37,Try.q48,Try.underlying50,Try.q50,Try.underlying53,Try.q53,Try.q54]
  refine acalls_then (kd1) ?_
  simp -implicitDefEqProofs only [Q0,Q1,Q2,Q3,Q4,Q5,Q6,Q7,Q8,Q9,Qa,Qb,Qc,Qd,Qe,Qf,Qg,Qh,Qi,Qj,Qk,Ql,Qm,Qn,Qo,Qp,Qq,Qr,Qs,Qt,Qu,Qv,Qw,Qx,Qy,Qz,QA,QB,QC,QD,QE,QF,QG,QH,QI,QJ,QK,QL,QM,QN,QO,QP,QQ,QR,QS,QT,QU,QV,QW,QX,QY,QZ,X0,X1,X2,X3,X4,X5,X6,X7,X8,X9,Xa,Xb,Xc,Xd,Xe,Xf,Xg,Xh,Xi,Xj,Xk,Xl,Xm,Xn,Xo,Xp,Xq,Xr,Xs,Xt,Xu,Xv,Xw,Xx,Xy,Xz,XA,XB,reduceIte,reduceCtorEq,XC,XD,XE,XF,XG,XH,XI,XJ,XK,XL,XM,XN,XO,XP,XQ,XR,XS,XT,XU,XV,XW,XX,XY,XZ,Y0,Try.q3,Try.q4,Try.q22,Try.q23,Try.q25,Try.q27,Try.q29,Try.q31,Try.underlying33,Try.q33,Try.underlying36,Try.q36,Try.underlying37,Try.q37,Try.q48,Try.underlying50,Try.q50,Try.underlying53,Try.q53,Try.q54]
  refine acalls_then (kd2) ?_
  simp -implicitDefEqProofs only [g3,lm3,w3,Q0,Q1,Q2,Q3,Q4,Q5,Q6,Q7,Q8,Q9,Qa,Qb,Qc,Qd,Qe,Qf,Qg,Qh,Qi,Qj,Qk,Ql,Qm,Qn,Qo,Qp,Qq,Qr,Qs,Qt,Qu,Qv,Qw,Qx,Qy,Qz,QA,QB,QC,QD,QE,QF,QG,QH,QI,QJ,QK,QL,QM,QN,QO,QP,QQ,QR,QS,QT,QU,QV,QW,QX,QY,QZ,X0,X1,X2,X3,X4,X5,X6,X7,X8,X9,Xa,Xb,Xc,Xd,Xe,Xf,Xg,Xh,Xi,Xj,Xk,Xl,Xm,Xn,Xo,Xp,Xq,Xr,Xs,Xt,Xu,Xv,Xw,Xx,Xy,Xz,XA,XB,reduceIte,reduceCtorEq,XC,XD,XE,XF,XG,XH,XI,XJ,XK,XL,XM,XN,XO,XP,XQ,XR,XS,XT,XU,XV,XW,XX,XY,XZ,Y0,Try.q3,Try.q4,Try.q22,Try.q23,Try.q25,Try.q27,Try.q29,Try.q31,Try.underlying33,Try.q33,Try.underlying36,Try.q36,Try.underlying37,Try.q37,Try.q48,Try.underlying50,Try.q50,Try.underlying53,Try.q53,Try.q54]
  refine acalls_then (kA3 _) ?_
  simp -implicitDefEqProofs only [Q0,Q1,Q2,Q3,Q4,Q5,Q6,Q7,Q8,Q9,Qa,Qb,Qc,Qd,Qe,Qf,Qg,Qh,Qi,Qj,Qk,Ql,Qm,Qn,Qo,Qp,Qq,Qr,Qs,Qt,Qu,Qv,Qw,Qx,Qy,Qz,QA,QB,QC,QD,QE,QF,QG,QH,QI,QJ,QK,QL,QM,QN,QO,QP,QQ,QR,QS,QT,QU,QV,QW,QX,QY,QZ,X0,X1,X2,X3,X4,X5,X6,X7,X8,X9,Xa,Xb,Xc,Xd,Xe,Xf,Xg,Xh,Xi,Xj,Xk,Xl,Xm,Xn,Xo,Xp,Xq,Xr,Xs,Xt,Xu,Xv,Xw,Xx,Xy,Xz,XA,XB,reduceIte,reduceCtorEq,XC,XD,XE,XF,XG,XH,XI,XJ,XK,XL,XM,XN,XO,XP,XQ,XR,XS,XT,XU,XV,XW,XX,XY,XZ,Y0,Try.q3,Try.q4,Try.q22,Try.q23,Try.q25,Try.q27,Try.q29,Try.q31,Try.underlying33,Try.q33,Try.underlying36,Try.q36,Try.underlying37,Try.q37,Try.q48,Try.underlying50,Try.q50,Try.underlying53,Try.q53,Try.q54]
  refine acalls_then (kd3) ?_
  simp -implicitDefEqProofs only [seqA_normal,Q0,Q1,Q2,Q3,Q4,Q5,Q6,Q7,Q8,Q9,Qa,Qb,Qc,Qd,Qe,Qf,Qg,Qh,Qi,Qj,Qk,Ql,Qm,Qn,Qo,Qp,Qq,Qr,Qs,Qt,Qu,Qv,Qw,Qx,Qy,Qz,QA,QB,QC,QD,QE,QF,QG,QH,QI,QJ,QK,QL,QM,QN,QO,QP,QQ,QR,QS,QT,QU,QV,QW,QX,QY,QZ,X0,X1,X2,X3,X4,X5,X6,X7,X8,X9,Xa,Xb,Xc,Xd,Xe,Xf,Xg,Xh,Xi,Xj,Xk,Xl,Xm,Xn,Xo,Xp,Xq,Xr,Xs,Xt,Xu,Xv,Xw,Xx,Xy,Xz,XA,XB,reduceIte,reduceCtorEq,XC,XD,XE,XF,XG,XH,XI,XJ,XK,XL,XM,XN,XO,XP,XQ,XR,XS,XT,XU,XV,XW,XX,XY,XZ,Y0,Try.q3,Try.q4,Try.q22,Try.q23,Try.q25,Try.q27,Try.q29,Try.q31,Try.underlying33,Try.q33,Try.underlying36,Try.q36,Try.underlying37,Try.q37,Try.q48,Try.underlying50,Try.q50,Try.underlying53,Try.q53,Try.q54]
  have hV4 := hOk4.val
  have kB := fun a c d => c_Balance es4 (by omega) hV4 a c d (.mp j) s8 id hT8.led.1
  have kR := fun a c d => rr_Balance es4 (by omega) hV4 a c d D4 s8 m hT8.rl.box
  have kU := fun a c d e => c_Turnover es4 (by omega) hV4 a c d e (.mp j) s8 id hT8.led.1
  have kW := fun a c d e => rr_Turnover es4 (by omega) hV4 a c d e D4 s8 m hT8.rl.box
  have gm := hT8.rl.box
  have kE := c_Entries es4 (by omega) _ s8 id hT8.led.1
  have kP := c_plain es4 (by omega)
  have kM := rr_Same es4 (by omega)
  clear kd1 kd2 kd3 kA3 kA kF kT
  refine awp_seq (awp_vc (by kernel_rfl) ?_)
  simp -implicitDefEqProofs only [seqA_normal,seqA_ret,seqA_exit,Q0,Q1,Q2,Q3,Q4,Q5,Q6,Q7,Q8,Q9,Qa,Qb,Qc,Qd,Qe,Qf,Qg,Qh,Qi,Qj,Qk,Ql,Qm,Qn,Qo,Qp,Qq,Qr,Qs,Qt,Qu,Qv,Qw,Qx,Qy,Qz,QA,QB,QC,QD,QE,QF,QG,QH,QI,QJ,QK,QL,QM,QN,QO,QP,QQ,QR,QS,QT,QU,QV,QW,QX,QY,QZ,X0,X1,X2,X3,X4,X5,X6,X7,X8,X9,Xa,Xb,Xc,Xd,Xe,Xf,Xg,Xh,Xi,Xj,Xk,Xl,Xm,Xn,Xo,Xp,Xq,Xr,Xs,Xt,Xu,Xv,Xw,Xx,Xy,Xz,XA,XB,reduceIte,reduceCtorEq,XC,XD,XE,XF,XG,XH,XI,XJ,XK,XL,XM,XN,XO,XP,XQ,XR,XS,XT,XU,XV,XW,XX,XY,XZ,Y0,Try.q3,Try.q4,Try.q22,Try.q23,Try.q25,Try.q27,Try.q29,Try.q31,Try.underlying33,Try.q33,Try.underlying36,Try.q36,Try.underlying37,Try.q37,Try.q48,Try.underlying50,Try.q50,Try.underlying53,Try.q53,Try.q54]
  refine awp_loopW (fun i : Nat => [(23, .int .i64 i), (22, .rows 2 (ds.map rowD)), (21, .ints .i64 acs), (16, .ptr m 0), (15, .ptr id 0), (4, .int .i64 cu)]) (fun i s => i ≤ 3 ∧ s = s8) (fun i => 3 - i) 0 (by simp [sub_cons, sub_nil, get_cons]) ⟨by omega, rfl⟩ ?_
  rintro i s9 ⟨hi, hs9⟩
  rw [hs9]
  clear hs9 s9
  by_cases hli : i < 3
  · have d1 : decide ((i : Int) < 3) = true := decide_eq_true (by omega)
    have wi : IntKind.i64.wrap ((i : Int) + 1) = ((i + 1 : Nat) : Int) := by rw [wrap_i64 (by omega) (by omega)]; rfl
    have hgi : acs.getD (i : Int).toNat 0 = acs[i]'(by omega) := by rw [Int.toNat_natCast, getD_get (by omega)]
    have bi : (0 : Int) ≤ (i : Int) ∧ (i : Int) < 3 := by omega
    generalize acs[i]'(by omega) = A at hgi
    refine awp_seq (awp_vc (by kernel_rfl) ?_)
    simp -implicitDefEqProofs only [seqA_normal,seqA_ret,seqA_exit,d1,Q0,Q1,Q2,Q3,Q4,Q5,Q6,Q7,Q8,Q9,Qa,Qb,Qc,Qd,Qe,Qf,Qg,Qh,Qi,Qj,Qk,Ql,Qm,Qn,Qo,Qp,Qq,Qr,Qs,Qt,Qu,Qv,Qw,Qx,Qy,Qz,QA,QB,QC,QD,QE,QF,QG,QH,QI,QJ,QK,QL,QM,QN,QO,QP,QQ,QR,QS,QT,QU,QV,QW,QX,QY,QZ,X0,X1,X2,X3,X4,X5,X6,X7,X8,X9,Xa,Xb,Xc,Xd,Xe,Xf,Xg,Xh,Xi,Xj,Xk,Xl,Xm,Xn,Xo,Xp,Xq,Xr,Xs,Xt,Xu,Xv,Xw,Xx,Xy,Xz,XA,XB,reduceIte,reduceCtorEq,XC,XD,XE,XF,XG,XH,XI,XJ,XK,XL,XM,XN,XO,XP,XQ,XR,XS,XT,XU,XV,XW,XX,XY,XZ,Y0,Try.q3,Try.q4,Try.q22,Try.q23,Try.q25,Try.q27,Try.q29,Try.q31,Try.underlying33,Try.q33,Try.underlying36,Try.q36,Try.underlying37,Try.q37,Try.q48,Try.underlying50,Try.q50,Try.underlying53,Try.q53,Try.q54]
    refine awp_seq (awp_blk ?_)
    refine awp_seq (awp_vc (by kernel_rfl) ?_)
    simp -implicitDefEqProofs only [seqA_normal,seqA_ret,seqA_exit,Q0,Q1,Q2,Q3,Q4,Q5,Q6,Q7,Q8,Q9,Qa,Qb,Qc,Qd,Qe,Qf,Qg,Qh,Qi,Qj,Qk,Ql,Qm,Qn,Qo,Qp,Qq,Qr,Qs,Qt,Qu,Qv,Qw,Qx,Qy,Qz,QA,QB,QC,QD,QE,QF,QG,QH,QI,QJ,QK,QL,QM,QN,QO,QP,QQ,QR,QS,QT,QU,QV,QW,QX,QY,QZ,X0,X1,X2,X3,X4,X5,X6,X7,X8,X9,Xa,Xb,Xc,Xd,Xe,Xf,Xg,Xh,Xi,Xj,Xk,Xl,Xm,Xn,Xo,Xp,Xq,Xr,Xs,Xt,Xu,Xv,Xw,Xx,Xy,Xz,XA,XB,reduceIte,reduceCtorEq,XC,XD,XE,XF,XG,XH,XI,XJ,XK,XL,XM,XN,XO,XP,XQ,XR,XS,XT,XU,XV,XW,XX,XY,XZ,Y0,Try.q3,Try.q4,Try.q22,Try.q23,Try.q25,Try.q27,Try.q29,Try.q31,Try.underlying33,Try.q33,Try.underlying36,Try.q36,Try.underlying37,Try.q37,Try.q48,Try.underlying50,Try.q50,Try.underlying53,Try.q53,Try.q54]
    refine awp_blk ?_
    refine awp_loopW (fun k : Nat => [(24, .int .i64 k), (23, .int .i64 i), (22, .rows 2 (ds.map rowD)), (21, .ints .i64 acs), (16, .ptr m 0), (15, .ptr id 0), (4, .int .i64 cu)]) (fun k s => k ≤ 3 ∧ s = s8) (fun k => 3 - k) 0 (by simp [sub_cons, sub_nil, get_cons]) ⟨by omega, rfl⟩ ?_
    rintro k s9 ⟨hk, hs9⟩
    rw [hs9]
    clear hs9 s9
    by_cases hlk : k < 3
    · have d2 : decide ((k : Int) < 3) = true := decide_eq_true (by omega)
      have wk : IntKind.i64.wrap ((k : Int) + 1) = ((k + 1 : Nat) : Int) := by rw [wrap_i64 (by omega) (by omega)]; rfl
      have bk : (0 : Int) ≤ (k : Int) ∧ (k : Int) < 3 := by omega
      have hdl : ds.length = 3 := by simpa using hdsl
      have hgk : (ds.map rowD).getD (k : Int).toNat [] = rowD (ds[k]'(by omega)) := by rw [Int.toNat_natCast, getD_get (by simpa using (by omega : k < ds.length))]; simp
      generalize ds[k]'(by omega) = p at hgk
      obtain ⟨lo, hi2⟩ := p
      have hgk2 : (ds.map rowD).getD (k : Int).toNat [] = [.int .i64 lo, .int .i64 hi2] := hgk
      have q1 := kB A cu lo
      have q2 := kR A cu lo
      have q3 := kU A wc lo hi2
      have q4 := kW A wc lo hi2
      generalize (balQ es4 A cu lo).1 = v1 at *
      generalize (balQ es4 A cu lo).2 = v2 at *
      generalize (turnQ es4 A wc lo hi2).1 = v3 at *
      generalize (turnQ es4 A wc lo hi2).2.1 = v4 at *
      generalize (turnQ es4 A wc lo hi2).2.2 = v5 at *
      have e1 : decide (v1 = v1) = true := decide_eq_true rfl
      have e2 : decide (v2 = v2) = true := decide_eq_true rfl
      have e3 : decide (v3 = v3) = true := decide_eq_true rfl
      have e4 : decide (v4 = v4) = true := decide_eq_true rfl
      have e5 : decide (v5 = v5) = true := decide_eq_true rfl
      refine awp_seq (awp_vc (by kernel_rfl) ?_)
      simp -implicitDefEqProofs only [seqA_normal,seqA_ret,seqA_exit,d2,Q0,Q1,Q2,Q3,Q4,Q5,Q6,Q7,Q8,Q9,Qa,Qb,Qc,Qd,Qe,Qf,Qg,Qh,Qi,Qj,Qk,Ql,Qm,Qn,Qo,Qp,Qq,Qr,Qs,Qt,Qu,Qv,Qw,Qx,Qy,Qz,QA,QB,QC,QD,QE,QF,QG,QH,QI,QJ,QK,QL,QM,QN,QO,QP,QQ,QR,QS,QT,QU,QV,QW,QX,QY,QZ,X0,X1,X2,X3,X4,X5,X6,X7,X8,X9,Xa,Xb,Xc,Xd,Xe,Xf,Xg,Xh,Xi,Xj,Xk,Xl,Xm,Xn,Xo,Xp,Xq,Xr,Xs,Xt,Xu,Xv,Xw,Xx,Xy,Xz,XA,XB,reduceIte,reduceCtorEq,XC,XD,XE,XF,XG,XH,XI,XJ,XK,XL,XM,XN,XO,XP,XQ,XR,XS,XT,XU,XV,XW,XX,XY,XZ,Y0,Try.q3,Try.q4,Try.q22,Try.q23,Try.q25,Try.q27,Try.q29,Try.q31,Try.underlying33,Try.q33,Try.underlying36,Try.q36,Try.underlying37,Try.q37,Try.q48,Try.underlying50,Try.q50,Try.underlying53,Try.q53,Try.q54]
      refine awp_seq (awp_blk ?_)
      refine awp_seq (awp_draws [] Try.mixed (by kernel_rfl) ?_)
      simp -implicitDefEqProofs only [hal,hgi,hdsl,hgk2,Q0,Q1,Q2,Q3,Q4,Q5,Q6,Q7,Q8,Q9,Qa,Qb,Qc,Qd,Qe,Qf,Qg,Qh,Qi,Qj,Qk,Ql,Qm,Qn,Qo,Qp,Qq,Qr,Qs,Qt,Qu,Qv,Qw,Qx,Qy,Qz,QA,QB,QC,QD,QE,QF,QG,QH,QI,QJ,QK,QL,QM,QN,QO,QP,QQ,QR,QS,QT,QU,QV,QW,QX,QY,QZ,X0,X1,X2,X3,X4,X5,X6,X7,X8,X9,Xa,Xb,Xc,Xd,Xe,Xf,Xg,Xh,Xi,Xj,Xk,Xl,Xm,Xn,Xo,Xp,Xq,Xr,Xs,Xt,Xu,Xv,Xw,Xx,Xy,Xz,XA,XB,reduceIte,reduceCtorEq,XC,XD,XE,XF,XG,XH,XI,XJ,XK,XL,XM,XN,XO,XP,XQ,XR,XS,XT,XU,XV,XW,XX,XY,XZ,Y0,Try.q3,Try.q4,Try.q22,Try.q23,Try.q25,Try.q27,Try.q29,Try.q31,Try.underlying33,Try.q33,Try.underlying36,Try.q36,Try.underlying37,Try.q37,Try.q48,Try.underlying50,Try.q50,Try.underlying53,Try.q53,Try.q54]
      refine ⟨bi, bk, ?_⟩
      refine dCall_of (q1) (by decide) ?_
      simp -implicitDefEqProofs only [seqA_normal,Q0,Q1,Q2,Q3,Q4,Q5,Q6,Q7,Q8,Q9,Qa,Qb,Qc,Qd,Qe,Qf,Qg,Qh,Qi,Qj,Qk,Ql,Qm,Qn,Qo,Qp,Qq,Qr,Qs,Qt,Qu,Qv,Qw,Qx,Qy,Qz,QA,QB,QC,QD,QE,QF,QG,QH,QI,QJ,QK,QL,QM,QN,QO,QP,QQ,QR,QS,QT,QU,QV,QW,QX,QY,QZ,X0,X1,X2,X3,X4,X5,X6,X7,X8,X9,Xa,Xb,Xc,Xd,Xe,Xf,Xg,Xh,Xi,Xj,Xk,Xl,Xm,Xn,Xo,Xp,Xq,Xr,Xs,Xt,Xu,Xv,Xw,Xx,Xy,Xz,XA,XB,reduceIte,reduceCtorEq,XC,XD,XE,XF,XG,XH,XI,XJ,XK,XL,XM,XN,XO,XP,XQ,XR,XS,XT,XU,XV,XW,XX,XY,XZ,Y0,Try.q3,Try.q4,Try.q22,Try.q23,Try.q25,Try.q27,Try.q29,Try.q31,Try.underlying33,Try.q33,Try.underlying36,Try.q36,Try.underlying37,Try.q37,Try.q48,Try.underlying50,Try.q50,Try.underlying53,Try.q53,Try.q54]
      refine awp_seq (awp_draws [] Try.mixed (by kernel_rfl) ?_)
      simp -implicitDefEqProofs only [hal,hgi,hdsl,hgk2,Q0,Q1,Q2,Q3,Q4,Q5,Q6,Q7,Q8,Q9,Qa,Qb,Qc,Qd,Qe,Qf,Qg,Qh,Qi,Qj,Qk,Ql,Qm,Qn,Qo,Qp,Qq,Qr,Qs,Qt,Qu,Qv,Qw,Qx,Qy,Qz,QA,QB,QC,QD,QE,QF,QG,QH,QI,QJ,QK,QL,QM,QN,QO,QP,QQ,QR,QS,QT,QU,QV,QW,QX,QY,QZ,X0,X1,X2,X3,X4,X5,X6,X7,X8,X9,Xa,Xb,Xc,Xd,Xe,Xf,Xg,Xh,Xi,Xj,Xk,Xl,Xm,Xn,Xo,Xp,Xq,Xr,Xs,Xt,Xu,Xv,Xw,Xx,Xy,Xz,XA,XB,reduceIte,reduceCtorEq,XC,XD,XE,XF,XG,XH,XI,XJ,XK,XL,XM,XN,XO,XP,XQ,XR,XS,XT,XU,XV,XW,XX,XY,XZ,Y0,Try.q3,Try.q4,Try.q22,Try.q23,Try.q25,Try.q27,Try.q29,Try.q31,Try.underlying33,Try.q33,Try.underlying36,Try.q36,Try.underlying37,Try.q37,Try.q48,Try.underlying50,Try.q50,Try.underlying53,Try.q53,Try.q54]
      refine ⟨bi, bk, ?_⟩
      refine dCall_of (q2) (by decide) ?_
      simp -implicitDefEqProofs only [seqA_normal,Q0,Q1,Q2,Q3,Q4,Q5,Q6,Q7,Q8,Q9,Qa,Qb,Qc,Qd,Qe,Qf,Qg,Qh,Qi,Qj,Qk,Ql,Qm,Qn,Qo,Qp,Qq,Qr,Qs,Qt,Qu,Qv,Qw,Qx,Qy,Qz,QA,QB,QC,QD,QE,QF,QG,QH,QI,QJ,QK,QL,QM,QN,QO,QP,QQ,QR,QS,QT,QU,QV,QW,QX,QY,QZ,X0,X1,X2,X3,X4,X5,X6,X7,X8,X9,Xa,Xb,Xc,Xd,Xe,Xf,Xg,Xh,Xi,Xj,Xk,Xl,Xm,Xn,Xo,Xp,Xq,Xr,Xs,Xt,Xu,Xv,Xw,Xx,Xy,Xz,XA,XB,reduceIte,reduceCtorEq,XC,XD,XE,XF,XG,XH,XI,XJ,XK,XL,XM,XN,XO,XP,XQ,XR,XS,XT,XU,XV,XW,XX,XY,XZ,Y0,Try.q3,Try.q4,Try.q22,Try.q23,Try.q25,Try.q27,Try.q29,Try.q31,Try.underlying33,Try.q33,Try.underlying36,Try.q36,Try.underlying37,Try.q37,Try.q48,Try.underlying50,Try.q50,Try.underlying53,Try.q53,Try.q54]
      refine awp_seq (awp_draws [] Try.mixed (by kernel_rfl) ?_)
      simp -implicitDefEqProofs only [hal,hgi,hdsl,hgk2,Q0,Q1,Q2,Q3,Q4,Q5,Q6,Q7,Q8,Q9,Qa,Qb,Qc,Qd,Qe,Qf,Qg,Qh,Qi,Qj,Qk,Ql,Qm,Qn,Qo,Qp,Qq,Qr,Qs,Qt,Qu,Qv,Qw,Qx,Qy,Qz,QA,QB,QC,QD,QE,QF,QG,QH,QI,QJ,QK,QL,QM,QN,QO,QP,QQ,QR,QS,QT,QU,QV,QW,QX,QY,QZ,X0,X1,X2,X3,X4,X5,X6,X7,X8,X9,Xa,Xb,Xc,Xd,Xe,Xf,Xg,Xh,Xi,Xj,Xk,Xl,Xm,Xn,Xo,Xp,Xq,Xr,Xs,Xt,Xu,Xv,Xw,Xx,Xy,Xz,XA,XB,reduceIte,reduceCtorEq,XC,XD,XE,XF,XG,XH,XI,XJ,XK,XL,XM,XN,XO,XP,XQ,XR,XS,XT,XU,XV,XW,XX,XY,XZ,Y0,Try.q3,Try.q4,Try.q22,Try.q23,Try.q25,Try.q27,Try.q29,Try.q31,Try.underlying33,Try.q33,Try.underlying36,Try.q36,Try.underlying37,Try.q37,Try.q48,Try.underlying50,Try.q50,Try.underlying53,Try.q53,Try.q54]
      refine ⟨bi, ?_⟩
      refine dCall_of (kC _) (by decide) ?_
      simp -implicitDefEqProofs only [hal,hgi,hdsl,hgk2,Q0,Q1,Q2,Q3,Q4,Q5,Q6,Q7,Q8,Q9,Qa,Qb,Qc,Qd,Qe,Qf,Qg,Qh,Qi,Qj,Qk,Ql,Qm,Qn,Qo,Qp,Qq,Qr,Qs,Qt,Qu,Qv,Qw,Qx,Qy,Qz,QA,QB,QC,QD,QE,QF,QG,QH,QI,QJ,QK,QL,QM,QN,QO,QP,QQ,QR,QS,QT,QU,QV,QW,QX,QY,QZ,X0,X1,X2,X3,X4,X5,X6,X7,X8,X9,Xa,Xb,Xc,Xd,Xe,Xf,Xg,Xh,Xi,Xj,Xk,Xl,Xm,Xn,Xo,Xp,Xq,Xr,Xs,Xt,Xu,Xv,Xw,Xx,Xy,Xz,XA,XB,reduceIte,reduceCtorEq,XC,XD,XE,XF,XG,XH,XI,XJ,XK,XL,XM,XN,XO,XP,XQ,XR,XS,XT,XU,XV,XW,XX,XY,XZ,Y0,Try.q3,Try.q4,Try.q22,Try.q23,Try.q25,Try.q27,Try.q29,Try.q31,Try.underlying33,Try.q33,Try.underlying36,Try.q36,Try.underlying37,Try.q37,Try.q48,Try.underlying50,Try.q50,Try.underlying53,Try.q53,Try.q54]
      refine ⟨bk, bk, ?_⟩
      refine dCall_of (q3) (by decide) ?_
      simp -implicitDefEqProofs only [seqA_normal,Q0,Q1,Q2,Q3,Q4,Q5,Q6,Q7,Q8,Q9,Qa,Qb,Qc,Qd,Qe,Qf,Qg,Qh,Qi,Qj,Qk,Ql,Qm,Qn,Qo,Qp,Qq,Qr,Qs,Qt,Qu,Qv,Qw,Qx,Qy,Qz,QA,QB,QC,QD,QE,QF,QG,QH,QI,QJ,QK,QL,QM,QN,QO,QP,QQ,QR,QS,QT,QU,QV,QW,QX,QY,QZ,X0,X1,X2,X3,X4,X5,X6,X7,X8,X9,Xa,Xb,Xc,Xd,Xe,Xf,Xg,Xh,Xi,Xj,Xk,Xl,Xm,Xn,Xo,Xp,Xq,Xr,Xs,Xt,Xu,Xv,Xw,Xx,Xy,Xz,XA,XB,reduceIte,reduceCtorEq,XC,XD,XE,XF,XG,XH,XI,XJ,XK,XL,XM,XN,XO,XP,XQ,XR,XS,XT,XU,XV,XW,XX,XY,XZ,Y0,Try.q3,Try.q4,Try.q22,Try.q23,Try.q25,Try.q27,Try.q29,Try.q31,Try.underlying33,Try.q33,Try.underlying36,Try.q36,Try.underlying37,Try.q37,Try.q48,Try.underlying50,Try.q50,Try.underlying53,Try.q53,Try.q54]
      refine awp_seq (awp_draws [] Try.mixed (by kernel_rfl) ?_)
      simp -implicitDefEqProofs only [hal,hgi,hdsl,hgk2,Q0,Q1,Q2,Q3,Q4,Q5,Q6,Q7,Q8,Q9,Qa,Qb,Qc,Qd,Qe,Qf,Qg,Qh,Qi,Qj,Qk,Ql,Qm,Qn,Qo,Qp,Qq,Qr,Qs,Qt,Qu,Qv,Qw,Qx,Qy,Qz,QA,QB,QC,QD,QE,QF,QG,QH,QI,QJ,QK,QL,QM,QN,QO,QP,QQ,QR,QS,QT,QU,QV,QW,QX,QY,QZ,X0,X1,X2,X3,X4,X5,X6,X7,X8,X9,Xa,Xb,Xc,Xd,Xe,Xf,Xg,Xh,Xi,Xj,Xk,Xl,Xm,Xn,Xo,Xp,Xq,Xr,Xs,Xt,Xu,Xv,Xw,Xx,Xy,Xz,XA,XB,reduceIte,reduceCtorEq,XC,XD,XE,XF,XG,XH,XI,XJ,XK,XL,XM,XN,XO,XP,XQ,XR,XS,XT,XU,XV,XW,XX,XY,XZ,Y0,Try.q3,Try.q4,Try.q22,Try.q23,Try.q25,Try.q27,Try.q29,Try.q31,Try.underlying33,Try.q33,Try.underlying36,Try.q36,Try.underlying37,Try.q37,Try.q48,Try.underlying50,Try.q50,Try.underlying53,Try.q53,Try.q54]
      refine ⟨bi, ?_⟩
      refine dCall_of (kC _) (by decide) ?_
      simp -implicitDefEqProofs only [hal,hgi,hdsl,hgk2,Q0,Q1,Q2,Q3,Q4,Q5,Q6,Q7,Q8,Q9,Qa,Qb,Qc,Qd,Qe,Qf,Qg,Qh,Qi,Qj,Qk,Ql,Qm,Qn,Qo,Qp,Qq,Qr,Qs,Qt,Qu,Qv,Qw,Qx,Qy,Qz,QA,QB,QC,QD,QE,QF,QG,QH,QI,QJ,QK,QL,QM,QN,QO,QP,QQ,QR,QS,QT,QU,QV,QW,QX,QY,QZ,X0,X1,X2,X3,X4,X5,X6,X7,X8,X9,Xa,Xb,Xc,Xd,Xe,Xf,Xg,Xh,Xi,Xj,Xk,Xl,Xm,Xn,Xo,Xp,Xq,Xr,Xs,Xt,Xu,Xv,Xw,Xx,Xy,Xz,XA,XB,reduceIte,reduceCtorEq,XC,XD,XE,XF,XG,XH,XI,XJ,XK,XL,XM,XN,XO,XP,XQ,XR,XS,XT,XU,XV,XW,XX,XY,XZ,Y0,Try.q3,Try.q4,Try.q22,Try.q23,Try.q25,Try.q27,Try.q29,Try.q31,Try.underlying33,Try.q33,Try.underlying36,Try.q36,Try.underlying37,Try.q37,Try.q48,Try.underlying50,Try.q50,Try.underlying53,Try.q53,Try.q54]
      refine ⟨bk, bk, ?_⟩
      refine dCall_of (q4) (by decide) ?_
      simp -implicitDefEqProofs only [seqA_normal,Q0,Q1,Q2,Q3,Q4,Q5,Q6,Q7,Q8,Q9,Qa,Qb,Qc,Qd,Qe,Qf,Qg,Qh,Qi,Qj,Qk,Ql,Qm,Qn,Qo,Qp,Qq,Qr,Qs,Qt,Qu,Qv,Qw,Qx,Qy,Qz,QA,QB,QC,QD,QE,QF,QG,QH,QI,QJ,QK,QL,QM,QN,QO,QP,QQ,QR,QS,QT,QU,QV,QW,QX,QY,QZ,X0,X1,X2,X3,X4,X5,X6,X7,X8,X9,Xa,Xb,Xc,Xd,Xe,Xf,Xg,Xh,Xi,Xj,Xk,Xl,Xm,Xn,Xo,Xp,Xq,Xr,Xs,Xt,Xu,Xv,Xw,Xx,Xy,Xz,XA,XB,reduceIte,reduceCtorEq,XC,XD,XE,XF,XG,XH,XI,XJ,XK,XL,XM,XN,XO,XP,XQ,XR,XS,XT,XU,XV,XW,XX,XY,XZ,Y0,Try.q3,Try.q4,Try.q22,Try.q23,Try.q25,Try.q27,Try.q29,Try.q31,Try.underlying33,Try.q33,Try.underlying36,Try.q36,Try.underlying37,Try.q37,Try.q48,Try.underlying50,Try.q50,Try.underlying53,Try.q53,Try.q54]
      refine awp_vc (by kernel_rfl) ?_
      simp -implicitDefEqProofs only [e1,e2,e3,e4,e5,seqA_normal,Q0,Q1,Q2,Q3,Q4,Q5,Q6,Q7,Q8,Q9,Qa,Qb,Qc,Qd,Qe,Qf,Qg,Qh,Qi,Qj,Qk,Ql,Qm,Qn,Qo,Qp,Qq,Qr,Qs,Qt,Qu,Qv,Qw,Qx,Qy,Qz,QA,QB,QC,QD,QE,QF,QG,QH,QI,QJ,QK,QL,QM,QN,QO,QP,QQ,QR,QS,QT,QU,QV,QW,QX,QY,QZ,X0,X1,X2,X3,X4,X5,X6,X7,X8,X9,Xa,Xb,Xc,Xd,Xe,Xf,Xg,Xh,Xi,Xj,Xk,Xl,Xm,Xn,Xo,Xp,Xq,Xr,Xs,Xt,Xu,Xv,Xw,Xx,Xy,Xz,XA,XB,reduceIte,reduceCtorEq,XC,XD,XE,XF,XG,XH,XI,XJ,XK,XL,XM,XN,XO,XP,XQ,XR,XS,XT,XU,XV,XW,XX,XY,XZ,Y0,Try.q3,Try.q4,Try.q22,Try.q23,Try.q25,Try.q27,Try.q29,Try.q31,Try.underlying33,Try.q33,Try.underlying36,Try.q36,Try.underlying37,Try.q37,Try.q48,Try.underlying50,Try.q50,Try.underlying53,Try.q53,Try.q54]
      refine awp_vc (by kernel_rfl) ?_
      simp -implicitDefEqProofs only [wk,Q0,Q1,Q2,Q3,Q4,Q5,Q6,Q7,Q8,Q9,Qa,Qb,Qc,Qd,Qe,Qf,Qg,Qh,Qi,Qj,Qk,Ql,Qm,Qn,Qo,Qp,Qq,Qr,Qs,Qt,Qu,Qv,Qw,Qx,Qy,Qz,QA,QB,QC,QD,QE,QF,QG,QH,QI,QJ,QK,QL,QM,QN,QO,QP,QQ,QR,QS,QT,QU,QV,QW,QX,QY,QZ,X0,X1,X2,X3,X4,X5,X6,X7,X8,X9,Xa,Xb,Xc,Xd,Xe,Xf,Xg,Xh,Xi,Xj,Xk,Xl,Xm,Xn,Xo,Xp,Xq,Xr,Xs,Xt,Xu,Xv,Xw,Xx,Xy,Xz,XA,XB,reduceIte,reduceCtorEq,XC,XD,XE,XF,XG,XH,XI,XJ,XK,XL,XM,XN,XO,XP,XQ,XR,XS,XT,XU,XV,XW,XX,XY,XZ,Y0,Try.q3,Try.q4,Try.q22,Try.q23,Try.q25,Try.q27,Try.q29,Try.q31,Try.underlying33,Try.q33,Try.underlying36,Try.q36,Try.underlying37,Try.q37,Try.q48,Try.underlying50,Try.q50,Try.underlying53,Try.q53,Try.q54]
      exact ⟨k + 1, by simp, by omega, by omega⟩
    · have d2 : decide ((k : Int) < 3) = false := decide_eq_false (by omega)
      refine awp_vc (by kernel_rfl) ?_
      simp -implicitDefEqProofs only [d2,seqA_normal,Q0,Q1,Q2,Q3,Q4,Q5,Q6,Q7,Q8,Q9,Qa,Qb,Qc,Qd,Qe,Qf,Qg,Qh,Qi,Qj,Qk,Ql,Qm,Qn,Qo,Qp,Qq,Qr,Qs,Qt,Qu,Qv,Qw,Qx,Qy,Qz,QA,QB,QC,QD,QE,QF,QG,QH,QI,QJ,QK,QL,QM,QN,QO,QP,QQ,QR,QS,QT,QU,QV,QW,QX,QY,QZ,X0,X1,X2,X3,X4,X5,X6,X7,X8,X9,Xa,Xb,Xc,Xd,Xe,Xf,Xg,Xh,Xi,Xj,Xk,Xl,Xm,Xn,Xo,Xp,Xq,Xr,Xs,Xt,Xu,Xv,Xw,Xx,Xy,Xz,XA,XB,reduceIte,reduceCtorEq,XC,XD,XE,XF,XG,XH,XI,XJ,XK,XL,XM,XN,XO,XP,XQ,XR,XS,XT,XU,XV,XW,XX,XY,XZ,Y0,Try.q3,Try.q4,Try.q22,Try.q23,Try.q25,Try.q27,Try.q29,Try.q31,Try.underlying33,Try.q33,Try.underlying36,Try.q36,Try.underlying37,Try.q37,Try.q48,Try.underlying50,Try.q50,Try.underlying53,Try.q53,Try.q54]
      refine awp_vc (by kernel_rfl) ?_
      simp -implicitDefEqProofs only [wi,Q0,Q1,Q2,Q3,Q4,Q5,Q6,Q7,Q8,Q9,Qa,Qb,Qc,Qd,Qe,Qf,Qg,Qh,Qi,Qj,Qk,Ql,Qm,Qn,Qo,Qp,Qq,Qr,Qs,Qt,Qu,Qv,Qw,Qx,Qy,Qz,QA,QB,QC,QD,QE,QF,QG,QH,QI,QJ,QK,QL,QM,QN,QO,QP,QQ,QR,QS,QT,QU,QV,QW,QX,QY,QZ,X0,X1,X2,X3,X4,X5,X6,X7,X8,X9,Xa,Xb,Xc,Xd,Xe,Xf,Xg,Xh,Xi,Xj,Xk,Xl,Xm,Xn,Xo,Xp,Xq,Xr,Xs,Xt,Xu,Xv,Xw,Xx,Xy,Xz,XA,XB,reduceIte,reduceCtorEq,XC,XD,XE,XF,XG,XH,XI,XJ,XK,XL,XM,XN,XO,XP,XQ,XR,XS,XT,XU,XV,XW,XX,XY,XZ,Y0,Try.q3,Try.q4,Try.q22,Try.q23,Try.q25,Try.q27,Try.q29,Try.q31,Try.underlying33,Try.q33,Try.underlying36,Try.q36,Try.underlying37,Try.q37,Try.q48,Try.underlying50,Try.q50,Try.underlying53,Try.q53,Try.q54]
      exact ⟨i + 1, by simp, by omega, by omega⟩
  · have d1 : decide ((i : Int) < 3) = false := decide_eq_false (by omega)
    refine awp_vc (by kernel_rfl) ?_
    simp -implicitDefEqProofs only [d1,seqA_normal,Q0,Q1,Q2,Q3,Q4,Q5,Q6,Q7,Q8,Q9,Qa,Qb,Qc,Qd,Qe,Qf,Qg,Qh,Qi,Qj,Qk,Ql,Qm,Qn,Qo,Qp,Qq,Qr,Qs,Qt,Qu,Qv,Qw,Qx,Qy,Qz,QA,QB,QC,QD,QE,QF,QG,QH,QI,QJ,QK,QL,QM,QN,QO,QP,QQ,QR,QS,QT,QU,QV,QW,QX,QY,QZ,X0,X1,X2,X3,X4,X5,X6,X7,X8,X9,Xa,Xb,Xc,Xd,Xe,Xf,Xg,Xh,Xi,Xj,Xk,Xl,Xm,Xn,Xo,Xp,Xq,Xr,Xs,Xt,Xu,Xv,Xw,Xx,Xy,Xz,XA,XB,reduceIte,reduceCtorEq,XC,XD,XE,XF,XG,XH,XI,XJ,XK,XL,XM,XN,XO,XP,XQ,XR,XS,XT,XU,XV,XW,XX,XY,XZ,Y0,Try.q3,Try.q4,Try.q22,Try.q23,Try.q25,Try.q27,Try.q29,Try.q31,Try.underlying33,Try.q33,Try.underlying36,Try.q36,Try.underlying37,Try.q37,Try.q48,Try.underlying50,Try.q50,Try.underlying53,Try.q53,Try.q54]
    refine awp_seq (awp_draws [] Try.mixed (by kernel_rfl) ?_)
    simp -implicitDefEqProofs only [Q0,Q1,Q2,Q3,Q4,Q5,Q6,Q7,Q8,Q9,Qa,Qb,Qc,Qd,Qe,Qf,Qg,Qh,Qi,Qj,Qk,Ql,Qm,Qn,Qo,Qp,Qq,Qr,Qs,Qt,Qu,Qv,Qw,Qx,Qy,Qz,QA,QB,QC,QD,QE,QF,QG,QH,QI,QJ,QK,QL,QM,QN,QO,QP,QQ,QR,QS,QT,QU,QV,QW,QX,QY,QZ,X0,X1,X2,X3,X4,X5,X6,X7,X8,X9,Xa,Xb,Xc,Xd,Xe,Xf,Xg,Xh,Xi,Xj,Xk,Xl,Xm,Xn,Xo,Xp,Xq,Xr,Xs,Xt,Xu,Xv,Xw,Xx,Xy,Xz,XA,XB,reduceIte,reduceCtorEq,XC,XD,XE,XF,XG,XH,XI,XJ,XK,XL,XM,XN,XO,XP,XQ,XR,XS,XT,XU,XV,XW,XX,XY,XZ,Y0,Try.q3,Try.q4,Try.q22,Try.q23,Try.q25,Try.q27,Try.q29,Try.q31,Try.underlying33,Try.q33,Try.underlying36,Try.q36,Try.underlying37,Try.q37,Try.q48,Try.underlying50,Try.q50,Try.underlying53,Try.q53,Try.q54]
    refine dCall_of (kE) (by decide) ?_
    simp -implicitDefEqProofs only [Q0,Q1,Q2,Q3,Q4,Q5,Q6,Q7,Q8,Q9,Qa,Qb,Qc,Qd,Qe,Qf,Qg,Qh,Qi,Qj,Qk,Ql,Qm,Qn,Qo,Qp,Qq,Qr,Qs,Qt,Qu,Qv,Qw,Qx,Qy,Qz,QA,QB,QC,QD,QE,QF,QG,QH,QI,QJ,QK,QL,QM,QN,QO,QP,QQ,QR,QS,QT,QU,QV,QW,QX,QY,QZ,X0,X1,X2,X3,X4,X5,X6,X7,X8,X9,Xa,Xb,Xc,Xd,Xe,Xf,Xg,Xh,Xi,Xj,Xk,Xl,Xm,Xn,Xo,Xp,Xq,Xr,Xs,Xt,Xu,Xv,Xw,Xx,Xy,Xz,XA,XB,reduceIte,reduceCtorEq,XC,XD,XE,XF,XG,XH,XI,XJ,XK,XL,XM,XN,XO,XP,XQ,XR,XS,XT,XU,XV,XW,XX,XY,XZ,Y0,Try.q3,Try.q4,Try.q22,Try.q23,Try.q25,Try.q27,Try.q29,Try.q31,Try.underlying33,Try.q33,Try.underlying36,Try.q36,Try.underlying37,Try.q37,Try.q48,Try.underlying50,Try.q50,Try.underlying53,Try.q53,Try.q54]
    refine dCall_of (kP _) (by decide) ?_
    simp -implicitDefEqProofs only [gm,Q0,Q1,Q2,Q3,Q4,Q5,Q6,Q7,Q8,Q9,Qa,Qb,Qc,Qd,Qe,Qf,Qg,Qh,Qi,Qj,Qk,Ql,Qm,Qn,Qo,Qp,Qq,Qr,Qs,Qt,Qu,Qv,Qw,Qx,Qy,Qz,QA,QB,QC,QD,QE,QF,QG,QH,QI,QJ,QK,QL,QM,QN,QO,QP,QQ,QR,QS,QT,QU,QV,QW,QX,QY,QZ,X0,X1,X2,X3,X4,X5,X6,X7,X8,X9,Xa,Xb,Xc,Xd,Xe,Xf,Xg,Xh,Xi,Xj,Xk,Xl,Xm,Xn,Xo,Xp,Xq,Xr,Xs,Xt,Xu,Xv,Xw,Xx,Xy,Xz,XA,XB,reduceIte,reduceCtorEq,XC,XD,XE,XF,XG,XH,XI,XJ,XK,XL,XM,XN,XO,XP,XQ,XR,XS,XT,XU,XV,XW,XX,XY,XZ,Y0,Try.q3,Try.q4,Try.q22,Try.q23,Try.q25,Try.q27,Try.q29,Try.q31,Try.underlying33,Try.q33,Try.underlying36,Try.q36,Try.underlying37,Try.q37,Try.q48,Try.underlying50,Try.q50,Try.underlying53,Try.q53,Try.q54]
    refine dCall_of (kM _) (by decide) ?_
    simp -implicitDefEqProofs only [Q0,Q1,Q2,Q3,Q4,Q5,Q6,Q7,Q8,Q9,Qa,Qb,Qc,Qd,Qe,Qf,Qg,Qh,Qi,Qj,Qk,Ql,Qm,Qn,Qo,Qp,Qq,Qr,Qs,Qt,Qu,Qv,Qw,Qx,Qy,Qz,QA,QB,QC,QD,QE,QF,QG,QH,QI,QJ,QK,QL,QM,QN,QO,QP,QQ,QR,QS,QT,QU,QV,QW,QX,QY,QZ,X0,X1,X2,X3,X4,X5,X6,X7,X8,X9,Xa,Xb,Xc,Xd,Xe,Xf,Xg,Xh,Xi,Xj,Xk,Xl,Xm,Xn,Xo,Xp,Xq,Xr,Xs,Xt,Xu,Xv,Xw,Xx,Xy,Xz,XA,XB,reduceIte,reduceCtorEq,XC,XD,XE,XF,XG,XH,XI,XJ,XK,XL,XM,XN,XO,XP,XQ,XR,XS,XT,XU,XV,XW,XX,XY,XZ,Y0,Try.q3,Try.q4,Try.q22,Try.q23,Try.q25,Try.q27,Try.q29,Try.q31,Try.underlying33,Try.q33,Try.underlying36,Try.q36,Try.underlying37,Try.q37,Try.q48,Try.underlying50,Try.q50,Try.underlying53,Try.q53,Try.q54]
    refine dCall_of (kL _) (by decide) ?_
    simp -implicitDefEqProofs only [seqA_normal,Q0,Q1,Q2,Q3,Q4,Q5,Q6,Q7,Q8,Q9,Qa,Qb,Qc,Qd,Qe,Qf,Qg,Qh,Qi,Qj,Qk,Ql,Qm,Qn,Qo,Qp,Qq,Qr,Qs,Qt,Qu,Qv,Qw,Qx,Qy,Qz,QA,QB,QC,QD,QE,QF,QG,QH,QI,QJ,QK,QL,QM,QN,QO,QP,QQ,QR,QS,QT,QU,QV,QW,QX,QY,QZ,X0,X1,X2,X3,X4,X5,X6,X7,X8,X9,Xa,Xb,Xc,Xd,Xe,Xf,Xg,Xh,Xi,Xj,Xk,Xl,Xm,Xn,Xo,Xp,Xq,Xr,Xs,Xt,Xu,Xv,Xw,Xx,Xy,Xz,XA,XB,reduceIte,reduceCtorEq,XC,XD,XE,XF,XG,XH,XI,XJ,XK,XL,XM,XN,XO,XP,XQ,XR,XS,XT,XU,XV,XW,XX,XY,XZ,Y0,Try.q3,Try.q4,Try.q22,Try.q23,Try.q25,Try.q27,Try.q29,Try.q31,Try.underlying33,Try.q33,Try.underlying36,Try.q36,Try.underlying37,Try.q37,Try.q48,Try.underlying50,Try.q50,Try.underlying53,Try.q53,Try.q54]
    refine awp_vc (by kernel_rfl) ?_
    simp -implicitDefEqProofs only [Q0,Q1,Q2,Q3,Q4,Q5,Q6,Q7,Q8,Q9,Qa,Qb,Qc,Qd,Qe,Qf,Qg,Qh,Qi,Qj,Qk,Ql,Qm,Qn,Qo,Qp,Qq,Qr,Qs,Qt,Qu,Qv,Qw,Qx,Qy,Qz,QA,QB,QC,QD,QE,QF,QG,QH,QI,QJ,QK,QL,QM,QN,QO,QP,QQ,QR,QS,QT,QU,QV,QW,QX,QY,QZ,X0,X1,X2,X3,X4,X5,X6,X7,X8,X9,Xa,Xb,Xc,Xd,Xe,Xf,Xg,Xh,Xi,Xj,Xk,Xl,Xm,Xn,Xo,Xp,Xq,Xr,Xs,Xt,Xu,Xv,Xw,Xx,Xy,Xz,XA,XB,reduceIte,reduceCtorEq,XC,XD,XE,XF,XG,XH,XI,XJ,XK,XL,XM,XN,XO,XP,XQ,XR,XS,XT,XU,XV,XW,XX,XY,XZ,Y0,Try.q3,Try.q4,Try.q22,Try.q23,Try.q25,Try.q27,Try.q29,Try.q31,Try.underlying33,Try.q33,Try.underlying36,Try.q36,Try.underlying37,Try.q37,Try.q48,Try.underlying50,Try.q50,Try.underlying53,Try.q53,Try.q54]

end Go.Proofs
