/-
  The ledger: scripts on both; the law of runs.
-/
import Derived.Test.YtdioiegkpkjmkaaMd
namespace Go.Proofs
open Go.Pa
open Go.Pa renaming VB0 → Q0, VB1 → Q1, VB2 → Q2, VB3 → Q3, VB4 → Q4, VB5 → Q5, VB6 → Q6, VB7 → Q7, VB8 → Q8, VB9 → Q9, condV_bool → Qa, guardV_bool → Qb, vcS → Qc, evA → Qd, evBin → Qe, nilA → Qf, nilOf → Qg, intOp → Qh, strOp → Qi, evUn → Qj, evConv → Qk, evField → Ql, evFieldAddr → Qm, evIndexAddr → Qn, evIndex → Qo, evIndexA → Qp, bnd → Qq, evSlice → Qr, evLen → Qs, evPick → Qt, evExtract → Qu, evNilCheck → Qv, evMin → Qw, evMax → Qx, evLoadI → Qy, partsOne → QA, intsOf → QB, rowsAV → QC, evBuildSlice → QD, evBuild → QE, fillA → QF, splice → QG, evBuiltin → QH, guardD_bool → QI, dOp → QJ, cl → QK, vcLoad → QL, vcStore → QM, vcMake → QN, convA → QO, evIndexArr → QP, retA → QQ, ressA → QR, resA → QS, envOf → QT, condR_bool → QX, asgEnv → QY, parEnv → QZ, dstAt → XI, vcLook → XT, vcPut → XU, vcEnt → XV, vcESt → XW, vcMLen → XX, vcDel → XY, vcClear → XZ, vcLookD → Y0
open Go.Pa.AV renaming cell → Qz
open Go.Pa.Env renaming put → QU
open List renaming set_cons_zero → QV, set_cons_succ → QW, foldl_cons → X0, foldl_nil → X1, map_cons → X2, map_nil → X3, toList_toArray → X4, getElem?_cons_zero → X5, getElem?_cons_succ → X6, nil_append → Xa, append_nil → Xb, cons_append → Xc, singleton_append → Xd, length_cons → Xe, length_nil → Xf, all_cons → Xg, all_nil → Xh, take_succ_cons → Xi, take_zero → Xj, take_nil → Xk, drop_zero → Xl, drop_succ_cons → Xm, drop_nil → Xn, contains_nil → Xo, contains_cons → Xp
open Option renaming bind_some → X7, map_some → X8, map_none → X9
open Bool renaming or_false → Xq, false_or → Xr, or_true → Xs, true_or → Xt, false_eq_true → XC, not_true → XD, not_false → XE, and_true → XF, true_and → XG, and_self → XH
open Nat renaming reduceEqDiff → Xu, reduceAdd → Xv, reduceSub → Xw, reduceMul → Xx, reduceLT → Xy, reduceLeDiff → Xz, reduceBNe → XA, reduceBEq → XB, zero_add → XL, add_zero → XM
open UInt8 renaming reduceToNat → XJ
open Int renaming cast_ofNat_Int → XK, reduceToNat → XN, reduceLT → XO, reduceLE → XP, reduceNeg → XQ, reduceEq → XR, reduceNe → XS
set_option linter.unusedSimpArgs false
set_option linter.unusedVariables false
set_option maxRecDepth 20000
set_option maxHeartbeats 4000000

theorem LOk.op {B : Nat} {es : List Ent} (h : LOk B es) (hB : B ≤ 16000) (dn : List Int) {o : Opn} (ho : GenO o) : LOk (B + 3) (opR es dn o).1 := by
  unfold opR
  split
  · exact h.void hB (by omega) dn o.ix o.dy
  · exact h.post ho.len ho.acc

theorem GenO.okx {o : Opn} (h : GenO o) : Okk .i64 o.ix := by have := h.ix; exact i64_okk (by omega) (by omega)

theorem sh_new (s : Store) : ShS (s ++ [AObj.box [.nils, .nils]]) (fun _ => False) (s ++ [.box [esV [], .nils]]) := by
  refine ⟨by simp, fun i y hy => .inr ⟨fun h => h, ?_⟩⟩
  rcases Nat.lt_or_ge i s.length with h | h
  · rw [List.getElem?_append_left h] at hy ⊢
    exact ⟨y, hy, .same _⟩
  · rw [List.getElem?_append_right h] at hy ⊢
    generalize i - s.length = k at hy
    match k with
    | 0 =>
      cases hy
      refine ⟨_, rfl, .box _ _ rfl fun i x y hx hy => ?_⟩
      match i with
      | 0 => cases hx; cases hy; exact .nilR 6
      | 1 => cases hx; cases hy; exact .same _
      | i + 2 => cases hx
    | k + 1 => cases hy

theorem two_new {s : Store} {id j : Nat} (h : Led s id j [] []) : Two (s ++ [.box [esV [], .nils]]) id j s.length s.length .nils [] [] := by
  have := h.lt
  exact ⟨h.ext (Ext.app _ _), ⟨by simp, .inl ⟨rfl, rfl⟩⟩, by omega, by omega, by omega, by omega⟩

theorem law_LedgerRuns (l : List Int) (hl : ∀ x ∈ l, Okk .i64 x) (_ : l.length ≤ 9223372036854775807) (dy : Int) (hdy : Okk .i64 dy) : ACalls Try.prog 7 [.ints .i64 l, .int .i64 dy] [] (fun r _ => r = .bool true) := by
  have kS := fun σ => r_script l hl 14 (by decide) σ
  have hG := scr_gen hl 14
  have hSl : (scrI l 14).length ≤ 14 := by rw [scrI_len]; omega
  generalize scrI l 14 = ops at *
  have lm : (ops.map opA).length = ops.length := List.length_map _
  have kL := lives16
  have kA := fun σ => around dy 14 σ (by decide)
  have bA := aroundI_bound hdy (m := 14) (by decide)
  generalize aroundI dy 14 = w at *
  have ww : IntKind.i64.wrap (100 + w) = 100 + w := wrap_i64 (by omega) (by omega)
  refine acalls_of_awp (fn := Try.f7) Try.call7 Try.func7 rfl (by simp [Try.ntmps7]) ?_
  simp only [Try.ntmps7, Try.results7]
  refine awp_seq (awp_vc (by kernel_rfl) ?_)
  simp -implicitDefEqProofs only [seqA_normal,seqA_ret,seqA_exit,Q0,Q1,Q2,Q3,Q4,Q5,Q6,Q7,Q8,Q9,Qa,Qb,Qc,Qd,Qe,Qf,Qg,Qh,Qi,Qj,Qk,Ql,Qm,Qn,Qo,Qp,Qq,Qr,Qs,Qt,Qu,Qv,Qw,Qx,Qy,Qz,QA,QB,QC,QD,QE,QF,QG,QH,QI,QJ,QK,QL,QM,QN,QO,QP,QQ,QR,QS,QT,QU,QV,QW,QX,QY,QZ,X0,X1,X2,X3,X4,X5,X6,X7,X8,X9,Xa,Xb,Xc,Xd,Xe,Xf,Xg,Xh,Xi,Xj,Xk,Xl,Xm,Xn,Xo,Xp,Xq,Xr,Xs,Xt,Xu,Xv,Xw,Xx,Xy,Xz,XA,XB,reduceIte,reduceCtorEq,XC,XD,XE,XF,XG,XH,XI,XJ,XK,XL,XM,XN,XO,XP,XQ,XR,XS,XT,XU,XV,XW,XX,XY,XZ,Y0,Try.q3,Try.q4,Try.q22,Try.q23,Try.q25,Try.q27,Try.q29,Try.q31,Try.underlying33,Try.q33,Try.underlying36,Try.q36,Try.underlying37,Try.q37,Try.q48,Try.underlying50,Try.q50,Try.q58]
  refine awp_seq (awp_vc (by kernel_rfl) ?_)
  simp -implicitDefEqProofs only [seqA_normal,seqA_ret,seqA_exit,Q0,Q1,Q2,Q3,Q4,Q5,Q6,Q7,Q8,Q9,Qa,Qb,Qc,Qd,Qe,Qf,Qg,Qh,Qi,Qj,Qk,Ql,Qm,Qn,Qo,Qp,Qq,Qr,Qs,Qt,Qu,Qv,Qw,Qx,Qy,Qz,QA,QB,QC,QD,QE,QF,QG,QH,QI,QJ,QK,QL,QM,QN,QO,QP,QQ,QR,QS,QT,QU,QV,QW,QX,QY,QZ,X0,X1,X2,X3,X4,X5,X6,X7,X8,X9,Xa,Xb,Xc,Xd,Xe,Xf,Xg,Xh,Xi,Xj,Xk,Xl,Xm,Xn,Xo,Xp,Xq,Xr,Xs,Xt,Xu,Xv,Xw,Xx,Xy,Xz,XA,XB,reduceIte,reduceCtorEq,XC,XD,XE,XF,XG,XH,XI,XJ,XK,XL,XM,XN,XO,XP,XQ,XR,XS,XT,XU,XV,XW,XX,XY,XZ,Y0,Try.q3,Try.q4,Try.q22,Try.q23,Try.q25,Try.q27,Try.q29,Try.q31,Try.underlying33,Try.q33,Try.underlying36,Try.q36,Try.underlying37,Try.q37,Try.q48,Try.underlying50,Try.q50,Try.q58]
  refine ACalls.mono (c_NewL _) ?_
  rintro r s0 ⟨id, j, rfl, hx0, -, -, hL0⟩
  simp -implicitDefEqProofs only [seqA_normal,Q0,Q1,Q2,Q3,Q4,Q5,Q6,Q7,Q8,Q9,Qa,Qb,Qc,Qd,Qe,Qf,Qg,Qh,Qi,Qj,Qk,Ql,Qm,Qn,Qo,Qp,Qq,Qr,Qs,Qt,Qu,Qv,Qw,Qx,Qy,Qz,QA,QB,QC,QD,QE,QF,QG,QH,QI,QJ,QK,QL,QM,QN,QO,QP,QQ,QR,QS,QT,QU,QV,QW,QX,QY,QZ,X0,X1,X2,X3,X4,X5,X6,X7,X8,X9,Xa,Xb,Xc,Xd,Xe,Xf,Xg,Xh,Xi,Xj,Xk,Xl,Xm,Xn,Xo,Xp,Xq,Xr,Xs,Xt,Xu,Xv,Xw,Xx,Xy,Xz,XA,XB,reduceIte,reduceCtorEq,XC,XD,XE,XF,XG,XH,XI,XJ,XK,XL,XM,XN,XO,XP,XQ,XR,XS,XT,XU,XV,XW,XX,XY,XZ,Y0,Try.q3,Try.q4,Try.q22,Try.q23,Try.q25,Try.q27,Try.q29,Try.q31,Try.underlying33,Try.q33,Try.underlying36,Try.q36,Try.underlying37,Try.q37,Try.q48,Try.underlying50,Try.q50,Try.q58]
  refine awp_seq (awp_vc (by kernel_rfl) ?_)
  simp -implicitDefEqProofs only [seqA_normal,Q0,Q1,Q2,Q3,Q4,Q5,Q6,Q7,Q8,Q9,Qa,Qb,Qc,Qd,Qe,Qf,Qg,Qh,Qi,Qj,Qk,Ql,Qm,Qn,Qo,Qp,Qq,Qr,Qs,Qt,Qu,Qv,Qw,Qx,Qy,Qz,QA,QB,QC,QD,QE,QF,QG,QH,QI,QJ,QK,QL,QM,QN,QO,QP,QQ,QR,QS,QT,QU,QV,QW,QX,QY,QZ,X0,X1,X2,X3,X4,X5,X6,X7,X8,X9,Xa,Xb,Xc,Xd,Xe,Xf,Xg,Xh,Xi,Xj,Xk,Xl,Xm,Xn,Xo,Xp,Xq,Xr,Xs,Xt,Xu,Xv,Xw,Xx,Xy,Xz,XA,XB,reduceIte,reduceCtorEq,XC,XD,XE,XF,XG,XH,XI,XJ,XK,XL,XM,XN,XO,XP,XQ,XR,XS,XT,XU,XV,XW,XX,XY,XZ,Y0,Try.q3,Try.q4,Try.q22,Try.q23,Try.q25,Try.q27,Try.q29,Try.q31,Try.underlying33,Try.q33,Try.underlying36,Try.q36,Try.underlying37,Try.q37,Try.q48,Try.underlying50,Try.q50,Try.q58]
  refine awp_shut (fun _ => False) [(6, .ptr s0.length 0), (5, .ptr id 0), (0, .ints .i64 l), (1, .int .i64 dy)] _ (sh_new s0) ⟨⟨_, rfl, .same _⟩, ⟨_, rfl, .same _⟩, ⟨_, rfl, .same _⟩, ⟨_, rfl, .same _⟩, trivial⟩ ?_
  have hT0 := two_new hL0
  generalize s0 ++ [.box [esV [], .nils]] = s1 at hT0
  generalize s0.length = m at *
  refine awp_seq (awp_vc (by kernel_rfl) ?_)
  simp -implicitDefEqProofs only [seqA_normal,seqA_ret,seqA_exit,Q0,Q1,Q2,Q3,Q4,Q5,Q6,Q7,Q8,Q9,Qa,Qb,Qc,Qd,Qe,Qf,Qg,Qh,Qi,Qj,Qk,Ql,Qm,Qn,Qo,Qp,Qq,Qr,Qs,Qt,Qu,Qv,Qw,Qx,Qy,Qz,QA,QB,QC,QD,QE,QF,QG,QH,QI,QJ,QK,QL,QM,QN,QO,QP,QQ,QR,QS,QT,QU,QV,QW,QX,QY,QZ,X0,X1,X2,X3,X4,X5,X6,X7,X8,X9,Xa,Xb,Xc,Xd,Xe,Xf,Xg,Xh,Xi,Xj,Xk,Xl,Xm,Xn,Xo,Xp,Xq,Xr,Xs,Xt,Xu,Xv,Xw,Xx,Xy,Xz,XA,XB,reduceIte,reduceCtorEq,XC,XD,XE,XF,XG,XH,XI,XJ,XK,XL,XM,XN,XO,XP,XQ,XR,XS,XT,XU,XV,XW,XX,XY,XZ,Y0,Try.q3,Try.q4,Try.q22,Try.q23,Try.q25,Try.q27,Try.q29,Try.q31,Try.underlying33,Try.q33,Try.underlying36,Try.q36,Try.underlying37,Try.q37,Try.q48,Try.underlying50,Try.q50,Try.q58]
  refine awp_seq (awp_vc (by kernel_rfl) ?_)
  simp -implicitDefEqProofs only [seqA_normal,seqA_ret,seqA_exit,Q0,Q1,Q2,Q3,Q4,Q5,Q6,Q7,Q8,Q9,Qa,Qb,Qc,Qd,Qe,Qf,Qg,Qh,Qi,Qj,Qk,Ql,Qm,Qn,Qo,Qp,Qq,Qr,Qs,Qt,Qu,Qv,Qw,Qx,Qy,Qz,QA,QB,QC,QD,QE,QF,QG,QH,QI,QJ,QK,QL,QM,QN,QO,QP,QQ,QR,QS,QT,QU,QV,QW,QX,QY,QZ,X0,X1,X2,X3,X4,X5,X6,X7,X8,X9,Xa,Xb,Xc,Xd,Xe,Xf,Xg,Xh,Xi,Xj,Xk,Xl,Xm,Xn,Xo,Xp,Xq,Xr,Xs,Xt,Xu,Xv,Xw,Xx,Xy,Xz,XA,XB,reduceIte,reduceCtorEq,XC,XD,XE,XF,XG,XH,XI,XJ,XK,XL,XM,XN,XO,XP,XQ,XR,XS,XT,XU,XV,XW,XX,XY,XZ,Y0,Try.q3,Try.q4,Try.q22,Try.q23,Try.q25,Try.q27,Try.q29,Try.q31,Try.underlying33,Try.q33,Try.underlying36,Try.q36,Try.underlying37,Try.q37,Try.q48,Try.underlying50,Try.q50,Try.q58]
  refine acalls_then (kS _) ?_
  simp -implicitDefEqProofs only [seqA_normal,Q0,Q1,Q2,Q3,Q4,Q5,Q6,Q7,Q8,Q9,Qa,Qb,Qc,Qd,Qe,Qf,Qg,Qh,Qi,Qj,Qk,Ql,Qm,Qn,Qo,Qp,Qq,Qr,Qs,Qt,Qu,Qv,Qw,Qx,Qy,Qz,QA,QB,QC,QD,QE,QF,QG,QH,QI,QJ,QK,QL,QM,QN,QO,QP,QQ,QR,QS,QT,QU,QV,QW,QX,QY,QZ,X0,X1,X2,X3,X4,X5,X6,X7,X8,X9,Xa,Xb,Xc,Xd,Xe,Xf,Xg,Xh,Xi,Xj,Xk,Xl,Xm,Xn,Xo,Xp,Xq,Xr,Xs,Xt,Xu,Xv,Xw,Xx,Xy,Xz,XA,XB,reduceIte,reduceCtorEq,XC,XD,XE,XF,XG,XH,XI,XJ,XK,XL,XM,XN,XO,XP,XQ,XR,XS,XT,XU,XV,XW,XX,XY,XZ,Y0,Try.q3,Try.q4,Try.q22,Try.q23,Try.q25,Try.q27,Try.q29,Try.q31,Try.underlying33,Try.q33,Try.underlying36,Try.q36,Try.underlying37,Try.q37,Try.q48,Try.underlying50,Try.q50,Try.q58]
  refine awp_cutK (fun e' s' => (∃ es dn d D, LOk 42 es ∧ Two s' id j m d D es dn) ∧ Env.sub [(6, .ptr m 0), (5, .ptr id 0), (1, .int .i64 dy)] e') ?_ ?_
  · refine awp_seq (awp_vc (by kernel_rfl) ?_)
    simp -implicitDefEqProofs only [seqA_normal,seqA_ret,seqA_exit,Q0,Q1,Q2,Q3,Q4,Q5,Q6,Q7,Q8,Q9,Qa,Qb,Qc,Qd,Qe,Qf,Qg,Qh,Qi,Qj,Qk,Ql,Qm,Qn,Qo,Qp,Qq,Qr,Qs,Qt,Qu,Qv,Qw,Qx,Qy,Qz,QA,QB,QC,QD,QE,QF,QG,QH,QI,QJ,QK,QL,QM,QN,QO,QP,QQ,QR,QS,QT,QU,QV,QW,QX,QY,QZ,X0,X1,X2,X3,X4,X5,X6,X7,X8,X9,Xa,Xb,Xc,Xd,Xe,Xf,Xg,Xh,Xi,Xj,Xk,Xl,Xm,Xn,Xo,Xp,Xq,Xr,Xs,Xt,Xu,Xv,Xw,Xx,Xy,Xz,XA,XB,reduceIte,reduceCtorEq,XC,XD,XE,XF,XG,XH,XI,XJ,XK,XL,XM,XN,XO,XP,XQ,XR,XS,XT,XU,XV,XW,XX,XY,XZ,Y0,Try.q3,Try.q4,Try.q22,Try.q23,Try.q25,Try.q27,Try.q29,Try.q31,Try.underlying33,Try.q33,Try.underlying36,Try.q36,Try.underlying37,Try.q37,Try.q48,Try.underlying50,Try.q50,Try.q58]
    refine awp_blk ?_
    refine awp_loopW (fun i : Nat => [(8, .int .i64 i), (7, .rows 3 (ops.map opA)), (6, .ptr m 0), (5, .ptr id 0), (1, .int .i64 dy)]) (fun i s => i ≤ ops.length ∧ ∃ es dn d D, LOk (3 * i) es ∧ dn.length ≤ 2 * i ∧ Two s id j m d D es dn) (fun i => ops.length - i) 0 (by simp [sub_cons, sub_nil, get_cons]) ⟨by omega, [], [], m, .nils, LOk.nil, by simp, hT0⟩ ?_
    rintro i s ⟨hi, es, dn, d, D, hOk, hdl, hT⟩
    by_cases hlt : i < ops.length
    · have d1 : decide ((i : Int) < (ops.length : Int)) = true := decide_eq_true (by omega)
      have hrow : (ops.map opA).getD (i : Int).toNat [] = opA ops[i] := by rw [Int.toNat_natCast, getD_get (by simpa using hlt)]; simp
      have wi : IntKind.i64.wrap ((i : Int) + 1) = ((i + 1 : Nat) : Int) := by rw [wrap_i64 (by omega) (by omega)]; rfl
      have bi : (0 : Int) ≤ (i : Int) ∧ (i : Int) < (ops.length : Int) := by omega
      have hg := hG _ (List.getElem_mem hlt)
      generalize ops[i] = o at *
      have hlen := hOk.len
      have hes := hg.len
      have hOk2 := (hOk.op (by omega) dn hg).up (C := 3 * (i + 1)) (by omega)
      have hdl2 := dn_len es dn o
      obtain ⟨s2, d2, D2, hT2, -, -, kd⟩ := r_do es dn (by omega) hOk.val (by omega) o (by omega) hg.okx s id j m d D hT
      generalize (opR es dn o).2 = dn2 at *
      generalize (opR es dn o).1 = es2 at *
      have hlen2 := hOk2.len
      have gm := hT2.rl.box
      have kE := c_Entries es2 (by omega) _ s2 id hT2.led.1
      have kP := c_plain es2 (by omega)
      have kQ := rr_Same es2 (by omega)
      have hrow2 : (ops.map opA).getD (i : Int).toNat [] = [.rows 6 (o.es.map entA), .int .i64 o.ix, .int .i64 o.dy] := hrow
      have ht3 : ∀ x y z : AV, ([x, y, z] : List AV).take 3 = [x, y, z] := fun _ _ _ => rfl
      unfold opA at kd
      refine awp_vc (by kernel_rfl) ?_
      simp -implicitDefEqProofs only [d1,lm,Q0,Q1,Q2,Q3,Q4,Q5,Q6,Q7,Q8,Q9,Qa,Qb,Qc,Qd,Qe,Qf,Qg,Qh,Qi,Qj,Qk,Ql,Qm,Qn,Qo,Qp,Qq,Qr,Qs,Qt,Qu,Qv,Qw,Qx,Qy,Qz,QA,QB,QC,QD,QE,QF,QG,QH,QI,QJ,QK,QL,QM,QN,QO,QP,QQ,QR,QS,QT,QU,QV,QW,QX,QY,QZ,X0,X1,X2,X3,X4,X5,X6,X7,X8,X9,Xa,Xb,Xc,Xd,Xe,Xf,Xg,Xh,Xi,Xj,Xk,Xl,Xm,Xn,Xo,Xp,Xq,Xr,Xs,Xt,Xu,Xv,Xw,Xx,Xy,Xz,XA,XB,reduceIte,reduceCtorEq,XC,XD,XE,XF,XG,XH,XI,XJ,XK,XL,XM,XN,XO,XP,XQ,XR,XS,XT,XU,XV,XW,XX,XY,XZ,Y0,Try.q3,Try.q4,Try.q22,Try.q23,Try.q25,Try.q27,Try.q29,Try.q31,Try.underlying33,Try.q33,Try.underlying36,Try.q36,Try.underlying37,Try.q37,Try.q48,Try.underlying50,Try.q50,Try.q58]
      refine awp_draws [6] Try.mixed (by kernel_rfl) ?_
      simp -implicitDefEqProofs only [lm,hrow2,ht3,Q0,Q1,Q2,Q3,Q4,Q5,Q6,Q7,Q8,Q9,Qa,Qb,Qc,Qd,Qe,Qf,Qg,Qh,Qi,Qj,Qk,Ql,Qm,Qn,Qo,Qp,Qq,Qr,Qs,Qt,Qu,Qv,Qw,Qx,Qy,Qz,QA,QB,QC,QD,QE,QF,QG,QH,QI,QJ,QK,QL,QM,QN,QO,QP,QQ,QR,QS,QT,QU,QV,QW,QX,QY,QZ,X0,X1,X2,X3,X4,X5,X6,X7,X8,X9,Xa,Xb,Xc,Xd,Xe,Xf,Xg,Xh,Xi,Xj,Xk,Xl,Xm,Xn,Xo,Xp,Xq,Xr,Xs,Xt,Xu,Xv,Xw,Xx,Xy,Xz,XA,XB,reduceIte,reduceCtorEq,XC,XD,XE,XF,XG,XH,XI,XJ,XK,XL,XM,XN,XO,XP,XQ,XR,XS,XT,XU,XV,XW,XX,XY,XZ,Y0,Try.q3,Try.q4,Try.q22,Try.q23,Try.q25,Try.q27,Try.q29,Try.q31,Try.underlying33,Try.q33,Try.underlying36,Try.q36,Try.underlying37,Try.q37,Try.q48,Try.underlying50,Try.q50,Try.q58]
      refine ⟨bi, ?_⟩
      refine dCall_of2 kd ?_
      simp -implicitDefEqProofs only [Q0,Q1,Q2,Q3,Q4,Q5,Q6,Q7,Q8,Q9,Qa,Qb,Qc,Qd,Qe,Qf,Qg,Qh,Qi,Qj,Qk,Ql,Qm,Qn,Qo,Qp,Qq,Qr,Qs,Qt,Qu,Qv,Qw,Qx,Qy,Qz,QA,QB,QC,QD,QE,QF,QG,QH,QI,QJ,QK,QL,QM,QN,QO,QP,QQ,QR,QS,QT,QU,QV,QW,QX,QY,QZ,X0,X1,X2,X3,X4,X5,X6,X7,X8,X9,Xa,Xb,Xc,Xd,Xe,Xf,Xg,Xh,Xi,Xj,Xk,Xl,Xm,Xn,Xo,Xp,Xq,Xr,Xs,Xt,Xu,Xv,Xw,Xx,Xy,Xz,XA,XB,reduceIte,reduceCtorEq,XC,XD,XE,XF,XG,XH,XI,XJ,XK,XL,XM,XN,XO,XP,XQ,XR,XS,XT,XU,XV,XW,XX,XY,XZ,Y0,Try.q3,Try.q4,Try.q22,Try.q23,Try.q25,Try.q27,Try.q29,Try.q31,Try.underlying33,Try.q33,Try.underlying36,Try.q36,Try.underlying37,Try.q37,Try.q48,Try.underlying50,Try.q50,Try.q58]
      refine dCall_of (kE) (by decide) ?_
      simp -implicitDefEqProofs only [Q0,Q1,Q2,Q3,Q4,Q5,Q6,Q7,Q8,Q9,Qa,Qb,Qc,Qd,Qe,Qf,Qg,Qh,Qi,Qj,Qk,Ql,Qm,Qn,Qo,Qp,Qq,Qr,Qs,Qt,Qu,Qv,Qw,Qx,Qy,Qz,QA,QB,QC,QD,QE,QF,QG,QH,QI,QJ,QK,QL,QM,QN,QO,QP,QQ,QR,QS,QT,QU,QV,QW,QX,QY,QZ,X0,X1,X2,X3,X4,X5,X6,X7,X8,X9,Xa,Xb,Xc,Xd,Xe,Xf,Xg,Xh,Xi,Xj,Xk,Xl,Xm,Xn,Xo,Xp,Xq,Xr,Xs,Xt,Xu,Xv,Xw,Xx,Xy,Xz,XA,XB,reduceIte,reduceCtorEq,XC,XD,XE,XF,XG,XH,XI,XJ,XK,XL,XM,XN,XO,XP,XQ,XR,XS,XT,XU,XV,XW,XX,XY,XZ,Y0,Try.q3,Try.q4,Try.q22,Try.q23,Try.q25,Try.q27,Try.q29,Try.q31,Try.underlying33,Try.q33,Try.underlying36,Try.q36,Try.underlying37,Try.q37,Try.q48,Try.underlying50,Try.q50,Try.q58]
      refine dCall_of (kP _) (by decide) ?_
      simp -implicitDefEqProofs only [gm,Q0,Q1,Q2,Q3,Q4,Q5,Q6,Q7,Q8,Q9,Qa,Qb,Qc,Qd,Qe,Qf,Qg,Qh,Qi,Qj,Qk,Ql,Qm,Qn,Qo,Qp,Qq,Qr,Qs,Qt,Qu,Qv,Qw,Qx,Qy,Qz,QA,QB,QC,QD,QE,QF,QG,QH,QI,QJ,QK,QL,QM,QN,QO,QP,QQ,QR,QS,QT,QU,QV,QW,QX,QY,QZ,X0,X1,X2,X3,X4,X5,X6,X7,X8,X9,Xa,Xb,Xc,Xd,Xe,Xf,Xg,Xh,Xi,Xj,Xk,Xl,Xm,Xn,Xo,Xp,Xq,Xr,Xs,Xt,Xu,Xv,Xw,Xx,Xy,Xz,XA,XB,reduceIte,reduceCtorEq,XC,XD,XE,XF,XG,XH,XI,XJ,XK,XL,XM,XN,XO,XP,XQ,XR,XS,XT,XU,XV,XW,XX,XY,XZ,Y0,Try.q3,Try.q4,Try.q22,Try.q23,Try.q25,Try.q27,Try.q29,Try.q31,Try.underlying33,Try.q33,Try.underlying36,Try.q36,Try.underlying37,Try.q37,Try.q48,Try.underlying50,Try.q50,Try.q58]
      refine dCall_of (kQ _) (by decide) ?_
      simp -implicitDefEqProofs only [wi,Q0,Q1,Q2,Q3,Q4,Q5,Q6,Q7,Q8,Q9,Qa,Qb,Qc,Qd,Qe,Qf,Qg,Qh,Qi,Qj,Qk,Ql,Qm,Qn,Qo,Qp,Qq,Qr,Qs,Qt,Qu,Qv,Qw,Qx,Qy,Qz,QA,QB,QC,QD,QE,QF,QG,QH,QI,QJ,QK,QL,QM,QN,QO,QP,QQ,QR,QS,QT,QU,QV,QW,QX,QY,QZ,X0,X1,X2,X3,X4,X5,X6,X7,X8,X9,Xa,Xb,Xc,Xd,Xe,Xf,Xg,Xh,Xi,Xj,Xk,Xl,Xm,Xn,Xo,Xp,Xq,Xr,Xs,Xt,Xu,Xv,Xw,Xx,Xy,Xz,XA,XB,reduceIte,reduceCtorEq,XC,XD,XE,XF,XG,XH,XI,XJ,XK,XL,XM,XN,XO,XP,XQ,XR,XS,XT,XU,XV,XW,XX,XY,XZ,Y0,Try.q3,Try.q4,Try.q22,Try.q23,Try.q25,Try.q27,Try.q29,Try.q31,Try.underlying33,Try.q33,Try.underlying36,Try.q36,Try.underlying37,Try.q37,Try.q48,Try.underlying50,Try.q50,Try.q58]
      exact ⟨i + 1, by simp [sub_cons, sub_nil, get_cons], ⟨by omega, es2, dn2, d2, D2, hOk2, by omega, hT2⟩, by omega⟩
    · have d1 : decide ((i : Int) < (ops.length : Int)) = false := decide_eq_false (by omega)
      refine awp_vc (by kernel_rfl) ?_
      simp -implicitDefEqProofs only [d1,lm,seqA_normal,cutK_normal,Q0,Q1,Q2,Q3,Q4,Q5,Q6,Q7,Q8,Q9,Qa,Qb,Qc,Qd,Qe,Qf,Qg,Qh,Qi,Qj,Qk,Ql,Qm,Qn,Qo,Qp,Qq,Qr,Qs,Qt,Qu,Qv,Qw,Qx,Qy,Qz,QA,QB,QC,QD,QE,QF,QG,QH,QI,QJ,QK,QL,QM,QN,QO,QP,QQ,QR,QS,QT,QU,QV,QW,QX,QY,QZ,X0,X1,X2,X3,X4,X5,X6,X7,X8,X9,Xa,Xb,Xc,Xd,Xe,Xf,Xg,Xh,Xi,Xj,Xk,Xl,Xm,Xn,Xo,Xp,Xq,Xr,Xs,Xt,Xu,Xv,Xw,Xx,Xy,Xz,XA,XB,reduceIte,reduceCtorEq,XC,XD,XE,XF,XG,XH,XI,XJ,XK,XL,XM,XN,XO,XP,XQ,XR,XS,XT,XU,XV,XW,XX,XY,XZ,Y0,Try.q3,Try.q4,Try.q22,Try.q23,Try.q25,Try.q27,Try.q29,Try.q31,Try.underlying33,Try.q33,Try.underlying36,Try.q36,Try.underlying37,Try.q37,Try.q48,Try.underlying50,Try.q50,Try.q58]
      exact ⟨es, dn, d, D, hOk.up (by omega), hT⟩
  rintro e' s' ⟨⟨es, dn, d, D, hOk, hT⟩, he⟩
  refine awp_subJ _ he ?_
  clear he e' hL0 hx0 hT0
  have hlen := hOk.len
  refine awp_seq (awp_vc (by kernel_rfl) ?_)
  simp -implicitDefEqProofs only [Q0,Q1,Q2,Q3,Q4,Q5,Q6,Q7,Q8,Q9,Qa,Qb,Qc,Qd,Qe,Qf,Qg,Qh,Qi,Qj,Qk,Ql,Qm,Qn,Qo,Qp,Qq,Qr,Qs,Qt,Qu,Qv,Qw,Qx,Qy,Qz,QA,QB,QC,QD,QE,QF,QG,QH,QI,QJ,QK,QL,QM,QN,QO,QP,QQ,QR,QS,QT,QU,QV,QW,QX,QY,QZ,X0,X1,X2,X3,X4,X5,X6,X7,X8,X9,Xa,Xb,Xc,Xd,Xe,Xf,Xg,Xh,Xi,Xj,Xk,Xl,Xm,Xn,Xo,Xp,Xq,Xr,Xs,Xt,Xu,Xv,Xw,Xx,Xy,Xz,XA,XB,reduceIte,reduceCtorEq,XC,XD,XE,XF,XG,XH,XI,XJ,XK,XL,XM,XN,XO,XP,XQ,XR,XS,XT,XU,XV,XW,XX,XY,XZ,Y0,Try.q3,Try.q4,Try.q22,Try.q23,Try.q25,Try.q27,Try.q29,Try.q31,Try.underlying33,Try.q33,Try.underlying36,Try.q36,Try.underlying37,Try.q37,Try.q48,Try.underlying50,Try.q50,Try.q58]
  refine acalls_then (kA _) ?_
  simp -implicitDefEqProofs only [ww,seqA_normal,Q0,Q1,Q2,Q3,Q4,Q5,Q6,Q7,Q8,Q9,Qa,Qb,Qc,Qd,Qe,Qf,Qg,Qh,Qi,Qj,Qk,Ql,Qm,Qn,Qo,Qp,Qq,Qr,Qs,Qt,Qu,Qv,Qw,Qx,Qy,Qz,QA,QB,QC,QD,QE,QF,QG,QH,QI,QJ,QK,QL,QM,QN,QO,QP,QQ,QR,QS,QT,QU,QV,QW,QX,QY,QZ,X0,X1,X2,X3,X4,X5,X6,X7,X8,X9,Xa,Xb,Xc,Xd,Xe,Xf,Xg,Xh,Xi,Xj,Xk,Xl,Xm,Xn,Xo,Xp,Xq,Xr,Xs,Xt,Xu,Xv,Xw,Xx,Xy,Xz,XA,XB,reduceIte,reduceCtorEq,XC,XD,XE,XF,XG,XH,XI,XJ,XK,XL,XM,XN,XO,XP,XQ,XR,XS,XT,XU,XV,XW,XX,XY,XZ,Y0,Try.q3,Try.q4,Try.q22,Try.q23,Try.q25,Try.q27,Try.q29,Try.q31,Try.underlying33,Try.q33,Try.underlying36,Try.q36,Try.underlying37,Try.q37,Try.q48,Try.underlying50,Try.q50,Try.q58]
  obtain ⟨ds, hds⟩ : ∃ ds : List Int, ds = [99, 104, 100 + w, 131072] := ⟨_, rfl⟩
  have hdl : ds.length = 4 := by rw [hds]; rfl
  rw [← hds]
  clear hds
  have kB := fun a c d => c_Balance es (by omega) hOk.val a c d (.mp j) s' id hT.led.1
  have kC := fun a c d => rr_Balance es (by omega) hOk.val a c d D s' m hT.rl.box
  have kH := c_Hash es (by omega) s' id (.mp j) hT.led.1
  have kI := rr_Hash es (by omega) s' m D hT.rl.box
  refine awp_seq (awp_vc (by kernel_rfl) ?_)
  simp -implicitDefEqProofs only [seqA_normal,seqA_ret,seqA_exit,Q0,Q1,Q2,Q3,Q4,Q5,Q6,Q7,Q8,Q9,Qa,Qb,Qc,Qd,Qe,Qf,Qg,Qh,Qi,Qj,Qk,Ql,Qm,Qn,Qo,Qp,Qq,Qr,Qs,Qt,Qu,Qv,Qw,Qx,Qy,Qz,QA,QB,QC,QD,QE,QF,QG,QH,QI,QJ,QK,QL,QM,QN,QO,QP,QQ,QR,QS,QT,QU,QV,QW,QX,QY,QZ,X0,X1,X2,X3,X4,X5,X6,X7,X8,X9,Xa,Xb,Xc,Xd,Xe,Xf,Xg,Xh,Xi,Xj,Xk,Xl,Xm,Xn,Xo,Xp,Xq,Xr,Xs,Xt,Xu,Xv,Xw,Xx,Xy,Xz,XA,XB,reduceIte,reduceCtorEq,XC,XD,XE,XF,XG,XH,XI,XJ,XK,XL,XM,XN,XO,XP,XQ,XR,XS,XT,XU,XV,XW,XX,XY,XZ,Y0,Try.q3,Try.q4,Try.q22,Try.q23,Try.q25,Try.q27,Try.q29,Try.q31,Try.underlying33,Try.q33,Try.underlying36,Try.q36,Try.underlying37,Try.q37,Try.q48,Try.underlying50,Try.q50,Try.q58]
  refine awp_loopW (fun a : Nat => [(10, .int .i64 a), (9, .ints .i64 ds), (6, .ptr m 0), (5, .ptr id 0)]) (fun a s => a ≤ 5 ∧ s = s') (fun a => 5 - a) 0 (by simp [sub_cons, sub_nil, get_cons]) ⟨by omega, rfl⟩ ?_
  rintro a s2 ⟨ha, hs2⟩
  rw [hs2]
  clear hs2 s2
  by_cases hla : a < 5
  · have d1 : decide ((a : Int) < 5) = true := decide_eq_true (by omega)
    have wa : IntKind.i64.wrap ((a : Int) + 1) = ((a + 1 : Nat) : Int) := by rw [wrap_i64 (by omega) (by omega)]; rfl
    refine awp_seq (awp_vc (by kernel_rfl) ?_)
    simp -implicitDefEqProofs only [seqA_normal,seqA_ret,seqA_exit,d1,Q0,Q1,Q2,Q3,Q4,Q5,Q6,Q7,Q8,Q9,Qa,Qb,Qc,Qd,Qe,Qf,Qg,Qh,Qi,Qj,Qk,Ql,Qm,Qn,Qo,Qp,Qq,Qr,Qs,Qt,Qu,Qv,Qw,Qx,Qy,Qz,QA,QB,QC,QD,QE,QF,QG,QH,QI,QJ,QK,QL,QM,QN,QO,QP,QQ,QR,QS,QT,QU,QV,QW,QX,QY,QZ,X0,X1,X2,X3,X4,X5,X6,X7,X8,X9,Xa,Xb,Xc,Xd,Xe,Xf,Xg,Xh,Xi,Xj,Xk,Xl,Xm,Xn,Xo,Xp,Xq,Xr,Xs,Xt,Xu,Xv,Xw,Xx,Xy,Xz,XA,XB,reduceIte,reduceCtorEq,XC,XD,XE,XF,XG,XH,XI,XJ,XK,XL,XM,XN,XO,XP,XQ,XR,XS,XT,XU,XV,XW,XX,XY,XZ,Y0,Try.q3,Try.q4,Try.q22,Try.q23,Try.q25,Try.q27,Try.q29,Try.q31,Try.underlying33,Try.q33,Try.underlying36,Try.q36,Try.underlying37,Try.q37,Try.q48,Try.underlying50,Try.q50,Try.q58]
    refine awp_seq (awp_blk ?_)
    refine awp_seq (awp_vc (by kernel_rfl) ?_)
    simp -implicitDefEqProofs only [seqA_normal,seqA_ret,seqA_exit,Q0,Q1,Q2,Q3,Q4,Q5,Q6,Q7,Q8,Q9,Qa,Qb,Qc,Qd,Qe,Qf,Qg,Qh,Qi,Qj,Qk,Ql,Qm,Qn,Qo,Qp,Qq,Qr,Qs,Qt,Qu,Qv,Qw,Qx,Qy,Qz,QA,QB,QC,QD,QE,QF,QG,QH,QI,QJ,QK,QL,QM,QN,QO,QP,QQ,QR,QS,QT,QU,QV,QW,QX,QY,QZ,X0,X1,X2,X3,X4,X5,X6,X7,X8,X9,Xa,Xb,Xc,Xd,Xe,Xf,Xg,Xh,Xi,Xj,Xk,Xl,Xm,Xn,Xo,Xp,Xq,Xr,Xs,Xt,Xu,Xv,Xw,Xx,Xy,Xz,XA,XB,reduceIte,reduceCtorEq,XC,XD,XE,XF,XG,XH,XI,XJ,XK,XL,XM,XN,XO,XP,XQ,XR,XS,XT,XU,XV,XW,XX,XY,XZ,Y0,Try.q3,Try.q4,Try.q22,Try.q23,Try.q25,Try.q27,Try.q29,Try.q31,Try.underlying33,Try.q33,Try.underlying36,Try.q36,Try.underlying37,Try.q37,Try.q48,Try.underlying50,Try.q50,Try.q58]
    refine awp_blk ?_
    refine awp_loopW (fun i : Nat => [(11, .int .i64 i), (10, .int .i64 a), (9, .ints .i64 ds), (6, .ptr m 0), (5, .ptr id 0)]) (fun i s => i ≤ 4 ∧ s = s') (fun i => 4 - i) 0 (by simp [sub_cons, sub_nil, get_cons]) ⟨by omega, rfl⟩ ?_
    rintro i s2 ⟨hi, hs2⟩
    rw [hs2]
    clear hs2 s2
    by_cases hli : i < 4
    · have d2 : decide ((i : Int) < 4) = true := decide_eq_true (by omega)
      have wi : IntKind.i64.wrap ((i : Int) + 1) = ((i + 1 : Nat) : Int) := by rw [wrap_i64 (by omega) (by omega)]; rfl
      have hgi : ds.getD (i : Int).toNat 0 = ds[i]'(by omega) := by rw [Int.toNat_natCast, getD_get (by omega)]
      have bi : (0 : Int) ≤ (i : Int) ∧ (i : Int) < 4 := by omega
      generalize ds[i]'(by omega) = dd at hgi
      refine awp_seq (awp_vc (by kernel_rfl) ?_)
      simp -implicitDefEqProofs only [seqA_normal,seqA_ret,seqA_exit,d2,Q0,Q1,Q2,Q3,Q4,Q5,Q6,Q7,Q8,Q9,Qa,Qb,Qc,Qd,Qe,Qf,Qg,Qh,Qi,Qj,Qk,Ql,Qm,Qn,Qo,Qp,Qq,Qr,Qs,Qt,Qu,Qv,Qw,Qx,Qy,Qz,QA,QB,QC,QD,QE,QF,QG,QH,QI,QJ,QK,QL,QM,QN,QO,QP,QQ,QR,QS,QT,QU,QV,QW,QX,QY,QZ,X0,X1,X2,X3,X4,X5,X6,X7,X8,X9,Xa,Xb,Xc,Xd,Xe,Xf,Xg,Xh,Xi,Xj,Xk,Xl,Xm,Xn,Xo,Xp,Xq,Xr,Xs,Xt,Xu,Xv,Xw,Xx,Xy,Xz,XA,XB,reduceIte,reduceCtorEq,XC,XD,XE,XF,XG,XH,XI,XJ,XK,XL,XM,XN,XO,XP,XQ,XR,XS,XT,XU,XV,XW,XX,XY,XZ,Y0,Try.q3,Try.q4,Try.q22,Try.q23,Try.q25,Try.q27,Try.q29,Try.q31,Try.underlying33,Try.q33,Try.underlying36,Try.q36,Try.underlying37,Try.q37,Try.q48,Try.underlying50,Try.q50,Try.q58]
      refine awp_seq (awp_blk ?_)
      refine awp_seq (awp_vc (by kernel_rfl) ?_)
      simp -implicitDefEqProofs only [seqA_normal,seqA_ret,seqA_exit,Q0,Q1,Q2,Q3,Q4,Q5,Q6,Q7,Q8,Q9,Qa,Qb,Qc,Qd,Qe,Qf,Qg,Qh,Qi,Qj,Qk,Ql,Qm,Qn,Qo,Qp,Qq,Qr,Qs,Qt,Qu,Qv,Qw,Qx,Qy,Qz,QA,QB,QC,QD,QE,QF,QG,QH,QI,QJ,QK,QL,QM,QN,QO,QP,QQ,QR,QS,QT,QU,QV,QW,QX,QY,QZ,X0,X1,X2,X3,X4,X5,X6,X7,X8,X9,Xa,Xb,Xc,Xd,Xe,Xf,Xg,Xh,Xi,Xj,Xk,Xl,Xm,Xn,Xo,Xp,Xq,Xr,Xs,Xt,Xu,Xv,Xw,Xx,Xy,Xz,XA,XB,reduceIte,reduceCtorEq,XC,XD,XE,XF,XG,XH,XI,XJ,XK,XL,XM,XN,XO,XP,XQ,XR,XS,XT,XU,XV,XW,XX,XY,XZ,Y0,Try.q3,Try.q4,Try.q22,Try.q23,Try.q25,Try.q27,Try.q29,Try.q31,Try.underlying33,Try.q33,Try.underlying36,Try.q36,Try.underlying37,Try.q37,Try.q48,Try.underlying50,Try.q50,Try.q58]
      refine awp_blk ?_
      refine awp_loopW (fun c : Nat => [(12, .int .i64 c), (11, .int .i64 i), (10, .int .i64 a), (9, .ints .i64 ds), (6, .ptr m 0), (5, .ptr id 0)]) (fun c s => c ≤ 2 ∧ s = s') (fun c => 2 - c) 0 (by simp [sub_cons, sub_nil, get_cons]) ⟨by omega, rfl⟩ ?_
      rintro c s2 ⟨hc, hs2⟩
      rw [hs2]
      clear hs2 s2
      by_cases hlc : c < 2
      · have d3 : decide ((c : Int) < 2) = true := decide_eq_true (by omega)
        have wc : IntKind.i64.wrap ((c : Int) + 1) = ((c + 1 : Nat) : Int) := by rw [wrap_i64 (by omega) (by omega)]; rfl
        have q1 := kB a c dd
        have q2 := kC a c dd
        generalize (balQ es a c dd).1 = v1 at *
        generalize (balQ es a c dd).2 = v2 at *
        have e1 : decide (v1 = v1) = true := decide_eq_true rfl
        have e2 : decide (v2 = v2) = true := decide_eq_true rfl
        refine awp_vc (by kernel_rfl) ?_
        simp -implicitDefEqProofs only [d3,hdl,hgi,Q0,Q1,Q2,Q3,Q4,Q5,Q6,Q7,Q8,Q9,Qa,Qb,Qc,Qd,Qe,Qf,Qg,Qh,Qi,Qj,Qk,Ql,Qm,Qn,Qo,Qp,Qq,Qr,Qs,Qt,Qu,Qv,Qw,Qx,Qy,Qz,QA,QB,QC,QD,QE,QF,QG,QH,QI,QJ,QK,QL,QM,QN,QO,QP,QQ,QR,QS,QT,QU,QV,QW,QX,QY,QZ,X0,X1,X2,X3,X4,X5,X6,X7,X8,X9,Xa,Xb,Xc,Xd,Xe,Xf,Xg,Xh,Xi,Xj,Xk,Xl,Xm,Xn,Xo,Xp,Xq,Xr,Xs,Xt,Xu,Xv,Xw,Xx,Xy,Xz,XA,XB,reduceIte,reduceCtorEq,XC,XD,XE,XF,XG,XH,XI,XJ,XK,XL,XM,XN,XO,XP,XQ,XR,XS,XT,XU,XV,XW,XX,XY,XZ,Y0,Try.q3,Try.q4,Try.q22,Try.q23,Try.q25,Try.q27,Try.q29,Try.q31,Try.underlying33,Try.q33,Try.underlying36,Try.q36,Try.underlying37,Try.q37,Try.q48,Try.underlying50,Try.q50,Try.q58]
        refine ⟨bi, ?_⟩
        refine acalls_then (q1) ?_
        simp -implicitDefEqProofs only [hdl,hgi,Q0,Q1,Q2,Q3,Q4,Q5,Q6,Q7,Q8,Q9,Qa,Qb,Qc,Qd,Qe,Qf,Qg,Qh,Qi,Qj,Qk,Ql,Qm,Qn,Qo,Qp,Qq,Qr,Qs,Qt,Qu,Qv,Qw,Qx,Qy,Qz,QA,QB,QC,QD,QE,QF,QG,QH,QI,QJ,QK,QL,QM,QN,QO,QP,QQ,QR,QS,QT,QU,QV,QW,QX,QY,QZ,X0,X1,X2,X3,X4,X5,X6,X7,X8,X9,Xa,Xb,Xc,Xd,Xe,Xf,Xg,Xh,Xi,Xj,Xk,Xl,Xm,Xn,Xo,Xp,Xq,Xr,Xs,Xt,Xu,Xv,Xw,Xx,Xy,Xz,XA,XB,reduceIte,reduceCtorEq,XC,XD,XE,XF,XG,XH,XI,XJ,XK,XL,XM,XN,XO,XP,XQ,XR,XS,XT,XU,XV,XW,XX,XY,XZ,Y0,Try.q3,Try.q4,Try.q22,Try.q23,Try.q25,Try.q27,Try.q29,Try.q31,Try.underlying33,Try.q33,Try.underlying36,Try.q36,Try.underlying37,Try.q37,Try.q48,Try.underlying50,Try.q50,Try.q58]
        refine ⟨bi, ?_⟩
        refine acalls_then (q2) ?_
        simp -implicitDefEqProofs only [e1,e2,wc,Q0,Q1,Q2,Q3,Q4,Q5,Q6,Q7,Q8,Q9,Qa,Qb,Qc,Qd,Qe,Qf,Qg,Qh,Qi,Qj,Qk,Ql,Qm,Qn,Qo,Qp,Qq,Qr,Qs,Qt,Qu,Qv,Qw,Qx,Qy,Qz,QA,QB,QC,QD,QE,QF,QG,QH,QI,QJ,QK,QL,QM,QN,QO,QP,QQ,QR,QS,QT,QU,QV,QW,QX,QY,QZ,X0,X1,X2,X3,X4,X5,X6,X7,X8,X9,Xa,Xb,Xc,Xd,Xe,Xf,Xg,Xh,Xi,Xj,Xk,Xl,Xm,Xn,Xo,Xp,Xq,Xr,Xs,Xt,Xu,Xv,Xw,Xx,Xy,Xz,XA,XB,reduceIte,reduceCtorEq,XC,XD,XE,XF,XG,XH,XI,XJ,XK,XL,XM,XN,XO,XP,XQ,XR,XS,XT,XU,XV,XW,XX,XY,XZ,Y0,Try.q3,Try.q4,Try.q22,Try.q23,Try.q25,Try.q27,Try.q29,Try.q31,Try.underlying33,Try.q33,Try.underlying36,Try.q36,Try.underlying37,Try.q37,Try.q48,Try.underlying50,Try.q50,Try.q58]
        exact ⟨c + 1, by simp, by omega, by omega⟩
      · have d3 : decide ((c : Int) < 2) = false := decide_eq_false (by omega)
        refine awp_vc (by kernel_rfl) ?_
        simp -implicitDefEqProofs only [d3,seqA_normal,Q0,Q1,Q2,Q3,Q4,Q5,Q6,Q7,Q8,Q9,Qa,Qb,Qc,Qd,Qe,Qf,Qg,Qh,Qi,Qj,Qk,Ql,Qm,Qn,Qo,Qp,Qq,Qr,Qs,Qt,Qu,Qv,Qw,Qx,Qy,Qz,QA,QB,QC,QD,QE,QF,QG,QH,QI,QJ,QK,QL,QM,QN,QO,QP,QQ,QR,QS,QT,QU,QV,QW,QX,QY,QZ,X0,X1,X2,X3,X4,X5,X6,X7,X8,X9,Xa,Xb,Xc,Xd,Xe,Xf,Xg,Xh,Xi,Xj,Xk,Xl,Xm,Xn,Xo,Xp,Xq,Xr,Xs,Xt,Xu,Xv,Xw,Xx,Xy,Xz,XA,XB,reduceIte,reduceCtorEq,XC,XD,XE,XF,XG,XH,XI,XJ,XK,XL,XM,XN,XO,XP,XQ,XR,XS,XT,XU,XV,XW,XX,XY,XZ,Y0,Try.q3,Try.q4,Try.q22,Try.q23,Try.q25,Try.q27,Try.q29,Try.q31,Try.underlying33,Try.q33,Try.underlying36,Try.q36,Try.underlying37,Try.q37,Try.q48,Try.underlying50,Try.q50,Try.q58]
        refine awp_vc (by kernel_rfl) ?_
        simp -implicitDefEqProofs only [wi,Q0,Q1,Q2,Q3,Q4,Q5,Q6,Q7,Q8,Q9,Qa,Qb,Qc,Qd,Qe,Qf,Qg,Qh,Qi,Qj,Qk,Ql,Qm,Qn,Qo,Qp,Qq,Qr,Qs,Qt,Qu,Qv,Qw,Qx,Qy,Qz,QA,QB,QC,QD,QE,QF,QG,QH,QI,QJ,QK,QL,QM,QN,QO,QP,QQ,QR,QS,QT,QU,QV,QW,QX,QY,QZ,X0,X1,X2,X3,X4,X5,X6,X7,X8,X9,Xa,Xb,Xc,Xd,Xe,Xf,Xg,Xh,Xi,Xj,Xk,Xl,Xm,Xn,Xo,Xp,Xq,Xr,Xs,Xt,Xu,Xv,Xw,Xx,Xy,Xz,XA,XB,reduceIte,reduceCtorEq,XC,XD,XE,XF,XG,XH,XI,XJ,XK,XL,XM,XN,XO,XP,XQ,XR,XS,XT,XU,XV,XW,XX,XY,XZ,Y0,Try.q3,Try.q4,Try.q22,Try.q23,Try.q25,Try.q27,Try.q29,Try.q31,Try.underlying33,Try.q33,Try.underlying36,Try.q36,Try.underlying37,Try.q37,Try.q48,Try.underlying50,Try.q50,Try.q58]
        exact ⟨i + 1, by simp, by omega, by omega⟩
    · have d2 : decide ((i : Int) < 4) = false := decide_eq_false (by omega)
      refine awp_vc (by kernel_rfl) ?_
      simp -implicitDefEqProofs only [d2,seqA_normal,Q0,Q1,Q2,Q3,Q4,Q5,Q6,Q7,Q8,Q9,Qa,Qb,Qc,Qd,Qe,Qf,Qg,Qh,Qi,Qj,Qk,Ql,Qm,Qn,Qo,Qp,Qq,Qr,Qs,Qt,Qu,Qv,Qw,Qx,Qy,Qz,QA,QB,QC,QD,QE,QF,QG,QH,QI,QJ,QK,QL,QM,QN,QO,QP,QQ,QR,QS,QT,QU,QV,QW,QX,QY,QZ,X0,X1,X2,X3,X4,X5,X6,X7,X8,X9,Xa,Xb,Xc,Xd,Xe,Xf,Xg,Xh,Xi,Xj,Xk,Xl,Xm,Xn,Xo,Xp,Xq,Xr,Xs,Xt,Xu,Xv,Xw,Xx,Xy,Xz,XA,XB,reduceIte,reduceCtorEq,XC,XD,XE,XF,XG,XH,XI,XJ,XK,XL,XM,XN,XO,XP,XQ,XR,XS,XT,XU,XV,XW,XX,XY,XZ,Y0,Try.q3,Try.q4,Try.q22,Try.q23,Try.q25,Try.q27,Try.q29,Try.q31,Try.underlying33,Try.q33,Try.underlying36,Try.q36,Try.underlying37,Try.q37,Try.q48,Try.underlying50,Try.q50,Try.q58]
      refine awp_vc (by kernel_rfl) ?_
      simp -implicitDefEqProofs only [wa,Q0,Q1,Q2,Q3,Q4,Q5,Q6,Q7,Q8,Q9,Qa,Qb,Qc,Qd,Qe,Qf,Qg,Qh,Qi,Qj,Qk,Ql,Qm,Qn,Qo,Qp,Qq,Qr,Qs,Qt,Qu,Qv,Qw,Qx,Qy,Qz,QA,QB,QC,QD,QE,QF,QG,QH,QI,QJ,QK,QL,QM,QN,QO,QP,QQ,QR,QS,QT,QU,QV,QW,QX,QY,QZ,X0,X1,X2,X3,X4,X5,X6,X7,X8,X9,Xa,Xb,Xc,Xd,Xe,Xf,Xg,Xh,Xi,Xj,Xk,Xl,Xm,Xn,Xo,Xp,Xq,Xr,Xs,Xt,Xu,Xv,Xw,Xx,Xy,Xz,XA,XB,reduceIte,reduceCtorEq,XC,XD,XE,XF,XG,XH,XI,XJ,XK,XL,XM,XN,XO,XP,XQ,XR,XS,XT,XU,XV,XW,XX,XY,XZ,Y0,Try.q3,Try.q4,Try.q22,Try.q23,Try.q25,Try.q27,Try.q29,Try.q31,Try.underlying33,Try.q33,Try.underlying36,Try.q36,Try.underlying37,Try.q37,Try.q48,Try.underlying50,Try.q50,Try.q58]
      exact ⟨a + 1, by simp, by omega, by omega⟩
  · have d1 : decide ((a : Int) < 5) = false := decide_eq_false (by omega)
    generalize sumR lblL (wordsE es) = hh at *
    have e1 : decide (hh = hh) = true := decide_eq_true rfl
    refine awp_vc (by kernel_rfl) ?_
    simp -implicitDefEqProofs only [d1,seqA_normal,Q0,Q1,Q2,Q3,Q4,Q5,Q6,Q7,Q8,Q9,Qa,Qb,Qc,Qd,Qe,Qf,Qg,Qh,Qi,Qj,Qk,Ql,Qm,Qn,Qo,Qp,Qq,Qr,Qs,Qt,Qu,Qv,Qw,Qx,Qy,Qz,QA,QB,QC,QD,QE,QF,QG,QH,QI,QJ,QK,QL,QM,QN,QO,QP,QQ,QR,QS,QT,QU,QV,QW,QX,QY,QZ,X0,X1,X2,X3,X4,X5,X6,X7,X8,X9,Xa,Xb,Xc,Xd,Xe,Xf,Xg,Xh,Xi,Xj,Xk,Xl,Xm,Xn,Xo,Xp,Xq,Xr,Xs,Xt,Xu,Xv,Xw,Xx,Xy,Xz,XA,XB,reduceIte,reduceCtorEq,XC,XD,XE,XF,XG,XH,XI,XJ,XK,XL,XM,XN,XO,XP,XQ,XR,XS,XT,XU,XV,XW,XX,XY,XZ,Y0,Try.q3,Try.q4,Try.q22,Try.q23,Try.q25,Try.q27,Try.q29,Try.q31,Try.underlying33,Try.q33,Try.underlying36,Try.q36,Try.underlying37,Try.q37,Try.q48,Try.underlying50,Try.q50,Try.q58]
    refine awp_vc (by kernel_rfl) ?_
    simp -implicitDefEqProofs only [Q0,Q1,Q2,Q3,Q4,Q5,Q6,Q7,Q8,Q9,Qa,Qb,Qc,Qd,Qe,Qf,Qg,Qh,Qi,Qj,Qk,Ql,Qm,Qn,Qo,Qp,Qq,Qr,Qs,Qt,Qu,Qv,Qw,Qx,Qy,Qz,QA,QB,QC,QD,QE,QF,QG,QH,QI,QJ,QK,QL,QM,QN,QO,QP,QQ,QR,QS,QT,QU,QV,QW,QX,QY,QZ,X0,X1,X2,X3,X4,X5,X6,X7,X8,X9,Xa,Xb,Xc,Xd,Xe,Xf,Xg,Xh,Xi,Xj,Xk,Xl,Xm,Xn,Xo,Xp,Xq,Xr,Xs,Xt,Xu,Xv,Xw,Xx,Xy,Xz,XA,XB,reduceIte,reduceCtorEq,XC,XD,XE,XF,XG,XH,XI,XJ,XK,XL,XM,XN,XO,XP,XQ,XR,XS,XT,XU,XV,XW,XX,XY,XZ,Y0,Try.q3,Try.q4,Try.q22,Try.q23,Try.q25,Try.q27,Try.q29,Try.q31,Try.underlying33,Try.q33,Try.underlying36,Try.q36,Try.underlying37,Try.q37,Try.q48,Try.underlying50,Try.q50,Try.q58]
    refine acalls_then (kH) ?_
    simp -implicitDefEqProofs only [Q0,Q1,Q2,Q3,Q4,Q5,Q6,Q7,Q8,Q9,Qa,Qb,Qc,Qd,Qe,Qf,Qg,Qh,Qi,Qj,Qk,Ql,Qm,Qn,Qo,Qp,Qq,Qr,Qs,Qt,Qu,Qv,Qw,Qx,Qy,Qz,QA,QB,QC,QD,QE,QF,QG,QH,QI,QJ,QK,QL,QM,QN,QO,QP,QQ,QR,QS,QT,QU,QV,QW,QX,QY,QZ,X0,X1,X2,X3,X4,X5,X6,X7,X8,X9,Xa,Xb,Xc,Xd,Xe,Xf,Xg,Xh,Xi,Xj,Xk,Xl,Xm,Xn,Xo,Xp,Xq,Xr,Xs,Xt,Xu,Xv,Xw,Xx,Xy,Xz,XA,XB,reduceIte,reduceCtorEq,XC,XD,XE,XF,XG,XH,XI,XJ,XK,XL,XM,XN,XO,XP,XQ,XR,XS,XT,XU,XV,XW,XX,XY,XZ,Y0,Try.q3,Try.q4,Try.q22,Try.q23,Try.q25,Try.q27,Try.q29,Try.q31,Try.underlying33,Try.q33,Try.underlying36,Try.q36,Try.underlying37,Try.q37,Try.q48,Try.underlying50,Try.q50,Try.q58]
    refine acalls_then (kI) ?_
    simp -implicitDefEqProofs only [e1,Q0,Q1,Q2,Q3,Q4,Q5,Q6,Q7,Q8,Q9,Qa,Qb,Qc,Qd,Qe,Qf,Qg,Qh,Qi,Qj,Qk,Ql,Qm,Qn,Qo,Qp,Qq,Qr,Qs,Qt,Qu,Qv,Qw,Qx,Qy,Qz,QA,QB,QC,QD,QE,QF,QG,QH,QI,QJ,QK,QL,QM,QN,QO,QP,QQ,QR,QS,QT,QU,QV,QW,QX,QY,QZ,X0,X1,X2,X3,X4,X5,X6,X7,X8,X9,Xa,Xb,Xc,Xd,Xe,Xf,Xg,Xh,Xi,Xj,Xk,Xl,Xm,Xn,Xo,Xp,Xq,Xr,Xs,Xt,Xu,Xv,Xw,Xx,Xy,Xz,XA,XB,reduceIte,reduceCtorEq,XC,XD,XE,XF,XG,XH,XI,XJ,XK,XL,XM,XN,XO,XP,XQ,XR,XS,XT,XU,XV,XW,XX,XY,XZ,Y0,Try.q3,Try.q4,Try.q22,Try.q23,Try.q25,Try.q27,Try.q29,Try.q31,Try.underlying33,Try.q33,Try.underlying36,Try.q36,Try.underlying37,Try.q37,Try.q48,Try.underlying50,Try.q50,Try.q58]
    refine acalls_then (kL _) ?_
    simp -implicitDefEqProofs only [Q0,Q1,Q2,Q3,Q4,Q5,Q6,Q7,Q8,Q9,Qa,Qb,Qc,Qd,Qe,Qf,Qg,Qh,Qi,Qj,Qk,Ql,Qm,Qn,Qo,Qp,Qq,Qr,Qs,Qt,Qu,Qv,Qw,Qx,Qy,Qz,QA,QB,QC,QD,QE,QF,QG,QH,QI,QJ,QK,QL,QM,QN,QO,QP,QQ,QR,QS,QT,QU,QV,QW,QX,QY,QZ,X0,X1,X2,X3,X4,X5,X6,X7,X8,X9,Xa,Xb,Xc,Xd,Xe,Xf,Xg,Xh,Xi,Xj,Xk,Xl,Xm,Xn,Xo,Xp,Xq,Xr,Xs,Xt,Xu,Xv,Xw,Xx,Xy,Xz,XA,XB,reduceIte,reduceCtorEq,XC,XD,XE,XF,XG,XH,XI,XJ,XK,XL,XM,XN,XO,XP,XQ,XR,XS,XT,XU,XV,XW,XX,XY,XZ,Y0,Try.q3,Try.q4,Try.q22,Try.q23,Try.q25,Try.q27,Try.q29,Try.q31,Try.underlying33,Try.q33,Try.underlying36,Try.q36,Try.underlying37,Try.q37,Try.q48,Try.underlying50,Try.q50,Try.q58]

end Go.Proofs
