/-
  Taxonomies: the documented example; contract.
-/
import Derived.Test.YteejpckkgepecaaTi
import Derived.Test.YteejpckkgepecaaHa
namespace Go.Proofs
open Go.Pa
open Go.Pa renaming vc_seq → Q0, vc_block → Q1, vc_exit → Q2, vc_ret → Q3, vc_skip → Q4, vc_region → Q5, vc_draw → Q6, vc_loop → Q7, vc_range → Q8, vc_cond → Q9, condV_true → Qa, condV_false → Qb, condV_bool → Qc, seqK_normal → Qd, seqK_ret → Qe, seqK_exit → Qf, blkK_normal → Qg, blkK_ret → Qh, blkK_exit → Qi, loopK_ret → Qj, loopK_exit → Qk, loopK_normal → Ql, vcOps_nil → Qm, vcOps_cons → Qn, vcOps_guardM → Qo, guardM_some → Qp, guardV_und → Qq, guardV_same → Qr, guardV_tf → Qs, guardV_ft → Qt, guardV_bool → Qu, vcOp_out → Qv, outV_val → Qw, outV_need → Qx, outV_no → Qy, opK_run → Qz, opK_none → QA, vcS → QB, evA → QC, evBin → QD, nilA → QE, nilOf → QF, intOp → QG, strOp → QH, evUn → QI, evConv → QJ, evField → QK, evFieldAddr → QL, evIndexAddr → QM, evIndex → QN, evIndexA → QO, bnd → QP, evSlice → QQ, evLen → QR, evPick → QS, evExtract → QT, evNilCheck → QU, evMin → QV, evMax → QW, evLoadI → QX, cO_int → QY, cO_bool → QZ, cO_str → X0, cO_nils → X1, cO_emp → X2, cO_ints → X3, cO_rows → X4, cO_mvec → X5, cO_ptr → X6, cO_eptr → X7, cO_iptr → X8, cO_nilp → X9, cO_fn → Xa, cO_nilf → Xb, cO_mp → Xc, cO_nilm → Xd, cO_glob → Xe, cO_agg → Xf, partsOne → Xh, intsOf → Xi, rowsAV → Xj, evBuildSlice → Xk, evBuild → Xl, fillA → Xm, splice → Xn, evBuiltin → Xo, vcE_nil → Xp, vcE_cons → Xq, vcE_guardM → Xr, guardME_some → Xs, guardD_und → Xt, guardD_same → Xu, guardD_tf → Xv, guardD_ft → Xw, guardD_bool → Xx, dK_run → Xy, dK_none → Xz, dOp_call → XA, callA_fn → XB, dOp → XC, outA_val → XD, outA_need → XE, cl → XF, vcLoad → XG, vcStore → XH, vcMake → XI, evO_tmp → XJ, evO_int → XK, evO_bool → XL, evO_nils → XM, evO_nilp → XN, evO_nilf → XO, evO_nilm → XP, evO_str → XQ, evO_func → XR, evO_glob → XS, convA → XT, evIndexArr → XU, lookA_cons → XV, get_cons → XW, sub_cons → XX, sub_nil → XY, retK_ret → XZ, retK_normal → Y0, retA → Y1, ressA → Y2, resA → Y3, envOf → Y4, vcR_skip → Y8, vcR_seq → Y9, vcR_block → Ya, vcR_exit → Yb, vcR_ret → Yc, vcR_region → Yd, vcR_draw → Ye, vcR_cond → Yf, condR_true → Yg, condR_false → Yh, condR_bool → Yi, seqR_normal → Yj, seqR_ret → Yk, seqR_exit → Yl, asgEnv → Ym, parEnv → Yn, dstAt → Z6, sto_assoc → Z7, sto_len → Z8, sto_at → Z9, sto_at0 → Za, sto_set → Zb, sto_set0 → Zc, vcLook → Zn, vcPut → Zo, vcEnt → Zp, vcESt → Zq, vcMLen → Zr, vcDel → Zs, vcClear → Zt, vcLookD → Zu, ansL_t → Zv, ansL_f → Zw
open Go.Pa.AV renaming cell → Xg
open Go.Pa.Env renaming put → Y5
open List renaming set_cons_zero → Y6, set_cons_succ → Y7, foldl_cons → Yo, foldl_nil → Yp, map_cons → Yq, map_nil → Yr, toList_toArray → Ys, getElem?_cons_zero → Yt, getElem?_cons_succ → Yu, nil_append → Yy, append_nil → Yz, cons_append → YA, singleton_append → YB, length_cons → YC, length_nil → YD, all_cons → YE, all_nil → YF, take_succ_cons → YG, take_zero → YH, take_nil → YI, drop_zero → YJ, drop_succ_cons → YK, drop_nil → YL, contains_nil → YM, contains_cons → YN
open Option renaming bind_some → Yv, map_some → Yw, map_none → Yx
open Bool renaming or_false → YO, false_or → YP, or_true → YQ, true_or → YR, false_eq_true → Z0, not_true → Z1, not_false → Z2, and_true → Z3, true_and → Z4, and_self → Z5
open Nat renaming reduceEqDiff → YS, reduceAdd → YT, reduceSub → YU, reduceMul → YV, reduceLT → YW, reduceLeDiff → YX, reduceBNe → YY, reduceBEq → YZ, zero_add → Zf, add_zero → Zg
open UInt8 renaming reduceToNat → Zd
open Int renaming cast_ofNat_Int → Ze, reduceToNat → Zh, reduceLT → Zi, reduceLE → Zj, reduceNeg → Zk, reduceEq → Zl, reduceNe → Zm
set_option linter.unusedSimpArgs false
set_option linter.unusedVariables false
set_option maxRecDepth 20000
set_option maxHeartbeats 2000000

theorem is4b (c d : Int) (hc : 0 ≤ c ∧ c < 4) (hd : 0 ≤ d ∧ d < 4) : isI P4 c d = decide (c = d ∨ (c = 1 ∧ d = 0) ∨ (c = 2 ∧ d = 0) ∨ (c = 3 ∧ d < 3)) := by
  obtain ⟨C, rfl⟩ : ∃ C : Nat, c = (C : Int) := ⟨c.toNat, by omega⟩
  obtain ⟨D, rfl⟩ : ∃ D : Nat, d = (D : Int) := ⟨d.toNat, by omega⟩
  rw [is4 (by omega) (by omega)]
  congr 1
  apply propext
  omega

theorem up4 : colV P4.length [1] (fun c => [1].any fun d => isI P4 d c) = .tup [.ints .i64 [0, 1], .int .i64 0] := by
  have hl : P4.length = 4 := rfl
  unfold colV badI filtI
  rw [hl]
  simp [List.range_succ, List.filter_cons, is4b]

theorem down4 : colV P4.length [1] (fun d => isI P4 d 1) = .tup [.ints .i64 [1, 3], .int .i64 0] := by
  have hl : P4.length = 4 := rfl
  unfold colV badI filtI
  rw [hl]
  simp [List.range_succ, List.filter_cons, is4b]

theorem least4 : colV P4.length [0, 1, 2] (fun c => decide (c ∈ [(0 : Int), 1, 2]) && !([0, 1, 2] : List Int).any (lowI P4 c)) = .tup [.ints .i64 [1, 2], .int .i64 0] := by
  have hl : P4.length = 4 := rfl
  unfold colV badI filtI lowI
  rw [hl]
  simp [List.range_succ, List.filter_cons, is4b]

theorem c_new4 (s : Store) : ACalls Try.prog 11 [.rows 1 [[.nils], [.ints .i64 [0]], [.ints .i64 [0]], [.ints .i64 [1, 2]]]] s (fun r s' => r = .tup [taxA P4, .int .i64 0] ∧ s' = s) := by
  rw [← new4]
  refine shutIn5 (fun _ => False) ⟨rfl, fun i y hy => .inr ⟨id, y, hy, .same _⟩⟩ (args' := [.rows 1 (P4.map rowI)]) ?_ (c_New P4 (by decide) (by decide) s)
  intro G G' vs hh hl
  cases hl with
  | cons h1 h2 =>
    cases h2
    refine .cons (hh _ _ _ (Sh.rows 1 [[.nils], [.ints .i64 [0]], [.ints .i64 [0]], [.ints .i64 [1, 2]]] (P4.map rowI) rfl (rowI_len P4) fun i x y hx hy => ?_) h1) .nil
    match i with
    | 0 => cases hx; cases hy; exact .nilI _
    | 1 => cases hx; cases hy; exact .same _
    | 2 => cases hx; cases hy; exact .same _
    | 3 => cases hx; cases hy; exact .same _
    | n + 4 => cases hx

theorem c_new2 (s : Store) : ACalls Try.prog 11 [.rows 1 [[.ints .i64 [1]], [.ints .i64 [0]]]] s (fun r s' => r = .tup [.nilp, .int .i64 9] ∧ s' = s) := by
  rw [← new2]
  exact c_New P2 (by decide) (by decide) s

theorem lives05 (σ : Store) : ACalls Try.prog 23 [] σ (fun r s => r = .bool true ∧ s = σ) := by
  have hl4 : P4.length = 4 := rfl
  have k1 := c_new4
  have k2 := c_new2
  have kU := fun σ => c_Up P4 (by decide) [1] (by simp) σ
  have kD := fun σ => c_Down P4 (by decide) 1 σ
  have kL := fun σ => c_Least P4 (by decide) [0, 1, 2] (by simp) σ
  have kI := fun σ => c_Is P4 (by decide) 3 0 σ
  have kJ := fun σ => c_Is P4 (by decide) 0 3 σ
  rw [up4] at kU
  rw [down4] at kD
  rw [least4] at kL
  rw [is4b 3 0 (by decide) (by decide)] at kI
  rw [is4b 0 3 (by decide) (by decide)] at kJ
  have s1 := fun σ => same_ints [0, 1] [0, 1] σ (by simp)
  have s2 := fun σ => same_ints [1, 3] [1, 3] σ (by simp)
  have s3 := fun σ => same_ints [1, 2] [1, 2] σ (by simp)
  rw [decide_eq_true rfl] at s1 s2 s3
  rw [decide_eq_true (by decide)] at kI
  rw [decide_eq_false (by decide)] at kJ
  unfold taxA at k1 kU kD kL kI kJ
  generalize (AV.rows 1 (P4.map rowI) :: gridL (relG P4)) = cs at k1 kU kD kL kI kJ
  refine acalls_of_vc (fn := Try.f23) Try.call23 Try.func23 rfl (by kernel_rfl) (by simp [Try.ntmps23]) ?_; simp -implicitDefEqProofs only [Try.ntmps23,Try.results23,Q0,Q1,Q2,Q3,Q4,Q5,Q6,Q7,Q8,Q9,Qa,Qb,Qc,Qd,Qe,Qf,Qg,Qh,Qi,Qj,Qk,Ql,Qm,Qn,Qo,Qp,Qq,Qr,Qs,Qt,Qu,Qv,Qw,Qx,Qy,Qz,QA,QB,QC,QD,QE,QF,QG,QH,QI,QJ,QK,QL,QM,QN,QO,QP,QQ,QR,QS,QT,QU,QV,QW,QX,QY,QZ,X0,X1,X2,X3,X4,X5,X6,X7,X8,X9,Xa,Xb,Xc,Xd,Xe,Xf,Xg,Xh,Xi,Xj,Xk,Xl,Xm,Xn,Xo,Xp,Xq,Xr,Xs,Xt,Xu,Xv,Xw,Xx,Xy,Xz,XA,XB,XC,XD,XE,XF,XG,XH,XI,XJ,XK,XL,XM,XN,XO,XP,XQ,XR,XS,XT,XU,XV,XW,XX,XY,XZ,Y0,Y1,Y2,Y3,Y4,Y5,Y6,Y7,Y8,Y9,Ya,Yb,Yc,Yd,Ye,Yf,Yg,Yh,Yi,Yj,Yk,Yl,Ym,Yn,Yo,Yp,Yq,Yr,Ys,Yt,Yu,Yv,Yw,Yx,Yy,Yz,YA,YB,YC,YD,YE,YF,YG,YH,YI,YJ,YK,YL,YM,YN,YO,YP,YQ,YR,YS,YT,YU,YV,YW,YX,YY,YZ,reduceIte,reduceCtorEq,ite_true,ite_false,if_true,if_false,Z0,Z1,Z2,Z3,Z4,Z5,and_true,true_and,and_self,true_imp_iff,false_imp_iff,eq_self,not_true_eq_false,not_false_eq_true,ne_eq,decide_true,decide_false,Z6,Z7,Z8,Z9,Za,Zb,Zc,Zd,Ze,Zf,Zg,Zh,Zi,Zj,Zk,Zl,Zm,Zn,Zo,Zp,Zq,Zr,Zs,Zt,Zu,Zv,Zw,Try.underlying3,Try.cs3,Try.bt3,Try.pa3,Try.zr3,Try.underlying4,Try.cs4,Try.bt4,Try.pa4,Try.ty4,Try.zr4,Try.underlying22,Try.cs22,Try.bt22,Try.pa22,Try.ty22,Try.sl22,Try.zr22,Try.underlying23,Try.cs23,Try.bt23,Try.pa23,Try.ty23,Try.sl23,Try.zr23,Try.underlying25,Try.cs25,Try.bt25,Try.pa25,Try.ty25,Try.zr25,Try.underlying26,Try.cs26,Try.bt26,Try.pa26,Try.zr26]
  refine acalls_then (k1 _) ?_
  simp -implicitDefEqProofs only [Q0,Q1,Q2,Q3,Q4,Q5,Q6,Q7,Q8,Q9,Qa,Qb,Qc,Qd,Qe,Qf,Qg,Qh,Qi,Qj,Qk,Ql,Qm,Qn,Qo,Qp,Qq,Qr,Qs,Qt,Qu,Qv,Qw,Qx,Qy,Qz,QA,QB,QC,QD,QE,QF,QG,QH,QI,QJ,QK,QL,QM,QN,QO,QP,QQ,QR,QS,QT,QU,QV,QW,QX,QY,QZ,X0,X1,X2,X3,X4,X5,X6,X7,X8,X9,Xa,Xb,Xc,Xd,Xe,Xf,Xg,Xh,Xi,Xj,Xk,Xl,Xm,Xn,Xo,Xp,Xq,Xr,Xs,Xt,Xu,Xv,Xw,Xx,Xy,Xz,XA,XB,XC,XD,XE,XF,XG,XH,XI,XJ,XK,XL,XM,XN,XO,XP,XQ,XR,XS,XT,XU,XV,XW,XX,XY,XZ,Y0,Y1,Y2,Y3,Y4,Y5,Y6,Y7,Y8,Y9,Ya,Yb,Yc,Yd,Ye,Yf,Yg,Yh,Yi,Yj,Yk,Yl,Ym,Yn,Yo,Yp,Yq,Yr,Ys,Yt,Yu,Yv,Yw,Yx,Yy,Yz,YA,YB,YC,YD,YE,YF,YG,YH,YI,YJ,YK,YL,YM,YN,YO,YP,YQ,YR,YS,YT,YU,YV,YW,YX,YY,YZ,reduceIte,reduceCtorEq,ite_true,ite_false,if_true,if_false,Z0,Z1,Z2,Z3,Z4,Z5,and_true,true_and,and_self,true_imp_iff,false_imp_iff,eq_self,not_true_eq_false,not_false_eq_true,ne_eq,decide_true,decide_false,Z6,Z7,Z8,Z9,Za,Zb,Zc,Zd,Ze,Zf,Zg,Zh,Zi,Zj,Zk,Zl,Zm,Zn,Zo,Zp,Zq,Zr,Zs,Zt,Zu,Zv,Zw,Try.underlying3,Try.cs3,Try.bt3,Try.pa3,Try.zr3,Try.underlying4,Try.cs4,Try.bt4,Try.pa4,Try.ty4,Try.zr4,Try.underlying22,Try.cs22,Try.bt22,Try.pa22,Try.ty22,Try.sl22,Try.zr22,Try.underlying23,Try.cs23,Try.bt23,Try.pa23,Try.ty23,Try.sl23,Try.zr23,Try.underlying25,Try.cs25,Try.bt25,Try.pa25,Try.ty25,Try.zr25,Try.underlying26,Try.cs26,Try.bt26,Try.pa26,Try.zr26]
  refine acalls_then (k2 _) ?_
  simp -implicitDefEqProofs only [Q0,Q1,Q2,Q3,Q4,Q5,Q6,Q7,Q8,Q9,Qa,Qb,Qc,Qd,Qe,Qf,Qg,Qh,Qi,Qj,Qk,Ql,Qm,Qn,Qo,Qp,Qq,Qr,Qs,Qt,Qu,Qv,Qw,Qx,Qy,Qz,QA,QB,QC,QD,QE,QF,QG,QH,QI,QJ,QK,QL,QM,QN,QO,QP,QQ,QR,QS,QT,QU,QV,QW,QX,QY,QZ,X0,X1,X2,X3,X4,X5,X6,X7,X8,X9,Xa,Xb,Xc,Xd,Xe,Xf,Xg,Xh,Xi,Xj,Xk,Xl,Xm,Xn,Xo,Xp,Xq,Xr,Xs,Xt,Xu,Xv,Xw,Xx,Xy,Xz,XA,XB,XC,XD,XE,XF,XG,XH,XI,XJ,XK,XL,XM,XN,XO,XP,XQ,XR,XS,XT,XU,XV,XW,XX,XY,XZ,Y0,Y1,Y2,Y3,Y4,Y5,Y6,Y7,Y8,Y9,Ya,Yb,Yc,Yd,Ye,Yf,Yg,Yh,Yi,Yj,Yk,Yl,Ym,Yn,Yo,Yp,Yq,Yr,Ys,Yt,Yu,Yv,Yw,Yx,Yy,Yz,YA,YB,YC,YD,YE,YF,YG,YH,YI,YJ,YK,YL,YM,YN,YO,YP,YQ,YR,YS,YT,YU,YV,YW,YX,YY,YZ,reduceIte,reduceCtorEq,ite_true,ite_false,if_true,if_false,Z0,Z1,Z2,Z3,Z4,Z5,and_true,true_and,and_self,true_imp_iff,false_imp_iff,eq_self,not_true_eq_false,not_false_eq_true,ne_eq,decide_true,decide_false,Z6,Z7,Z8,Z9,Za,Zb,Zc,Zd,Ze,Zf,Zg,Zh,Zi,Zj,Zk,Zl,Zm,Zn,Zo,Zp,Zq,Zr,Zs,Zt,Zu,Zv,Zw,Try.underlying3,Try.cs3,Try.bt3,Try.pa3,Try.zr3,Try.underlying4,Try.cs4,Try.bt4,Try.pa4,Try.ty4,Try.zr4,Try.underlying22,Try.cs22,Try.bt22,Try.pa22,Try.ty22,Try.sl22,Try.zr22,Try.underlying23,Try.cs23,Try.bt23,Try.pa23,Try.ty23,Try.sl23,Try.zr23,Try.underlying25,Try.cs25,Try.bt25,Try.pa25,Try.ty25,Try.zr25,Try.underlying26,Try.cs26,Try.bt26,Try.pa26,Try.zr26]
  refine acalls_then (kU _) ?_
  simp -implicitDefEqProofs only [Q0,Q1,Q2,Q3,Q4,Q5,Q6,Q7,Q8,Q9,Qa,Qb,Qc,Qd,Qe,Qf,Qg,Qh,Qi,Qj,Qk,Ql,Qm,Qn,Qo,Qp,Qq,Qr,Qs,Qt,Qu,Qv,Qw,Qx,Qy,Qz,QA,QB,QC,QD,QE,QF,QG,QH,QI,QJ,QK,QL,QM,QN,QO,QP,QQ,QR,QS,QT,QU,QV,QW,QX,QY,QZ,X0,X1,X2,X3,X4,X5,X6,X7,X8,X9,Xa,Xb,Xc,Xd,Xe,Xf,Xg,Xh,Xi,Xj,Xk,Xl,Xm,Xn,Xo,Xp,Xq,Xr,Xs,Xt,Xu,Xv,Xw,Xx,Xy,Xz,XA,XB,XC,XD,XE,XF,XG,XH,XI,XJ,XK,XL,XM,XN,XO,XP,XQ,XR,XS,XT,XU,XV,XW,XX,XY,XZ,Y0,Y1,Y2,Y3,Y4,Y5,Y6,Y7,Y8,Y9,Ya,Yb,Yc,Yd,Ye,Yf,Yg,Yh,Yi,Yj,Yk,Yl,Ym,Yn,Yo,Yp,Yq,Yr,Ys,Yt,Yu,Yv,Yw,Yx,Yy,Yz,YA,YB,YC,YD,YE,YF,YG,YH,YI,YJ,YK,YL,YM,YN,YO,YP,YQ,YR,YS,YT,YU,YV,YW,YX,YY,YZ,reduceIte,reduceCtorEq,ite_true,ite_false,if_true,if_false,Z0,Z1,Z2,Z3,Z4,Z5,and_true,true_and,and_self,true_imp_iff,false_imp_iff,eq_self,not_true_eq_false,not_false_eq_true,ne_eq,decide_true,decide_false,Z6,Z7,Z8,Z9,Za,Zb,Zc,Zd,Ze,Zf,Zg,Zh,Zi,Zj,Zk,Zl,Zm,Zn,Zo,Zp,Zq,Zr,Zs,Zt,Zu,Zv,Zw,Try.underlying3,Try.cs3,Try.bt3,Try.pa3,Try.zr3,Try.underlying4,Try.cs4,Try.bt4,Try.pa4,Try.ty4,Try.zr4,Try.underlying22,Try.cs22,Try.bt22,Try.pa22,Try.ty22,Try.sl22,Try.zr22,Try.underlying23,Try.cs23,Try.bt23,Try.pa23,Try.ty23,Try.sl23,Try.zr23,Try.underlying25,Try.cs25,Try.bt25,Try.pa25,Try.ty25,Try.zr25,Try.underlying26,Try.cs26,Try.bt26,Try.pa26,Try.zr26]
  refine acalls_then (kD _) ?_
  simp -implicitDefEqProofs only [Q0,Q1,Q2,Q3,Q4,Q5,Q6,Q7,Q8,Q9,Qa,Qb,Qc,Qd,Qe,Qf,Qg,Qh,Qi,Qj,Qk,Ql,Qm,Qn,Qo,Qp,Qq,Qr,Qs,Qt,Qu,Qv,Qw,Qx,Qy,Qz,QA,QB,QC,QD,QE,QF,QG,QH,QI,QJ,QK,QL,QM,QN,QO,QP,QQ,QR,QS,QT,QU,QV,QW,QX,QY,QZ,X0,X1,X2,X3,X4,X5,X6,X7,X8,X9,Xa,Xb,Xc,Xd,Xe,Xf,Xg,Xh,Xi,Xj,Xk,Xl,Xm,Xn,Xo,Xp,Xq,Xr,Xs,Xt,Xu,Xv,Xw,Xx,Xy,Xz,XA,XB,XC,XD,XE,XF,XG,XH,XI,XJ,XK,XL,XM,XN,XO,XP,XQ,XR,XS,XT,XU,XV,XW,XX,XY,XZ,Y0,Y1,Y2,Y3,Y4,Y5,Y6,Y7,Y8,Y9,Ya,Yb,Yc,Yd,Ye,Yf,Yg,Yh,Yi,Yj,Yk,Yl,Ym,Yn,Yo,Yp,Yq,Yr,Ys,Yt,Yu,Yv,Yw,Yx,Yy,Yz,YA,YB,YC,YD,YE,YF,YG,YH,YI,YJ,YK,YL,YM,YN,YO,YP,YQ,YR,YS,YT,YU,YV,YW,YX,YY,YZ,reduceIte,reduceCtorEq,ite_true,ite_false,if_true,if_false,Z0,Z1,Z2,Z3,Z4,Z5,and_true,true_and,and_self,true_imp_iff,false_imp_iff,eq_self,not_true_eq_false,not_false_eq_true,ne_eq,decide_true,decide_false,Z6,Z7,Z8,Z9,Za,Zb,Zc,Zd,Ze,Zf,Zg,Zh,Zi,Zj,Zk,Zl,Zm,Zn,Zo,Zp,Zq,Zr,Zs,Zt,Zu,Zv,Zw,Try.underlying3,Try.cs3,Try.bt3,Try.pa3,Try.zr3,Try.underlying4,Try.cs4,Try.bt4,Try.pa4,Try.ty4,Try.zr4,Try.underlying22,Try.cs22,Try.bt22,Try.pa22,Try.ty22,Try.sl22,Try.zr22,Try.underlying23,Try.cs23,Try.bt23,Try.pa23,Try.ty23,Try.sl23,Try.zr23,Try.underlying25,Try.cs25,Try.bt25,Try.pa25,Try.ty25,Try.zr25,Try.underlying26,Try.cs26,Try.bt26,Try.pa26,Try.zr26]
  refine acalls_then (kL _) ?_
  simp -implicitDefEqProofs only [Q0,Q1,Q2,Q3,Q4,Q5,Q6,Q7,Q8,Q9,Qa,Qb,Qc,Qd,Qe,Qf,Qg,Qh,Qi,Qj,Qk,Ql,Qm,Qn,Qo,Qp,Qq,Qr,Qs,Qt,Qu,Qv,Qw,Qx,Qy,Qz,QA,QB,QC,QD,QE,QF,QG,QH,QI,QJ,QK,QL,QM,QN,QO,QP,QQ,QR,QS,QT,QU,QV,QW,QX,QY,QZ,X0,X1,X2,X3,X4,X5,X6,X7,X8,X9,Xa,Xb,Xc,Xd,Xe,Xf,Xg,Xh,Xi,Xj,Xk,Xl,Xm,Xn,Xo,Xp,Xq,Xr,Xs,Xt,Xu,Xv,Xw,Xx,Xy,Xz,XA,XB,XC,XD,XE,XF,XG,XH,XI,XJ,XK,XL,XM,XN,XO,XP,XQ,XR,XS,XT,XU,XV,XW,XX,XY,XZ,Y0,Y1,Y2,Y3,Y4,Y5,Y6,Y7,Y8,Y9,Ya,Yb,Yc,Yd,Ye,Yf,Yg,Yh,Yi,Yj,Yk,Yl,Ym,Yn,Yo,Yp,Yq,Yr,Ys,Yt,Yu,Yv,Yw,Yx,Yy,Yz,YA,YB,YC,YD,YE,YF,YG,YH,YI,YJ,YK,YL,YM,YN,YO,YP,YQ,YR,YS,YT,YU,YV,YW,YX,YY,YZ,reduceIte,reduceCtorEq,ite_true,ite_false,if_true,if_false,Z0,Z1,Z2,Z3,Z4,Z5,and_true,true_and,and_self,true_imp_iff,false_imp_iff,eq_self,not_true_eq_false,not_false_eq_true,ne_eq,decide_true,decide_false,Z6,Z7,Z8,Z9,Za,Zb,Zc,Zd,Ze,Zf,Zg,Zh,Zi,Zj,Zk,Zl,Zm,Zn,Zo,Zp,Zq,Zr,Zs,Zt,Zu,Zv,Zw,Try.underlying3,Try.cs3,Try.bt3,Try.pa3,Try.zr3,Try.underlying4,Try.cs4,Try.bt4,Try.pa4,Try.ty4,Try.zr4,Try.underlying22,Try.cs22,Try.bt22,Try.pa22,Try.ty22,Try.sl22,Try.zr22,Try.underlying23,Try.cs23,Try.bt23,Try.pa23,Try.ty23,Try.sl23,Try.zr23,Try.underlying25,Try.cs25,Try.bt25,Try.pa25,Try.ty25,Try.zr25,Try.underlying26,Try.cs26,Try.bt26,Try.pa26,Try.zr26]
  refine acalls_then (kI _) ?_
  simp -implicitDefEqProofs only [Q0,Q1,Q2,Q3,Q4,Q5,Q6,Q7,Q8,Q9,Qa,Qb,Qc,Qd,Qe,Qf,Qg,Qh,Qi,Qj,Qk,Ql,Qm,Qn,Qo,Qp,Qq,Qr,Qs,Qt,Qu,Qv,Qw,Qx,Qy,Qz,QA,QB,QC,QD,QE,QF,QG,QH,QI,QJ,QK,QL,QM,QN,QO,QP,QQ,QR,QS,QT,QU,QV,QW,QX,QY,QZ,X0,X1,X2,X3,X4,X5,X6,X7,X8,X9,Xa,Xb,Xc,Xd,Xe,Xf,Xg,Xh,Xi,Xj,Xk,Xl,Xm,Xn,Xo,Xp,Xq,Xr,Xs,Xt,Xu,Xv,Xw,Xx,Xy,Xz,XA,XB,XC,XD,XE,XF,XG,XH,XI,XJ,XK,XL,XM,XN,XO,XP,XQ,XR,XS,XT,XU,XV,XW,XX,XY,XZ,Y0,Y1,Y2,Y3,Y4,Y5,Y6,Y7,Y8,Y9,Ya,Yb,Yc,Yd,Ye,Yf,Yg,Yh,Yi,Yj,Yk,Yl,Ym,Yn,Yo,Yp,Yq,Yr,Ys,Yt,Yu,Yv,Yw,Yx,Yy,Yz,YA,YB,YC,YD,YE,YF,YG,YH,YI,YJ,YK,YL,YM,YN,YO,YP,YQ,YR,YS,YT,YU,YV,YW,YX,YY,YZ,reduceIte,reduceCtorEq,ite_true,ite_false,if_true,if_false,Z0,Z1,Z2,Z3,Z4,Z5,and_true,true_and,and_self,true_imp_iff,false_imp_iff,eq_self,not_true_eq_false,not_false_eq_true,ne_eq,decide_true,decide_false,Z6,Z7,Z8,Z9,Za,Zb,Zc,Zd,Ze,Zf,Zg,Zh,Zi,Zj,Zk,Zl,Zm,Zn,Zo,Zp,Zq,Zr,Zs,Zt,Zu,Zv,Zw,Try.underlying3,Try.cs3,Try.bt3,Try.pa3,Try.zr3,Try.underlying4,Try.cs4,Try.bt4,Try.pa4,Try.ty4,Try.zr4,Try.underlying22,Try.cs22,Try.bt22,Try.pa22,Try.ty22,Try.sl22,Try.zr22,Try.underlying23,Try.cs23,Try.bt23,Try.pa23,Try.ty23,Try.sl23,Try.zr23,Try.underlying25,Try.cs25,Try.bt25,Try.pa25,Try.ty25,Try.zr25,Try.underlying26,Try.cs26,Try.bt26,Try.pa26,Try.zr26]
  refine acalls_then (kJ _) ?_
  simp -implicitDefEqProofs only [Q0,Q1,Q2,Q3,Q4,Q5,Q6,Q7,Q8,Q9,Qa,Qb,Qc,Qd,Qe,Qf,Qg,Qh,Qi,Qj,Qk,Ql,Qm,Qn,Qo,Qp,Qq,Qr,Qs,Qt,Qu,Qv,Qw,Qx,Qy,Qz,QA,QB,QC,QD,QE,QF,QG,QH,QI,QJ,QK,QL,QM,QN,QO,QP,QQ,QR,QS,QT,QU,QV,QW,QX,QY,QZ,X0,X1,X2,X3,X4,X5,X6,X7,X8,X9,Xa,Xb,Xc,Xd,Xe,Xf,Xg,Xh,Xi,Xj,Xk,Xl,Xm,Xn,Xo,Xp,Xq,Xr,Xs,Xt,Xu,Xv,Xw,Xx,Xy,Xz,XA,XB,XC,XD,XE,XF,XG,XH,XI,XJ,XK,XL,XM,XN,XO,XP,XQ,XR,XS,XT,XU,XV,XW,XX,XY,XZ,Y0,Y1,Y2,Y3,Y4,Y5,Y6,Y7,Y8,Y9,Ya,Yb,Yc,Yd,Ye,Yf,Yg,Yh,Yi,Yj,Yk,Yl,Ym,Yn,Yo,Yp,Yq,Yr,Ys,Yt,Yu,Yv,Yw,Yx,Yy,Yz,YA,YB,YC,YD,YE,YF,YG,YH,YI,YJ,YK,YL,YM,YN,YO,YP,YQ,YR,YS,YT,YU,YV,YW,YX,YY,YZ,reduceIte,reduceCtorEq,ite_true,ite_false,if_true,if_false,Z0,Z1,Z2,Z3,Z4,Z5,and_true,true_and,and_self,true_imp_iff,false_imp_iff,eq_self,not_true_eq_false,not_false_eq_true,ne_eq,decide_true,decide_false,Z6,Z7,Z8,Z9,Za,Zb,Zc,Zd,Ze,Zf,Zg,Zh,Zi,Zj,Zk,Zl,Zm,Zn,Zo,Zp,Zq,Zr,Zs,Zt,Zu,Zv,Zw,Try.underlying3,Try.cs3,Try.bt3,Try.pa3,Try.zr3,Try.underlying4,Try.cs4,Try.bt4,Try.pa4,Try.ty4,Try.zr4,Try.underlying22,Try.cs22,Try.bt22,Try.pa22,Try.ty22,Try.sl22,Try.zr22,Try.underlying23,Try.cs23,Try.bt23,Try.pa23,Try.ty23,Try.sl23,Try.zr23,Try.underlying25,Try.cs25,Try.bt25,Try.pa25,Try.ty25,Try.zr25,Try.underlying26,Try.cs26,Try.bt26,Try.pa26,Try.zr26]
  refine acalls_then (s1 _) ?_
  simp -implicitDefEqProofs only [Q0,Q1,Q2,Q3,Q4,Q5,Q6,Q7,Q8,Q9,Qa,Qb,Qc,Qd,Qe,Qf,Qg,Qh,Qi,Qj,Qk,Ql,Qm,Qn,Qo,Qp,Qq,Qr,Qs,Qt,Qu,Qv,Qw,Qx,Qy,Qz,QA,QB,QC,QD,QE,QF,QG,QH,QI,QJ,QK,QL,QM,QN,QO,QP,QQ,QR,QS,QT,QU,QV,QW,QX,QY,QZ,X0,X1,X2,X3,X4,X5,X6,X7,X8,X9,Xa,Xb,Xc,Xd,Xe,Xf,Xg,Xh,Xi,Xj,Xk,Xl,Xm,Xn,Xo,Xp,Xq,Xr,Xs,Xt,Xu,Xv,Xw,Xx,Xy,Xz,XA,XB,XC,XD,XE,XF,XG,XH,XI,XJ,XK,XL,XM,XN,XO,XP,XQ,XR,XS,XT,XU,XV,XW,XX,XY,XZ,Y0,Y1,Y2,Y3,Y4,Y5,Y6,Y7,Y8,Y9,Ya,Yb,Yc,Yd,Ye,Yf,Yg,Yh,Yi,Yj,Yk,Yl,Ym,Yn,Yo,Yp,Yq,Yr,Ys,Yt,Yu,Yv,Yw,Yx,Yy,Yz,YA,YB,YC,YD,YE,YF,YG,YH,YI,YJ,YK,YL,YM,YN,YO,YP,YQ,YR,YS,YT,YU,YV,YW,YX,YY,YZ,reduceIte,reduceCtorEq,ite_true,ite_false,if_true,if_false,Z0,Z1,Z2,Z3,Z4,Z5,and_true,true_and,and_self,true_imp_iff,false_imp_iff,eq_self,not_true_eq_false,not_false_eq_true,ne_eq,decide_true,decide_false,Z6,Z7,Z8,Z9,Za,Zb,Zc,Zd,Ze,Zf,Zg,Zh,Zi,Zj,Zk,Zl,Zm,Zn,Zo,Zp,Zq,Zr,Zs,Zt,Zu,Zv,Zw,Try.underlying3,Try.cs3,Try.bt3,Try.pa3,Try.zr3,Try.underlying4,Try.cs4,Try.bt4,Try.pa4,Try.ty4,Try.zr4,Try.underlying22,Try.cs22,Try.bt22,Try.pa22,Try.ty22,Try.sl22,Try.zr22,Try.underlying23,Try.cs23,Try.bt23,Try.pa23,Try.ty23,Try.sl23,Try.zr23,Try.underlying25,Try.cs25,Try.bt25,Try.pa25,Try.ty25,Try.zr25,Try.underlying26,Try.cs26,Try.bt26,Try.pa26,Try.zr26]
  refine acalls_then (s2 _) ?_
  simp -implicitDefEqProofs only [Q0,Q1,Q2,Q3,Q4,Q5,Q6,Q7,Q8,Q9,Qa,Qb,Qc,Qd,Qe,Qf,Qg,Qh,Qi,Qj,Qk,Ql,Qm,Qn,Qo,Qp,Qq,Qr,Qs,Qt,Qu,Qv,Qw,Qx,Qy,Qz,QA,QB,QC,QD,QE,QF,QG,QH,QI,QJ,QK,QL,QM,QN,QO,QP,QQ,QR,QS,QT,QU,QV,QW,QX,QY,QZ,X0,X1,X2,X3,X4,X5,X6,X7,X8,X9,Xa,Xb,Xc,Xd,Xe,Xf,Xg,Xh,Xi,Xj,Xk,Xl,Xm,Xn,Xo,Xp,Xq,Xr,Xs,Xt,Xu,Xv,Xw,Xx,Xy,Xz,XA,XB,XC,XD,XE,XF,XG,XH,XI,XJ,XK,XL,XM,XN,XO,XP,XQ,XR,XS,XT,XU,XV,XW,XX,XY,XZ,Y0,Y1,Y2,Y3,Y4,Y5,Y6,Y7,Y8,Y9,Ya,Yb,Yc,Yd,Ye,Yf,Yg,Yh,Yi,Yj,Yk,Yl,Ym,Yn,Yo,Yp,Yq,Yr,Ys,Yt,Yu,Yv,Yw,Yx,Yy,Yz,YA,YB,YC,YD,YE,YF,YG,YH,YI,YJ,YK,YL,YM,YN,YO,YP,YQ,YR,YS,YT,YU,YV,YW,YX,YY,YZ,reduceIte,reduceCtorEq,ite_true,ite_false,if_true,if_false,Z0,Z1,Z2,Z3,Z4,Z5,and_true,true_and,and_self,true_imp_iff,false_imp_iff,eq_self,not_true_eq_false,not_false_eq_true,ne_eq,decide_true,decide_false,Z6,Z7,Z8,Z9,Za,Zb,Zc,Zd,Ze,Zf,Zg,Zh,Zi,Zj,Zk,Zl,Zm,Zn,Zo,Zp,Zq,Zr,Zs,Zt,Zu,Zv,Zw,Try.underlying3,Try.cs3,Try.bt3,Try.pa3,Try.zr3,Try.underlying4,Try.cs4,Try.bt4,Try.pa4,Try.ty4,Try.zr4,Try.underlying22,Try.cs22,Try.bt22,Try.pa22,Try.ty22,Try.sl22,Try.zr22,Try.underlying23,Try.cs23,Try.bt23,Try.pa23,Try.ty23,Try.sl23,Try.zr23,Try.underlying25,Try.cs25,Try.bt25,Try.pa25,Try.ty25,Try.zr25,Try.underlying26,Try.cs26,Try.bt26,Try.pa26,Try.zr26]
  refine acalls_then (s3 _) ?_
  simp -implicitDefEqProofs only [Q0,Q1,Q2,Q3,Q4,Q5,Q6,Q7,Q8,Q9,Qa,Qb,Qc,Qd,Qe,Qf,Qg,Qh,Qi,Qj,Qk,Ql,Qm,Qn,Qo,Qp,Qq,Qr,Qs,Qt,Qu,Qv,Qw,Qx,Qy,Qz,QA,QB,QC,QD,QE,QF,QG,QH,QI,QJ,QK,QL,QM,QN,QO,QP,QQ,QR,QS,QT,QU,QV,QW,QX,QY,QZ,X0,X1,X2,X3,X4,X5,X6,X7,X8,X9,Xa,Xb,Xc,Xd,Xe,Xf,Xg,Xh,Xi,Xj,Xk,Xl,Xm,Xn,Xo,Xp,Xq,Xr,Xs,Xt,Xu,Xv,Xw,Xx,Xy,Xz,XA,XB,XC,XD,XE,XF,XG,XH,XI,XJ,XK,XL,XM,XN,XO,XP,XQ,XR,XS,XT,XU,XV,XW,XX,XY,XZ,Y0,Y1,Y2,Y3,Y4,Y5,Y6,Y7,Y8,Y9,Ya,Yb,Yc,Yd,Ye,Yf,Yg,Yh,Yi,Yj,Yk,Yl,Ym,Yn,Yo,Yp,Yq,Yr,Ys,Yt,Yu,Yv,Yw,Yx,Yy,Yz,YA,YB,YC,YD,YE,YF,YG,YH,YI,YJ,YK,YL,YM,YN,YO,YP,YQ,YR,YS,YT,YU,YV,YW,YX,YY,YZ,reduceIte,reduceCtorEq,ite_true,ite_false,if_true,if_false,Z0,Z1,Z2,Z3,Z4,Z5,and_true,true_and,and_self,true_imp_iff,false_imp_iff,eq_self,not_true_eq_false,not_false_eq_true,ne_eq,decide_true,decide_false,Z6,Z7,Z8,Z9,Za,Zb,Zc,Zd,Ze,Zf,Zg,Zh,Zi,Zj,Zk,Zl,Zm,Zn,Zo,Zp,Zq,Zr,Zs,Zt,Zu,Zv,Zw,Try.underlying3,Try.cs3,Try.bt3,Try.pa3,Try.zr3,Try.underlying4,Try.cs4,Try.bt4,Try.pa4,Try.ty4,Try.zr4,Try.underlying22,Try.cs22,Try.bt22,Try.pa22,Try.ty22,Try.sl22,Try.zr22,Try.underlying23,Try.cs23,Try.bt23,Try.pa23,Try.ty23,Try.sl23,Try.zr23,Try.underlying25,Try.cs25,Try.bt25,Try.pa25,Try.ty25,Try.zr25,Try.underlying26,Try.cs26,Try.bt26,Try.pa26,Try.zr26]

end Go.Proofs
