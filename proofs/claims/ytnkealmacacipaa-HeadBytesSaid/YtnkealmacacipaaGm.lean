/-
  Heads as bytes: what is read; the reference.
-/
import Derived.Test.YtnkealmacacipaaGl
namespace Go.Proofs
open Go.Pa
open Go.Pa renaming vc_seq → Q0, vc_block → Q1, vc_exit → Q2, vc_ret → Q3, vc_skip → Q4, vc_region → Q5, vc_draw → Q6, vc_loop → Q7, vc_range → Q8, vc_cond → Q9, condV_true → Qa, condV_false → Qb, condV_bool → Qc, seqK_normal → Qd, seqK_ret → Qe, seqK_exit → Qf, blkK_normal → Qg, blkK_ret → Qh, blkK_exit → Qi, loopK_ret → Qj, loopK_exit → Qk, loopK_normal → Ql, vcOps_nil → Qm, vcOps_cons → Qn, vcOps_guardM → Qo, guardM_some → Qp, guardV_und → Qq, guardV_same → Qr, guardV_tf → Qs, guardV_ft → Qt, guardV_bool → Qu, vcOp_out → Qv, outV_val → Qw, outV_need → Qx, outV_no → Qy, opK_run → Qz, opK_none → QA, vcS → QB, evA → QC, evBin → QD, nilA → QE, nilOf → QF, intOp → QG, strOp → QH, evUn → QI, evConv → QJ, evField → QK, evFieldAddr → QL, evIndexAddr → QM, evIndex → QN, bnd → QO, evSlice → QP, evLen → QQ, evPick → QR, evExtract → QS, evNilCheck → QT, evMin → QU, evMax → QV, evLoadI → QW, cO_int → QX, cO_bool → QY, cO_str → QZ, cO_nils → X0, cO_emp → X1, cO_ints → X2, cO_rows → X3, cO_mvec → X4, cO_ptr → X5, cO_eptr → X6, cO_iptr → X7, cO_nilp → X8, cO_fn → X9, cO_nilf → Xa, cO_mp → Xb, cO_nilm → Xc, cO_glob → Xd, cO_agg → Xe, partsOne → Xg, intsOf → Xh, rowsAV → Xi, evBuildSlice → Xj, evBuild → Xk, fillA → Xl, splice → Xm, evBuiltin → Xn, vcE_nil → Xo, vcE_cons → Xp, vcE_guardM → Xq, guardME_some → Xr, guardD_und → Xs, guardD_same → Xt, guardD_tf → Xu, guardD_ft → Xv, guardD_bool → Xw, dK_run → Xx, dK_none → Xy, dOp_call → Xz, callA_fn → XA, dOp → XB, outA_val → XC, outA_need → XD, cl → XE, vcLoad → XF, vcStore → XG, vcMake → XH, evO_tmp → XI, evO_int → XJ, evO_bool → XK, evO_nils → XL, evO_nilp → XM, evO_nilf → XN, evO_nilm → XO, evO_str → XP, evO_func → XQ, evO_glob → XR, convA → XS, evIndexArr → XT, lookA_cons → XU, get_cons → XV, sub_cons → XW, sub_nil → XX, retK_ret → XY, retK_normal → XZ, retA → Y0, ressA → Y1, resA → Y2, envOf → Y3, vcR_skip → Y7, vcR_seq → Y8, vcR_block → Y9, vcR_exit → Ya, vcR_ret → Yb, vcR_region → Yc, vcR_draw → Yd, vcR_cond → Ye, condR_true → Yf, condR_false → Yg, condR_bool → Yh, seqR_normal → Yi, seqR_ret → Yj, seqR_exit → Yk, asgEnv → Yl, parEnv → Ym, dstAt → Z5, sto_assoc → Z6, sto_len → Z7, sto_at → Z8, sto_at0 → Z9, sto_set → Za, sto_set0 → Zb
open Go.Pa.AV renaming cell → Xf
open Go.Pa.Env renaming put → Y4
open List renaming set_cons_zero → Y5, set_cons_succ → Y6, foldl_cons → Yn, foldl_nil → Yo, map_cons → Yp, map_nil → Yq, toList_toArray → Yr, getElem?_cons_zero → Ys, getElem?_cons_succ → Yt, nil_append → Yx, append_nil → Yy, cons_append → Yz, singleton_append → YA, length_cons → YB, length_nil → YC, all_cons → YD, all_nil → YE, take_succ_cons → YF, take_zero → YG, take_nil → YH, drop_zero → YI, drop_succ_cons → YJ, drop_nil → YK, contains_nil → YL, contains_cons → YM
open Option renaming bind_some → Yu, map_some → Yv, map_none → Yw
open Bool renaming or_false → YN, false_or → YO, or_true → YP, true_or → YQ, false_eq_true → YZ, not_true → Z0, not_false → Z1, and_true → Z2, true_and → Z3, and_self → Z4
open Nat renaming reduceEqDiff → YR, reduceAdd → YS, reduceSub → YT, reduceMul → YU, reduceLT → YV, reduceLeDiff → YW, reduceBNe → YX, reduceBEq → YY, zero_add → Ze, add_zero → Zf
open UInt8 renaming reduceToNat → Zc
open Int renaming cast_ofNat_Int → Zd, reduceToNat → Zg, reduceLT → Zh, reduceLE → Zi, reduceNeg → Zj, reduceEq → Zk, reduceNe → Zl
set_option linter.unusedSimpArgs false
set_option linter.unusedVariables false
set_option maxRecDepth 20000
set_option maxHeartbeats 4000000

theorem frz_e {σ : Store} {f : FuncId} {args : List AV} {l : List Int} (h : ACalls Try.prog f args σ (FreshI σ .u8 l)) : ACalls Try.prog f args σ (fun r σ' => r = .ints .u8 l ∧ σ' = σ) := ACalls.freshFrozen h

theorem fr_e {σ : Store} {f : FuncId} {args : List AV} {l : List Int} (h : ACalls Try.prog f args σ (FreshI σ .u8 l)) (hl : l ≠ []) : ACalls Try.prog f args σ (fun r σ' => r = .mvec σ.length 0 l.length 1 ∧ σ' = σ ++ [.vecI .u8 l]) :=
  h.mono fun r s hf => hf.ne hl

theorem ref_encodeH (h : Hd) (hg : h.good) (σ : Store) : ACalls Try.prog 29 [h.av] σ (FreshI σ .u8 (encH h)) := by
  refine ACalls.lendI ?_ (.cons (.same _ rfl) .nil) rfl
  refine ACalls.fresh ?_
  obtain ⟨g1, g2, g3, g4, g5, g6, g7, g8⟩ := hg
  have a1 := intE_len g1
  have a2 := intE_len g2
  have a3 := intE_len g3
  have a4 := intE_len g4
  have a5 := uintE_len (toNat_in g5).1
  have a6 := uintE_len (toNat_in g6).1
  have a7 := intE_len g7
  have a8 := uintE_len (toNat_in g8).1
  obtain ⟨ln, hln⟩ := toNat_in g5
  obtain ⟨mn, hmn⟩ := toNat_in g6
  obtain ⟨gn, hgn⟩ := toNat_in g8
  have k1 := fun σ => re_int h.o g1 σ
  have k2 := fun σ => frz_e (re_int h.t g2 σ)
  have k3 := fun σ => frz_e (re_int h.d g3 σ)
  have k4 := fun σ => frz_e (re_int h.s g4 σ)
  have k5 := fun σ => frz_e (re_uint _ ln σ)
  have k6 := fun σ => frz_e (re_uint _ mn σ)
  have k7 := fun σ => frz_e (re_int h.e g7 σ)
  have k8 := fun σ => frz_e (re_uint _ gn σ)
  rw [hln] at k5
  rw [hmn] at k6
  rw [hgn] at k8
  unfold encH
  generalize intE h.o = x1 at *
  generalize intE h.t = x2 at *
  generalize intE h.d = x3 at *
  generalize intE h.s = x4 at *
  generalize uintE h.l.toNat = x5 at *
  generalize uintE h.m.toNat = x6 at *
  generalize intE h.e = x7 at *
  generalize uintE h.g.toNat = x8 at *
  refine acalls_of_vc (fn := Try.f29) Try.call29 Try.func29 rfl (by kernel_rfl) (by simp [Try.ntmps29]) ?_; simp -implicitDefEqProofs only [Hd.av,Hd.cs,Try.ntmps29,Try.results29,Q0,Q1,Q2,Q3,Q4,Q5,Q6,Q7,Q8,Q9,Qa,Qb,Qc,Qd,Qe,Qf,Qg,Qh,Qi,Qj,Qk,Ql,Qm,Qn,Qo,Qp,Qq,Qr,Qs,Qt,Qu,Qv,Qw,Qx,Qy,Qz,QA,QB,QC,QD,QE,QF,QG,QH,QI,QJ,QK,QL,QM,QN,QO,QP,QQ,QR,QS,QT,QU,QV,QW,QX,QY,QZ,X0,X1,X2,X3,X4,X5,X6,X7,X8,X9,Xa,Xb,Xc,Xd,Xe,Xf,Xg,Xh,Xi,Xj,Xk,Xl,Xm,Xn,Xo,Xp,Xq,Xr,Xs,Xt,Xu,Xv,Xw,Xx,Xy,Xz,XA,XB,XC,XD,XE,XF,XG,XH,XI,XJ,XK,XL,XM,XN,XO,XP,XQ,XR,XS,XT,XU,XV,XW,XX,XY,XZ,Y0,Y1,Y2,Y3,Y4,Y5,Y6,Y7,Y8,Y9,Ya,Yb,Yc,Yd,Ye,Yf,Yg,Yh,Yi,Yj,Yk,Yl,Ym,Yn,Yo,Yp,Yq,Yr,Ys,Yt,Yu,Yv,Yw,Yx,Yy,Yz,YA,YB,YC,YD,YE,YF,YG,YH,YI,YJ,YK,YL,YM,YN,YO,YP,YQ,YR,YS,YT,YU,YV,YW,YX,YY,reduceIte,reduceCtorEq,ite_true,ite_false,if_true,if_false,YZ,Z0,Z1,Z2,Z3,Z4,and_true,true_and,and_self,true_imp_iff,false_imp_iff,eq_self,not_true_eq_false,not_false_eq_true,ne_eq,decide_true,decide_false,Z5,Z6,Z7,Z8,Z9,Za,Zb,Zc,Zd,Ze,Zf,Zg,Zh,Zi,Zj,Zk,Zl,Try.underlying3,Try.cs3,Try.bt3,Try.pa3,Try.zr3,Try.underlying5,Try.cs5,Try.bt5,Try.pa5,Try.zr5,Try.underlying22,Try.cs22,Try.bt22,Try.pa22,Try.zr22,Try.underlying24,Try.cs24,Try.bt24,Try.pa24,Try.ty24,Try.zr24,Try.pl24,Try.eq24,Try.fd24_0,Try.fd24_1,Try.fd24_2,Try.fd24_3,Try.fd24_4,Try.fd24_5,Try.fd24_6,Try.fd24_7,Try.underlying46,Try.cs46,Try.bt46,Try.pa46,Try.ty46,Try.sl46,Try.zr46]
  refine awp_seal 0 (ob := .box [.int .i64 h.o, .int .i64 h.t, .int .i64 h.d, .int .i64 h.s, .int .u64 h.l, .int .u64 h.m, .int .i64 h.e, .int .u64 h.g]) rfl rfl [(1, .iptr ([.int .i64 h.o, .int .i64 h.t, .int .i64 h.d, .int .i64 h.s, .int .u64 h.l, .int .u64 h.m, .int .i64 h.e, .int .u64 h.g].drop 0))] _ (FzS.set (by simp)) ⟨⟨_, rfl, .box 0 _ rfl⟩, trivial⟩ ?_
  simp -implicitDefEqProofs only [Hd.av,Hd.cs,Q0,Q1,Q2,Q3,Q4,Q5,Q6,Q7,Q8,Q9,Qa,Qb,Qc,Qd,Qe,Qf,Qg,Qh,Qi,Qj,Qk,Ql,Qm,Qn,Qo,Qp,Qq,Qr,Qs,Qt,Qu,Qv,Qw,Qx,Qy,Qz,QA,QB,QC,QD,QE,QF,QG,QH,QI,QJ,QK,QL,QM,QN,QO,QP,QQ,QR,QS,QT,QU,QV,QW,QX,QY,QZ,X0,X1,X2,X3,X4,X5,X6,X7,X8,X9,Xa,Xb,Xc,Xd,Xe,Xf,Xg,Xh,Xi,Xj,Xk,Xl,Xm,Xn,Xo,Xp,Xq,Xr,Xs,Xt,Xu,Xv,Xw,Xx,Xy,Xz,XA,XB,XC,XD,XE,XF,XG,XH,XI,XJ,XK,XL,XM,XN,XO,XP,XQ,XR,XS,XT,XU,XV,XW,XX,XY,XZ,Y0,Y1,Y2,Y3,Y4,Y5,Y6,Y7,Y8,Y9,Ya,Yb,Yc,Yd,Ye,Yf,Yg,Yh,Yi,Yj,Yk,Yl,Ym,Yn,Yo,Yp,Yq,Yr,Ys,Yt,Yu,Yv,Yw,Yx,Yy,Yz,YA,YB,YC,YD,YE,YF,YG,YH,YI,YJ,YK,YL,YM,YN,YO,YP,YQ,YR,YS,YT,YU,YV,YW,YX,YY,reduceIte,reduceCtorEq,ite_true,ite_false,if_true,if_false,YZ,Z0,Z1,Z2,Z3,Z4,and_true,true_and,and_self,true_imp_iff,false_imp_iff,eq_self,not_true_eq_false,not_false_eq_true,ne_eq,decide_true,decide_false,Z5,Z6,Z7,Z8,Z9,Za,Zb,Zc,Zd,Ze,Zf,Zg,Zh,Zi,Zj,Zk,Zl,Try.underlying3,Try.cs3,Try.bt3,Try.pa3,Try.zr3,Try.underlying5,Try.cs5,Try.bt5,Try.pa5,Try.zr5,Try.underlying22,Try.cs22,Try.bt22,Try.pa22,Try.zr22,Try.underlying24,Try.cs24,Try.bt24,Try.pa24,Try.ty24,Try.zr24,Try.pl24,Try.eq24,Try.fd24_0,Try.fd24_1,Try.fd24_2,Try.fd24_3,Try.fd24_4,Try.fd24_5,Try.fd24_6,Try.fd24_7,Try.underlying46,Try.cs46,Try.bt46,Try.pa46,Try.ty46,Try.sl46,Try.zr46]
  refine awp_draws [2, 6, 200001, 200004, 200005] Try.mixed (by kernel_rfl) ?_
  simp -implicitDefEqProofs only [Hd.av,Hd.cs,Q0,Q1,Q2,Q3,Q4,Q5,Q6,Q7,Q8,Q9,Qa,Qb,Qc,Qd,Qe,Qf,Qg,Qh,Qi,Qj,Qk,Ql,Qm,Qn,Qo,Qp,Qq,Qr,Qs,Qt,Qu,Qv,Qw,Qx,Qy,Qz,QA,QB,QC,QD,QE,QF,QG,QH,QI,QJ,QK,QL,QM,QN,QO,QP,QQ,QR,QS,QT,QU,QV,QW,QX,QY,QZ,X0,X1,X2,X3,X4,X5,X6,X7,X8,X9,Xa,Xb,Xc,Xd,Xe,Xf,Xg,Xh,Xi,Xj,Xk,Xl,Xm,Xn,Xo,Xp,Xq,Xr,Xs,Xt,Xu,Xv,Xw,Xx,Xy,Xz,XA,XB,XC,XD,XE,XF,XG,XH,XI,XJ,XK,XL,XM,XN,XO,XP,XQ,XR,XS,XT,XU,XV,XW,XX,XY,XZ,Y0,Y1,Y2,Y3,Y4,Y5,Y6,Y7,Y8,Y9,Ya,Yb,Yc,Yd,Ye,Yf,Yg,Yh,Yi,Yj,Yk,Yl,Ym,Yn,Yo,Yp,Yq,Yr,Ys,Yt,Yu,Yv,Yw,Yx,Yy,Yz,YA,YB,YC,YD,YE,YF,YG,YH,YI,YJ,YK,YL,YM,YN,YO,YP,YQ,YR,YS,YT,YU,YV,YW,YX,YY,reduceIte,reduceCtorEq,ite_true,ite_false,if_true,if_false,YZ,Z0,Z1,Z2,Z3,Z4,and_true,true_and,and_self,true_imp_iff,false_imp_iff,eq_self,not_true_eq_false,not_false_eq_true,ne_eq,decide_true,decide_false,Z5,Z6,Z7,Z8,Z9,Za,Zb,Zc,Zd,Ze,Zf,Zg,Zh,Zi,Zj,Zk,Zl,Try.underlying3,Try.cs3,Try.bt3,Try.pa3,Try.zr3,Try.underlying5,Try.cs5,Try.bt5,Try.pa5,Try.zr5,Try.underlying22,Try.cs22,Try.bt22,Try.pa22,Try.zr22,Try.underlying24,Try.cs24,Try.bt24,Try.pa24,Try.ty24,Try.zr24,Try.pl24,Try.eq24,Try.fd24_0,Try.fd24_1,Try.fd24_2,Try.fd24_3,Try.fd24_4,Try.fd24_5,Try.fd24_6,Try.fd24_7,Try.underlying46,Try.cs46,Try.bt46,Try.pa46,Try.ty46,Try.sl46,Try.zr46]
  refine dCall_of2 (fr_e (k1 _) (by rintro rfl; simp at a1)) ?_
  have hx1 : Ext [AObj.dead] ([AObj.dead] ++ [.vecI .u8 x1]) := (Ext.refl _).push _
  have hb1 : BufI ([AObj.dead] ++ [.vecI .u8 x1]) [AObj.dead].length (.mvec [AObj.dead].length 0 x1.length 1) .u8 x1 := .inr ⟨_, rfl, rfl, Nat.le_refl _⟩
  generalize [AObj.dead] ++ [.vecI .u8 x1] = s1 at *
  generalize AV.mvec [AObj.dead].length 0 x1.length 1 = r1 at *
  simp -implicitDefEqProofs only [Hd.av,Hd.cs,Q0,Q1,Q2,Q3,Q4,Q5,Q6,Q7,Q8,Q9,Qa,Qb,Qc,Qd,Qe,Qf,Qg,Qh,Qi,Qj,Qk,Ql,Qm,Qn,Qo,Qp,Qq,Qr,Qs,Qt,Qu,Qv,Qw,Qx,Qy,Qz,QA,QB,QC,QD,QE,QF,QG,QH,QI,QJ,QK,QL,QM,QN,QO,QP,QQ,QR,QS,QT,QU,QV,QW,QX,QY,QZ,X0,X1,X2,X3,X4,X5,X6,X7,X8,X9,Xa,Xb,Xc,Xd,Xe,Xf,Xg,Xh,Xi,Xj,Xk,Xl,Xm,Xn,Xo,Xp,Xq,Xr,Xs,Xt,Xu,Xv,Xw,Xx,Xy,Xz,XA,XB,XC,XD,XE,XF,XG,XH,XI,XJ,XK,XL,XM,XN,XO,XP,XQ,XR,XS,XT,XU,XV,XW,XX,XY,XZ,Y0,Y1,Y2,Y3,Y4,Y5,Y6,Y7,Y8,Y9,Ya,Yb,Yc,Yd,Ye,Yf,Yg,Yh,Yi,Yj,Yk,Yl,Ym,Yn,Yo,Yp,Yq,Yr,Ys,Yt,Yu,Yv,Yw,Yx,Yy,Yz,YA,YB,YC,YD,YE,YF,YG,YH,YI,YJ,YK,YL,YM,YN,YO,YP,YQ,YR,YS,YT,YU,YV,YW,YX,YY,reduceIte,reduceCtorEq,ite_true,ite_false,if_true,if_false,YZ,Z0,Z1,Z2,Z3,Z4,and_true,true_and,and_self,true_imp_iff,false_imp_iff,eq_self,not_true_eq_false,not_false_eq_true,ne_eq,decide_true,decide_false,Z5,Z6,Z7,Z8,Z9,Za,Zb,Zc,Zd,Ze,Zf,Zg,Zh,Zi,Zj,Zk,Zl,Try.underlying3,Try.cs3,Try.bt3,Try.pa3,Try.zr3,Try.underlying5,Try.cs5,Try.bt5,Try.pa5,Try.zr5,Try.underlying22,Try.cs22,Try.bt22,Try.pa22,Try.zr22,Try.underlying24,Try.cs24,Try.bt24,Try.pa24,Try.ty24,Try.zr24,Try.pl24,Try.eq24,Try.fd24_0,Try.fd24_1,Try.fd24_2,Try.fd24_3,Try.fd24_4,Try.fd24_5,Try.fd24_6,Try.fd24_7,Try.underlying46,Try.cs46,Try.bt46,Try.pa46,Try.ty46,Try.sl46,Try.zr46]
  refine dCall_of0 (fun σ => k2 σ) ?_
  simp -implicitDefEqProofs only [Hd.av,Hd.cs,Q0,Q1,Q2,Q3,Q4,Q5,Q6,Q7,Q8,Q9,Qa,Qb,Qc,Qd,Qe,Qf,Qg,Qh,Qi,Qj,Qk,Ql,Qm,Qn,Qo,Qp,Qq,Qr,Qs,Qt,Qu,Qv,Qw,Qx,Qy,Qz,QA,QB,QC,QD,QE,QF,QG,QH,QI,QJ,QK,QL,QM,QN,QO,QP,QQ,QR,QS,QT,QU,QV,QW,QX,QY,QZ,X0,X1,X2,X3,X4,X5,X6,X7,X8,X9,Xa,Xb,Xc,Xd,Xe,Xf,Xg,Xh,Xi,Xj,Xk,Xl,Xm,Xn,Xo,Xp,Xq,Xr,Xs,Xt,Xu,Xv,Xw,Xx,Xy,Xz,XA,XB,XC,XD,XE,XF,XG,XH,XI,XJ,XK,XL,XM,XN,XO,XP,XQ,XR,XS,XT,XU,XV,XW,XX,XY,XZ,Y0,Y1,Y2,Y3,Y4,Y5,Y6,Y7,Y8,Y9,Ya,Yb,Yc,Yd,Ye,Yf,Yg,Yh,Yi,Yj,Yk,Yl,Ym,Yn,Yo,Yp,Yq,Yr,Ys,Yt,Yu,Yv,Yw,Yx,Yy,Yz,YA,YB,YC,YD,YE,YF,YG,YH,YI,YJ,YK,YL,YM,YN,YO,YP,YQ,YR,YS,YT,YU,YV,YW,YX,YY,reduceIte,reduceCtorEq,ite_true,ite_false,if_true,if_false,YZ,Z0,Z1,Z2,Z3,Z4,and_true,true_and,and_self,true_imp_iff,false_imp_iff,eq_self,not_true_eq_false,not_false_eq_true,ne_eq,decide_true,decide_false,Z5,Z6,Z7,Z8,Z9,Za,Zb,Zc,Zd,Ze,Zf,Zg,Zh,Zi,Zj,Zk,Zl,Try.underlying3,Try.cs3,Try.bt3,Try.pa3,Try.zr3,Try.underlying5,Try.cs5,Try.bt5,Try.pa5,Try.zr5,Try.underlying22,Try.cs22,Try.bt22,Try.pa22,Try.zr22,Try.underlying24,Try.cs24,Try.bt24,Try.pa24,Try.ty24,Try.zr24,Try.pl24,Try.eq24,Try.fd24_0,Try.fd24_1,Try.fd24_2,Try.fd24_3,Try.fd24_4,Try.fd24_5,Try.fd24_6,Try.fd24_7,Try.underlying46,Try.cs46,Try.bt46,Try.pa46,Try.ty46,Try.sl46,Try.zr46]
  refine append_buf (σ := [.dead]) Try.sl46 (by simp [Try.bt5]) hx1 hb1 (.inl rfl) (by simp [appFits, Try.bt5]; omega) fun r2 s2 hx2 hb2 => ?_
  simp -implicitDefEqProofs only [Hd.av,Hd.cs,Q0,Q1,Q2,Q3,Q4,Q5,Q6,Q7,Q8,Q9,Qa,Qb,Qc,Qd,Qe,Qf,Qg,Qh,Qi,Qj,Qk,Ql,Qm,Qn,Qo,Qp,Qq,Qr,Qs,Qt,Qu,Qv,Qw,Qx,Qy,Qz,QA,QB,QC,QD,QE,QF,QG,QH,QI,QJ,QK,QL,QM,QN,QO,QP,QQ,QR,QS,QT,QU,QV,QW,QX,QY,QZ,X0,X1,X2,X3,X4,X5,X6,X7,X8,X9,Xa,Xb,Xc,Xd,Xe,Xf,Xg,Xh,Xi,Xj,Xk,Xl,Xm,Xn,Xo,Xp,Xq,Xr,Xs,Xt,Xu,Xv,Xw,Xx,Xy,Xz,XA,XB,XC,XD,XE,XF,XG,XH,XI,XJ,XK,XL,XM,XN,XO,XP,XQ,XR,XS,XT,XU,XV,XW,XX,XY,XZ,Y0,Y1,Y2,Y3,Y4,Y5,Y6,Y7,Y8,Y9,Ya,Yb,Yc,Yd,Ye,Yf,Yg,Yh,Yi,Yj,Yk,Yl,Ym,Yn,Yo,Yp,Yq,Yr,Ys,Yt,Yu,Yv,Yw,Yx,Yy,Yz,YA,YB,YC,YD,YE,YF,YG,YH,YI,YJ,YK,YL,YM,YN,YO,YP,YQ,YR,YS,YT,YU,YV,YW,YX,YY,reduceIte,reduceCtorEq,ite_true,ite_false,if_true,if_false,YZ,Z0,Z1,Z2,Z3,Z4,and_true,true_and,and_self,true_imp_iff,false_imp_iff,eq_self,not_true_eq_false,not_false_eq_true,ne_eq,decide_true,decide_false,Z5,Z6,Z7,Z8,Z9,Za,Zb,Zc,Zd,Ze,Zf,Zg,Zh,Zi,Zj,Zk,Zl,Try.underlying3,Try.cs3,Try.bt3,Try.pa3,Try.zr3,Try.underlying5,Try.cs5,Try.bt5,Try.pa5,Try.zr5,Try.underlying22,Try.cs22,Try.bt22,Try.pa22,Try.zr22,Try.underlying24,Try.cs24,Try.bt24,Try.pa24,Try.ty24,Try.zr24,Try.pl24,Try.eq24,Try.fd24_0,Try.fd24_1,Try.fd24_2,Try.fd24_3,Try.fd24_4,Try.fd24_5,Try.fd24_6,Try.fd24_7,Try.underlying46,Try.cs46,Try.bt46,Try.pa46,Try.ty46,Try.sl46,Try.zr46]
  refine awp_draws [4, 8, 200002, 200003, 200006, 200007] Try.mixed (by kernel_rfl) ?_
  simp -implicitDefEqProofs only [Hd.av,Hd.cs,Q0,Q1,Q2,Q3,Q4,Q5,Q6,Q7,Q8,Q9,Qa,Qb,Qc,Qd,Qe,Qf,Qg,Qh,Qi,Qj,Qk,Ql,Qm,Qn,Qo,Qp,Qq,Qr,Qs,Qt,Qu,Qv,Qw,Qx,Qy,Qz,QA,QB,QC,QD,QE,QF,QG,QH,QI,QJ,QK,QL,QM,QN,QO,QP,QQ,QR,QS,QT,QU,QV,QW,QX,QY,QZ,X0,X1,X2,X3,X4,X5,X6,X7,X8,X9,Xa,Xb,Xc,Xd,Xe,Xf,Xg,Xh,Xi,Xj,Xk,Xl,Xm,Xn,Xo,Xp,Xq,Xr,Xs,Xt,Xu,Xv,Xw,Xx,Xy,Xz,XA,XB,XC,XD,XE,XF,XG,XH,XI,XJ,XK,XL,XM,XN,XO,XP,XQ,XR,XS,XT,XU,XV,XW,XX,XY,XZ,Y0,Y1,Y2,Y3,Y4,Y5,Y6,Y7,Y8,Y9,Ya,Yb,Yc,Yd,Ye,Yf,Yg,Yh,Yi,Yj,Yk,Yl,Ym,Yn,Yo,Yp,Yq,Yr,Ys,Yt,Yu,Yv,Yw,Yx,Yy,Yz,YA,YB,YC,YD,YE,YF,YG,YH,YI,YJ,YK,YL,YM,YN,YO,YP,YQ,YR,YS,YT,YU,YV,YW,YX,YY,reduceIte,reduceCtorEq,ite_true,ite_false,if_true,if_false,YZ,Z0,Z1,Z2,Z3,Z4,and_true,true_and,and_self,true_imp_iff,false_imp_iff,eq_self,not_true_eq_false,not_false_eq_true,ne_eq,decide_true,decide_false,Z5,Z6,Z7,Z8,Z9,Za,Zb,Zc,Zd,Ze,Zf,Zg,Zh,Zi,Zj,Zk,Zl,Try.underlying3,Try.cs3,Try.bt3,Try.pa3,Try.zr3,Try.underlying5,Try.cs5,Try.bt5,Try.pa5,Try.zr5,Try.underlying22,Try.cs22,Try.bt22,Try.pa22,Try.zr22,Try.underlying24,Try.cs24,Try.bt24,Try.pa24,Try.ty24,Try.zr24,Try.pl24,Try.eq24,Try.fd24_0,Try.fd24_1,Try.fd24_2,Try.fd24_3,Try.fd24_4,Try.fd24_5,Try.fd24_6,Try.fd24_7,Try.underlying46,Try.cs46,Try.bt46,Try.pa46,Try.ty46,Try.sl46,Try.zr46]
  refine dCall_of0 (fun σ => k3 σ) ?_
  simp -implicitDefEqProofs only [Hd.av,Hd.cs,Q0,Q1,Q2,Q3,Q4,Q5,Q6,Q7,Q8,Q9,Qa,Qb,Qc,Qd,Qe,Qf,Qg,Qh,Qi,Qj,Qk,Ql,Qm,Qn,Qo,Qp,Qq,Qr,Qs,Qt,Qu,Qv,Qw,Qx,Qy,Qz,QA,QB,QC,QD,QE,QF,QG,QH,QI,QJ,QK,QL,QM,QN,QO,QP,QQ,QR,QS,QT,QU,QV,QW,QX,QY,QZ,X0,X1,X2,X3,X4,X5,X6,X7,X8,X9,Xa,Xb,Xc,Xd,Xe,Xf,Xg,Xh,Xi,Xj,Xk,Xl,Xm,Xn,Xo,Xp,Xq,Xr,Xs,Xt,Xu,Xv,Xw,Xx,Xy,Xz,XA,XB,XC,XD,XE,XF,XG,XH,XI,XJ,XK,XL,XM,XN,XO,XP,XQ,XR,XS,XT,XU,XV,XW,XX,XY,XZ,Y0,Y1,Y2,Y3,Y4,Y5,Y6,Y7,Y8,Y9,Ya,Yb,Yc,Yd,Ye,Yf,Yg,Yh,Yi,Yj,Yk,Yl,Ym,Yn,Yo,Yp,Yq,Yr,Ys,Yt,Yu,Yv,Yw,Yx,Yy,Yz,YA,YB,YC,YD,YE,YF,YG,YH,YI,YJ,YK,YL,YM,YN,YO,YP,YQ,YR,YS,YT,YU,YV,YW,YX,YY,reduceIte,reduceCtorEq,ite_true,ite_false,if_true,if_false,YZ,Z0,Z1,Z2,Z3,Z4,and_true,true_and,and_self,true_imp_iff,false_imp_iff,eq_self,not_true_eq_false,not_false_eq_true,ne_eq,decide_true,decide_false,Z5,Z6,Z7,Z8,Z9,Za,Zb,Zc,Zd,Ze,Zf,Zg,Zh,Zi,Zj,Zk,Zl,Try.underlying3,Try.cs3,Try.bt3,Try.pa3,Try.zr3,Try.underlying5,Try.cs5,Try.bt5,Try.pa5,Try.zr5,Try.underlying22,Try.cs22,Try.bt22,Try.pa22,Try.zr22,Try.underlying24,Try.cs24,Try.bt24,Try.pa24,Try.ty24,Try.zr24,Try.pl24,Try.eq24,Try.fd24_0,Try.fd24_1,Try.fd24_2,Try.fd24_3,Try.fd24_4,Try.fd24_5,Try.fd24_6,Try.fd24_7,Try.underlying46,Try.cs46,Try.bt46,Try.pa46,Try.ty46,Try.sl46,Try.zr46]
  refine append_buf (σ := [.dead]) Try.sl46 (by simp [Try.bt5]) hx2 hb2 (.inl rfl) (by simp [appFits, Try.bt5]; omega) fun r3 s3 hx3 hb3 => ?_
  simp -implicitDefEqProofs only [Hd.av,Hd.cs,Q0,Q1,Q2,Q3,Q4,Q5,Q6,Q7,Q8,Q9,Qa,Qb,Qc,Qd,Qe,Qf,Qg,Qh,Qi,Qj,Qk,Ql,Qm,Qn,Qo,Qp,Qq,Qr,Qs,Qt,Qu,Qv,Qw,Qx,Qy,Qz,QA,QB,QC,QD,QE,QF,QG,QH,QI,QJ,QK,QL,QM,QN,QO,QP,QQ,QR,QS,QT,QU,QV,QW,QX,QY,QZ,X0,X1,X2,X3,X4,X5,X6,X7,X8,X9,Xa,Xb,Xc,Xd,Xe,Xf,Xg,Xh,Xi,Xj,Xk,Xl,Xm,Xn,Xo,Xp,Xq,Xr,Xs,Xt,Xu,Xv,Xw,Xx,Xy,Xz,XA,XB,XC,XD,XE,XF,XG,XH,XI,XJ,XK,XL,XM,XN,XO,XP,XQ,XR,XS,XT,XU,XV,XW,XX,XY,XZ,Y0,Y1,Y2,Y3,Y4,Y5,Y6,Y7,Y8,Y9,Ya,Yb,Yc,Yd,Ye,Yf,Yg,Yh,Yi,Yj,Yk,Yl,Ym,Yn,Yo,Yp,Yq,Yr,Ys,Yt,Yu,Yv,Yw,Yx,Yy,Yz,YA,YB,YC,YD,YE,YF,YG,YH,YI,YJ,YK,YL,YM,YN,YO,YP,YQ,YR,YS,YT,YU,YV,YW,YX,YY,reduceIte,reduceCtorEq,ite_true,ite_false,if_true,if_false,YZ,Z0,Z1,Z2,Z3,Z4,and_true,true_and,and_self,true_imp_iff,false_imp_iff,eq_self,not_true_eq_false,not_false_eq_true,ne_eq,decide_true,decide_false,Z5,Z6,Z7,Z8,Z9,Za,Zb,Zc,Zd,Ze,Zf,Zg,Zh,Zi,Zj,Zk,Zl,Try.underlying3,Try.cs3,Try.bt3,Try.pa3,Try.zr3,Try.underlying5,Try.cs5,Try.bt5,Try.pa5,Try.zr5,Try.underlying22,Try.cs22,Try.bt22,Try.pa22,Try.zr22,Try.underlying24,Try.cs24,Try.bt24,Try.pa24,Try.ty24,Try.zr24,Try.pl24,Try.eq24,Try.fd24_0,Try.fd24_1,Try.fd24_2,Try.fd24_3,Try.fd24_4,Try.fd24_5,Try.fd24_6,Try.fd24_7,Try.underlying46,Try.cs46,Try.bt46,Try.pa46,Try.ty46,Try.sl46,Try.zr46]
  refine dCall_of0 (fun σ => k4 σ) ?_
  simp -implicitDefEqProofs only [Hd.av,Hd.cs,Q0,Q1,Q2,Q3,Q4,Q5,Q6,Q7,Q8,Q9,Qa,Qb,Qc,Qd,Qe,Qf,Qg,Qh,Qi,Qj,Qk,Ql,Qm,Qn,Qo,Qp,Qq,Qr,Qs,Qt,Qu,Qv,Qw,Qx,Qy,Qz,QA,QB,QC,QD,QE,QF,QG,QH,QI,QJ,QK,QL,QM,QN,QO,QP,QQ,QR,QS,QT,QU,QV,QW,QX,QY,QZ,X0,X1,X2,X3,X4,X5,X6,X7,X8,X9,Xa,Xb,Xc,Xd,Xe,Xf,Xg,Xh,Xi,Xj,Xk,Xl,Xm,Xn,Xo,Xp,Xq,Xr,Xs,Xt,Xu,Xv,Xw,Xx,Xy,Xz,XA,XB,XC,XD,XE,XF,XG,XH,XI,XJ,XK,XL,XM,XN,XO,XP,XQ,XR,XS,XT,XU,XV,XW,XX,XY,XZ,Y0,Y1,Y2,Y3,Y4,Y5,Y6,Y7,Y8,Y9,Ya,Yb,Yc,Yd,Ye,Yf,Yg,Yh,Yi,Yj,Yk,Yl,Ym,Yn,Yo,Yp,Yq,Yr,Ys,Yt,Yu,Yv,Yw,Yx,Yy,Yz,YA,YB,YC,YD,YE,YF,YG,YH,YI,YJ,YK,YL,YM,YN,YO,YP,YQ,YR,YS,YT,YU,YV,YW,YX,YY,reduceIte,reduceCtorEq,ite_true,ite_false,if_true,if_false,YZ,Z0,Z1,Z2,Z3,Z4,and_true,true_and,and_self,true_imp_iff,false_imp_iff,eq_self,not_true_eq_false,not_false_eq_true,ne_eq,decide_true,decide_false,Z5,Z6,Z7,Z8,Z9,Za,Zb,Zc,Zd,Ze,Zf,Zg,Zh,Zi,Zj,Zk,Zl,Try.underlying3,Try.cs3,Try.bt3,Try.pa3,Try.zr3,Try.underlying5,Try.cs5,Try.bt5,Try.pa5,Try.zr5,Try.underlying22,Try.cs22,Try.bt22,Try.pa22,Try.zr22,Try.underlying24,Try.cs24,Try.bt24,Try.pa24,Try.ty24,Try.zr24,Try.pl24,Try.eq24,Try.fd24_0,Try.fd24_1,Try.fd24_2,Try.fd24_3,Try.fd24_4,Try.fd24_5,Try.fd24_6,Try.fd24_7,Try.underlying46,Try.cs46,Try.bt46,Try.pa46,Try.ty46,Try.sl46,Try.zr46]
  refine append_buf (σ := [.dead]) Try.sl46 (by simp [Try.bt5]) hx3 hb3 (.inl rfl) (by simp [appFits, Try.bt5]; omega) fun r4 s4 hx4 hb4 => ?_
  simp -implicitDefEqProofs only [Hd.av,Hd.cs,Q0,Q1,Q2,Q3,Q4,Q5,Q6,Q7,Q8,Q9,Qa,Qb,Qc,Qd,Qe,Qf,Qg,Qh,Qi,Qj,Qk,Ql,Qm,Qn,Qo,Qp,Qq,Qr,Qs,Qt,Qu,Qv,Qw,Qx,Qy,Qz,QA,QB,QC,QD,QE,QF,QG,QH,QI,QJ,QK,QL,QM,QN,QO,QP,QQ,QR,QS,QT,QU,QV,QW,QX,QY,QZ,X0,X1,X2,X3,X4,X5,X6,X7,X8,X9,Xa,Xb,Xc,Xd,Xe,Xf,Xg,Xh,Xi,Xj,Xk,Xl,Xm,Xn,Xo,Xp,Xq,Xr,Xs,Xt,Xu,Xv,Xw,Xx,Xy,Xz,XA,XB,XC,XD,XE,XF,XG,XH,XI,XJ,XK,XL,XM,XN,XO,XP,XQ,XR,XS,XT,XU,XV,XW,XX,XY,XZ,Y0,Y1,Y2,Y3,Y4,Y5,Y6,Y7,Y8,Y9,Ya,Yb,Yc,Yd,Ye,Yf,Yg,Yh,Yi,Yj,Yk,Yl,Ym,Yn,Yo,Yp,Yq,Yr,Ys,Yt,Yu,Yv,Yw,Yx,Yy,Yz,YA,YB,YC,YD,YE,YF,YG,YH,YI,YJ,YK,YL,YM,YN,YO,YP,YQ,YR,YS,YT,YU,YV,YW,YX,YY,reduceIte,reduceCtorEq,ite_true,ite_false,if_true,if_false,YZ,Z0,Z1,Z2,Z3,Z4,and_true,true_and,and_self,true_imp_iff,false_imp_iff,eq_self,not_true_eq_false,not_false_eq_true,ne_eq,decide_true,decide_false,Z5,Z6,Z7,Z8,Z9,Za,Zb,Zc,Zd,Ze,Zf,Zg,Zh,Zi,Zj,Zk,Zl,Try.underlying3,Try.cs3,Try.bt3,Try.pa3,Try.zr3,Try.underlying5,Try.cs5,Try.bt5,Try.pa5,Try.zr5,Try.underlying22,Try.cs22,Try.bt22,Try.pa22,Try.zr22,Try.underlying24,Try.cs24,Try.bt24,Try.pa24,Try.ty24,Try.zr24,Try.pl24,Try.eq24,Try.fd24_0,Try.fd24_1,Try.fd24_2,Try.fd24_3,Try.fd24_4,Try.fd24_5,Try.fd24_6,Try.fd24_7,Try.underlying46,Try.cs46,Try.bt46,Try.pa46,Try.ty46,Try.sl46,Try.zr46]
  refine awp_draws [4, 8, 200002, 200003, 200006, 200007] Try.mixed (by kernel_rfl) ?_
  simp -implicitDefEqProofs only [Hd.av,Hd.cs,Q0,Q1,Q2,Q3,Q4,Q5,Q6,Q7,Q8,Q9,Qa,Qb,Qc,Qd,Qe,Qf,Qg,Qh,Qi,Qj,Qk,Ql,Qm,Qn,Qo,Qp,Qq,Qr,Qs,Qt,Qu,Qv,Qw,Qx,Qy,Qz,QA,QB,QC,QD,QE,QF,QG,QH,QI,QJ,QK,QL,QM,QN,QO,QP,QQ,QR,QS,QT,QU,QV,QW,QX,QY,QZ,X0,X1,X2,X3,X4,X5,X6,X7,X8,X9,Xa,Xb,Xc,Xd,Xe,Xf,Xg,Xh,Xi,Xj,Xk,Xl,Xm,Xn,Xo,Xp,Xq,Xr,Xs,Xt,Xu,Xv,Xw,Xx,Xy,Xz,XA,XB,XC,XD,XE,XF,XG,XH,XI,XJ,XK,XL,XM,XN,XO,XP,XQ,XR,XS,XT,XU,XV,XW,XX,XY,XZ,Y0,Y1,Y2,Y3,Y4,Y5,Y6,Y7,Y8,Y9,Ya,Yb,Yc,Yd,Ye,Yf,Yg,Yh,Yi,Yj,Yk,Yl,Ym,Yn,Yo,Yp,Yq,Yr,Ys,Yt,Yu,Yv,Yw,Yx,Yy,Yz,YA,YB,YC,YD,YE,YF,YG,YH,YI,YJ,YK,YL,YM,YN,YO,YP,YQ,YR,YS,YT,YU,YV,YW,YX,YY,reduceIte,reduceCtorEq,ite_true,ite_false,if_true,if_false,YZ,Z0,Z1,Z2,Z3,Z4,and_true,true_and,and_self,true_imp_iff,false_imp_iff,eq_self,not_true_eq_false,not_false_eq_true,ne_eq,decide_true,decide_false,Z5,Z6,Z7,Z8,Z9,Za,Zb,Zc,Zd,Ze,Zf,Zg,Zh,Zi,Zj,Zk,Zl,Try.underlying3,Try.cs3,Try.bt3,Try.pa3,Try.zr3,Try.underlying5,Try.cs5,Try.bt5,Try.pa5,Try.zr5,Try.underlying22,Try.cs22,Try.bt22,Try.pa22,Try.zr22,Try.underlying24,Try.cs24,Try.bt24,Try.pa24,Try.ty24,Try.zr24,Try.pl24,Try.eq24,Try.fd24_0,Try.fd24_1,Try.fd24_2,Try.fd24_3,Try.fd24_4,Try.fd24_5,Try.fd24_6,Try.fd24_7,Try.underlying46,Try.cs46,Try.bt46,Try.pa46,Try.ty46,Try.sl46,Try.zr46]
  refine dCall_of0 (fun σ => k5 σ) ?_
  simp -implicitDefEqProofs only [Hd.av,Hd.cs,Q0,Q1,Q2,Q3,Q4,Q5,Q6,Q7,Q8,Q9,Qa,Qb,Qc,Qd,Qe,Qf,Qg,Qh,Qi,Qj,Qk,Ql,Qm,Qn,Qo,Qp,Qq,Qr,Qs,Qt,Qu,Qv,Qw,Qx,Qy,Qz,QA,QB,QC,QD,QE,QF,QG,QH,QI,QJ,QK,QL,QM,QN,QO,QP,QQ,QR,QS,QT,QU,QV,QW,QX,QY,QZ,X0,X1,X2,X3,X4,X5,X6,X7,X8,X9,Xa,Xb,Xc,Xd,Xe,Xf,Xg,Xh,Xi,Xj,Xk,Xl,Xm,Xn,Xo,Xp,Xq,Xr,Xs,Xt,Xu,Xv,Xw,Xx,Xy,Xz,XA,XB,XC,XD,XE,XF,XG,XH,XI,XJ,XK,XL,XM,XN,XO,XP,XQ,XR,XS,XT,XU,XV,XW,XX,XY,XZ,Y0,Y1,Y2,Y3,Y4,Y5,Y6,Y7,Y8,Y9,Ya,Yb,Yc,Yd,Ye,Yf,Yg,Yh,Yi,Yj,Yk,Yl,Ym,Yn,Yo,Yp,Yq,Yr,Ys,Yt,Yu,Yv,Yw,Yx,Yy,Yz,YA,YB,YC,YD,YE,YF,YG,YH,YI,YJ,YK,YL,YM,YN,YO,YP,YQ,YR,YS,YT,YU,YV,YW,YX,YY,reduceIte,reduceCtorEq,ite_true,ite_false,if_true,if_false,YZ,Z0,Z1,Z2,Z3,Z4,and_true,true_and,and_self,true_imp_iff,false_imp_iff,eq_self,not_true_eq_false,not_false_eq_true,ne_eq,decide_true,decide_false,Z5,Z6,Z7,Z8,Z9,Za,Zb,Zc,Zd,Ze,Zf,Zg,Zh,Zi,Zj,Zk,Zl,Try.underlying3,Try.cs3,Try.bt3,Try.pa3,Try.zr3,Try.underlying5,Try.cs5,Try.bt5,Try.pa5,Try.zr5,Try.underlying22,Try.cs22,Try.bt22,Try.pa22,Try.zr22,Try.underlying24,Try.cs24,Try.bt24,Try.pa24,Try.ty24,Try.zr24,Try.pl24,Try.eq24,Try.fd24_0,Try.fd24_1,Try.fd24_2,Try.fd24_3,Try.fd24_4,Try.fd24_5,Try.fd24_6,Try.fd24_7,Try.underlying46,Try.cs46,Try.bt46,Try.pa46,Try.ty46,Try.sl46,Try.zr46]
  refine append_buf (σ := [.dead]) Try.sl46 (by simp [Try.bt5]) hx4 hb4 (.inl rfl) (by simp [appFits, Try.bt5]; omega) fun r5 s5 hx5 hb5 => ?_
  simp -implicitDefEqProofs only [Hd.av,Hd.cs,Q0,Q1,Q2,Q3,Q4,Q5,Q6,Q7,Q8,Q9,Qa,Qb,Qc,Qd,Qe,Qf,Qg,Qh,Qi,Qj,Qk,Ql,Qm,Qn,Qo,Qp,Qq,Qr,Qs,Qt,Qu,Qv,Qw,Qx,Qy,Qz,QA,QB,QC,QD,QE,QF,QG,QH,QI,QJ,QK,QL,QM,QN,QO,QP,QQ,QR,QS,QT,QU,QV,QW,QX,QY,QZ,X0,X1,X2,X3,X4,X5,X6,X7,X8,X9,Xa,Xb,Xc,Xd,Xe,Xf,Xg,Xh,Xi,Xj,Xk,Xl,Xm,Xn,Xo,Xp,Xq,Xr,Xs,Xt,Xu,Xv,Xw,Xx,Xy,Xz,XA,XB,XC,XD,XE,XF,XG,XH,XI,XJ,XK,XL,XM,XN,XO,XP,XQ,XR,XS,XT,XU,XV,XW,XX,XY,XZ,Y0,Y1,Y2,Y3,Y4,Y5,Y6,Y7,Y8,Y9,Ya,Yb,Yc,Yd,Ye,Yf,Yg,Yh,Yi,Yj,Yk,Yl,Ym,Yn,Yo,Yp,Yq,Yr,Ys,Yt,Yu,Yv,Yw,Yx,Yy,Yz,YA,YB,YC,YD,YE,YF,YG,YH,YI,YJ,YK,YL,YM,YN,YO,YP,YQ,YR,YS,YT,YU,YV,YW,YX,YY,reduceIte,reduceCtorEq,ite_true,ite_false,if_true,if_false,YZ,Z0,Z1,Z2,Z3,Z4,and_true,true_and,and_self,true_imp_iff,false_imp_iff,eq_self,not_true_eq_false,not_false_eq_true,ne_eq,decide_true,decide_false,Z5,Z6,Z7,Z8,Z9,Za,Zb,Zc,Zd,Ze,Zf,Zg,Zh,Zi,Zj,Zk,Zl,Try.underlying3,Try.cs3,Try.bt3,Try.pa3,Try.zr3,Try.underlying5,Try.cs5,Try.bt5,Try.pa5,Try.zr5,Try.underlying22,Try.cs22,Try.bt22,Try.pa22,Try.zr22,Try.underlying24,Try.cs24,Try.bt24,Try.pa24,Try.ty24,Try.zr24,Try.pl24,Try.eq24,Try.fd24_0,Try.fd24_1,Try.fd24_2,Try.fd24_3,Try.fd24_4,Try.fd24_5,Try.fd24_6,Try.fd24_7,Try.underlying46,Try.cs46,Try.bt46,Try.pa46,Try.ty46,Try.sl46,Try.zr46]
  refine dCall_of0 (fun σ => k6 σ) ?_
  simp -implicitDefEqProofs only [Hd.av,Hd.cs,Q0,Q1,Q2,Q3,Q4,Q5,Q6,Q7,Q8,Q9,Qa,Qb,Qc,Qd,Qe,Qf,Qg,Qh,Qi,Qj,Qk,Ql,Qm,Qn,Qo,Qp,Qq,Qr,Qs,Qt,Qu,Qv,Qw,Qx,Qy,Qz,QA,QB,QC,QD,QE,QF,QG,QH,QI,QJ,QK,QL,QM,QN,QO,QP,QQ,QR,QS,QT,QU,QV,QW,QX,QY,QZ,X0,X1,X2,X3,X4,X5,X6,X7,X8,X9,Xa,Xb,Xc,Xd,Xe,Xf,Xg,Xh,Xi,Xj,Xk,Xl,Xm,Xn,Xo,Xp,Xq,Xr,Xs,Xt,Xu,Xv,Xw,Xx,Xy,Xz,XA,XB,XC,XD,XE,XF,XG,XH,XI,XJ,XK,XL,XM,XN,XO,XP,XQ,XR,XS,XT,XU,XV,XW,XX,XY,XZ,Y0,Y1,Y2,Y3,Y4,Y5,Y6,Y7,Y8,Y9,Ya,Yb,Yc,Yd,Ye,Yf,Yg,Yh,Yi,Yj,Yk,Yl,Ym,Yn,Yo,Yp,Yq,Yr,Ys,Yt,Yu,Yv,Yw,Yx,Yy,Yz,YA,YB,YC,YD,YE,YF,YG,YH,YI,YJ,YK,YL,YM,YN,YO,YP,YQ,YR,YS,YT,YU,YV,YW,YX,YY,reduceIte,reduceCtorEq,ite_true,ite_false,if_true,if_false,YZ,Z0,Z1,Z2,Z3,Z4,and_true,true_and,and_self,true_imp_iff,false_imp_iff,eq_self,not_true_eq_false,not_false_eq_true,ne_eq,decide_true,decide_false,Z5,Z6,Z7,Z8,Z9,Za,Zb,Zc,Zd,Ze,Zf,Zg,Zh,Zi,Zj,Zk,Zl,Try.underlying3,Try.cs3,Try.bt3,Try.pa3,Try.zr3,Try.underlying5,Try.cs5,Try.bt5,Try.pa5,Try.zr5,Try.underlying22,Try.cs22,Try.bt22,Try.pa22,Try.zr22,Try.underlying24,Try.cs24,Try.bt24,Try.pa24,Try.ty24,Try.zr24,Try.pl24,Try.eq24,Try.fd24_0,Try.fd24_1,Try.fd24_2,Try.fd24_3,Try.fd24_4,Try.fd24_5,Try.fd24_6,Try.fd24_7,Try.underlying46,Try.cs46,Try.bt46,Try.pa46,Try.ty46,Try.sl46,Try.zr46]
  refine append_buf (σ := [.dead]) Try.sl46 (by simp [Try.bt5]) hx5 hb5 (.inl rfl) (by simp [appFits, Try.bt5]; omega) fun r6 s6 hx6 hb6 => ?_
  simp -implicitDefEqProofs only [Hd.av,Hd.cs,Q0,Q1,Q2,Q3,Q4,Q5,Q6,Q7,Q8,Q9,Qa,Qb,Qc,Qd,Qe,Qf,Qg,Qh,Qi,Qj,Qk,Ql,Qm,Qn,Qo,Qp,Qq,Qr,Qs,Qt,Qu,Qv,Qw,Qx,Qy,Qz,QA,QB,QC,QD,QE,QF,QG,QH,QI,QJ,QK,QL,QM,QN,QO,QP,QQ,QR,QS,QT,QU,QV,QW,QX,QY,QZ,X0,X1,X2,X3,X4,X5,X6,X7,X8,X9,Xa,Xb,Xc,Xd,Xe,Xf,Xg,Xh,Xi,Xj,Xk,Xl,Xm,Xn,Xo,Xp,Xq,Xr,Xs,Xt,Xu,Xv,Xw,Xx,Xy,Xz,XA,XB,XC,XD,XE,XF,XG,XH,XI,XJ,XK,XL,XM,XN,XO,XP,XQ,XR,XS,XT,XU,XV,XW,XX,XY,XZ,Y0,Y1,Y2,Y3,Y4,Y5,Y6,Y7,Y8,Y9,Ya,Yb,Yc,Yd,Ye,Yf,Yg,Yh,Yi,Yj,Yk,Yl,Ym,Yn,Yo,Yp,Yq,Yr,Ys,Yt,Yu,Yv,Yw,Yx,Yy,Yz,YA,YB,YC,YD,YE,YF,YG,YH,YI,YJ,YK,YL,YM,YN,YO,YP,YQ,YR,YS,YT,YU,YV,YW,YX,YY,reduceIte,reduceCtorEq,ite_true,ite_false,if_true,if_false,YZ,Z0,Z1,Z2,Z3,Z4,and_true,true_and,and_self,true_imp_iff,false_imp_iff,eq_self,not_true_eq_false,not_false_eq_true,ne_eq,decide_true,decide_false,Z5,Z6,Z7,Z8,Z9,Za,Zb,Zc,Zd,Ze,Zf,Zg,Zh,Zi,Zj,Zk,Zl,Try.underlying3,Try.cs3,Try.bt3,Try.pa3,Try.zr3,Try.underlying5,Try.cs5,Try.bt5,Try.pa5,Try.zr5,Try.underlying22,Try.cs22,Try.bt22,Try.pa22,Try.zr22,Try.underlying24,Try.cs24,Try.bt24,Try.pa24,Try.ty24,Try.zr24,Try.pl24,Try.eq24,Try.fd24_0,Try.fd24_1,Try.fd24_2,Try.fd24_3,Try.fd24_4,Try.fd24_5,Try.fd24_6,Try.fd24_7,Try.underlying46,Try.cs46,Try.bt46,Try.pa46,Try.ty46,Try.sl46,Try.zr46]
  refine awp_draws [4, 8, 200002, 200003, 200006, 200007] Try.mixed (by kernel_rfl) ?_
  simp -implicitDefEqProofs only [Hd.av,Hd.cs,Q0,Q1,Q2,Q3,Q4,Q5,Q6,Q7,Q8,Q9,Qa,Qb,Qc,Qd,Qe,Qf,Qg,Qh,Qi,Qj,Qk,Ql,Qm,Qn,Qo,Qp,Qq,Qr,Qs,Qt,Qu,Qv,Qw,Qx,Qy,Qz,QA,QB,QC,QD,QE,QF,QG,QH,QI,QJ,QK,QL,QM,QN,QO,QP,QQ,QR,QS,QT,QU,QV,QW,QX,QY,QZ,X0,X1,X2,X3,X4,X5,X6,X7,X8,X9,Xa,Xb,Xc,Xd,Xe,Xf,Xg,Xh,Xi,Xj,Xk,Xl,Xm,Xn,Xo,Xp,Xq,Xr,Xs,Xt,Xu,Xv,Xw,Xx,Xy,Xz,XA,XB,XC,XD,XE,XF,XG,XH,XI,XJ,XK,XL,XM,XN,XO,XP,XQ,XR,XS,XT,XU,XV,XW,XX,XY,XZ,Y0,Y1,Y2,Y3,Y4,Y5,Y6,Y7,Y8,Y9,Ya,Yb,Yc,Yd,Ye,Yf,Yg,Yh,Yi,Yj,Yk,Yl,Ym,Yn,Yo,Yp,Yq,Yr,Ys,Yt,Yu,Yv,Yw,Yx,Yy,Yz,YA,YB,YC,YD,YE,YF,YG,YH,YI,YJ,YK,YL,YM,YN,YO,YP,YQ,YR,YS,YT,YU,YV,YW,YX,YY,reduceIte,reduceCtorEq,ite_true,ite_false,if_true,if_false,YZ,Z0,Z1,Z2,Z3,Z4,and_true,true_and,and_self,true_imp_iff,false_imp_iff,eq_self,not_true_eq_false,not_false_eq_true,ne_eq,decide_true,decide_false,Z5,Z6,Z7,Z8,Z9,Za,Zb,Zc,Zd,Ze,Zf,Zg,Zh,Zi,Zj,Zk,Zl,Try.underlying3,Try.cs3,Try.bt3,Try.pa3,Try.zr3,Try.underlying5,Try.cs5,Try.bt5,Try.pa5,Try.zr5,Try.underlying22,Try.cs22,Try.bt22,Try.pa22,Try.zr22,Try.underlying24,Try.cs24,Try.bt24,Try.pa24,Try.ty24,Try.zr24,Try.pl24,Try.eq24,Try.fd24_0,Try.fd24_1,Try.fd24_2,Try.fd24_3,Try.fd24_4,Try.fd24_5,Try.fd24_6,Try.fd24_7,Try.underlying46,Try.cs46,Try.bt46,Try.pa46,Try.ty46,Try.sl46,Try.zr46]
  refine dCall_of0 (fun σ => k7 σ) ?_
  simp -implicitDefEqProofs only [Hd.av,Hd.cs,Q0,Q1,Q2,Q3,Q4,Q5,Q6,Q7,Q8,Q9,Qa,Qb,Qc,Qd,Qe,Qf,Qg,Qh,Qi,Qj,Qk,Ql,Qm,Qn,Qo,Qp,Qq,Qr,Qs,Qt,Qu,Qv,Qw,Qx,Qy,Qz,QA,QB,QC,QD,QE,QF,QG,QH,QI,QJ,QK,QL,QM,QN,QO,QP,QQ,QR,QS,QT,QU,QV,QW,QX,QY,QZ,X0,X1,X2,X3,X4,X5,X6,X7,X8,X9,Xa,Xb,Xc,Xd,Xe,Xf,Xg,Xh,Xi,Xj,Xk,Xl,Xm,Xn,Xo,Xp,Xq,Xr,Xs,Xt,Xu,Xv,Xw,Xx,Xy,Xz,XA,XB,XC,XD,XE,XF,XG,XH,XI,XJ,XK,XL,XM,XN,XO,XP,XQ,XR,XS,XT,XU,XV,XW,XX,XY,XZ,Y0,Y1,Y2,Y3,Y4,Y5,Y6,Y7,Y8,Y9,Ya,Yb,Yc,Yd,Ye,Yf,Yg,Yh,Yi,Yj,Yk,Yl,Ym,Yn,Yo,Yp,Yq,Yr,Ys,Yt,Yu,Yv,Yw,Yx,Yy,Yz,YA,YB,YC,YD,YE,YF,YG,YH,YI,YJ,YK,YL,YM,YN,YO,YP,YQ,YR,YS,YT,YU,YV,YW,YX,YY,reduceIte,reduceCtorEq,ite_true,ite_false,if_true,if_false,YZ,Z0,Z1,Z2,Z3,Z4,and_true,true_and,and_self,true_imp_iff,false_imp_iff,eq_self,not_true_eq_false,not_false_eq_true,ne_eq,decide_true,decide_false,Z5,Z6,Z7,Z8,Z9,Za,Zb,Zc,Zd,Ze,Zf,Zg,Zh,Zi,Zj,Zk,Zl,Try.underlying3,Try.cs3,Try.bt3,Try.pa3,Try.zr3,Try.underlying5,Try.cs5,Try.bt5,Try.pa5,Try.zr5,Try.underlying22,Try.cs22,Try.bt22,Try.pa22,Try.zr22,Try.underlying24,Try.cs24,Try.bt24,Try.pa24,Try.ty24,Try.zr24,Try.pl24,Try.eq24,Try.fd24_0,Try.fd24_1,Try.fd24_2,Try.fd24_3,Try.fd24_4,Try.fd24_5,Try.fd24_6,Try.fd24_7,Try.underlying46,Try.cs46,Try.bt46,Try.pa46,Try.ty46,Try.sl46,Try.zr46]
  refine append_buf (σ := [.dead]) Try.sl46 (by simp [Try.bt5]) hx6 hb6 (.inl rfl) (by simp [appFits, Try.bt5]; omega) fun r7 s7 hx7 hb7 => ?_
  simp -implicitDefEqProofs only [Hd.av,Hd.cs,Q0,Q1,Q2,Q3,Q4,Q5,Q6,Q7,Q8,Q9,Qa,Qb,Qc,Qd,Qe,Qf,Qg,Qh,Qi,Qj,Qk,Ql,Qm,Qn,Qo,Qp,Qq,Qr,Qs,Qt,Qu,Qv,Qw,Qx,Qy,Qz,QA,QB,QC,QD,QE,QF,QG,QH,QI,QJ,QK,QL,QM,QN,QO,QP,QQ,QR,QS,QT,QU,QV,QW,QX,QY,QZ,X0,X1,X2,X3,X4,X5,X6,X7,X8,X9,Xa,Xb,Xc,Xd,Xe,Xf,Xg,Xh,Xi,Xj,Xk,Xl,Xm,Xn,Xo,Xp,Xq,Xr,Xs,Xt,Xu,Xv,Xw,Xx,Xy,Xz,XA,XB,XC,XD,XE,XF,XG,XH,XI,XJ,XK,XL,XM,XN,XO,XP,XQ,XR,XS,XT,XU,XV,XW,XX,XY,XZ,Y0,Y1,Y2,Y3,Y4,Y5,Y6,Y7,Y8,Y9,Ya,Yb,Yc,Yd,Ye,Yf,Yg,Yh,Yi,Yj,Yk,Yl,Ym,Yn,Yo,Yp,Yq,Yr,Ys,Yt,Yu,Yv,Yw,Yx,Yy,Yz,YA,YB,YC,YD,YE,YF,YG,YH,YI,YJ,YK,YL,YM,YN,YO,YP,YQ,YR,YS,YT,YU,YV,YW,YX,YY,reduceIte,reduceCtorEq,ite_true,ite_false,if_true,if_false,YZ,Z0,Z1,Z2,Z3,Z4,and_true,true_and,and_self,true_imp_iff,false_imp_iff,eq_self,not_true_eq_false,not_false_eq_true,ne_eq,decide_true,decide_false,Z5,Z6,Z7,Z8,Z9,Za,Zb,Zc,Zd,Ze,Zf,Zg,Zh,Zi,Zj,Zk,Zl,Try.underlying3,Try.cs3,Try.bt3,Try.pa3,Try.zr3,Try.underlying5,Try.cs5,Try.bt5,Try.pa5,Try.zr5,Try.underlying22,Try.cs22,Try.bt22,Try.pa22,Try.zr22,Try.underlying24,Try.cs24,Try.bt24,Try.pa24,Try.ty24,Try.zr24,Try.pl24,Try.eq24,Try.fd24_0,Try.fd24_1,Try.fd24_2,Try.fd24_3,Try.fd24_4,Try.fd24_5,Try.fd24_6,Try.fd24_7,Try.underlying46,Try.cs46,Try.bt46,Try.pa46,Try.ty46,Try.sl46,Try.zr46]
  refine dCall_of0 (fun σ => k8 σ) ?_
  simp -implicitDefEqProofs only [Hd.av,Hd.cs,Q0,Q1,Q2,Q3,Q4,Q5,Q6,Q7,Q8,Q9,Qa,Qb,Qc,Qd,Qe,Qf,Qg,Qh,Qi,Qj,Qk,Ql,Qm,Qn,Qo,Qp,Qq,Qr,Qs,Qt,Qu,Qv,Qw,Qx,Qy,Qz,QA,QB,QC,QD,QE,QF,QG,QH,QI,QJ,QK,QL,QM,QN,QO,QP,QQ,QR,QS,QT,QU,QV,QW,QX,QY,QZ,X0,X1,X2,X3,X4,X5,X6,X7,X8,X9,Xa,Xb,Xc,Xd,Xe,Xf,Xg,Xh,Xi,Xj,Xk,Xl,Xm,Xn,Xo,Xp,Xq,Xr,Xs,Xt,Xu,Xv,Xw,Xx,Xy,Xz,XA,XB,XC,XD,XE,XF,XG,XH,XI,XJ,XK,XL,XM,XN,XO,XP,XQ,XR,XS,XT,XU,XV,XW,XX,XY,XZ,Y0,Y1,Y2,Y3,Y4,Y5,Y6,Y7,Y8,Y9,Ya,Yb,Yc,Yd,Ye,Yf,Yg,Yh,Yi,Yj,Yk,Yl,Ym,Yn,Yo,Yp,Yq,Yr,Ys,Yt,Yu,Yv,Yw,Yx,Yy,Yz,YA,YB,YC,YD,YE,YF,YG,YH,YI,YJ,YK,YL,YM,YN,YO,YP,YQ,YR,YS,YT,YU,YV,YW,YX,YY,reduceIte,reduceCtorEq,ite_true,ite_false,if_true,if_false,YZ,Z0,Z1,Z2,Z3,Z4,and_true,true_and,and_self,true_imp_iff,false_imp_iff,eq_self,not_true_eq_false,not_false_eq_true,ne_eq,decide_true,decide_false,Z5,Z6,Z7,Z8,Z9,Za,Zb,Zc,Zd,Ze,Zf,Zg,Zh,Zi,Zj,Zk,Zl,Try.underlying3,Try.cs3,Try.bt3,Try.pa3,Try.zr3,Try.underlying5,Try.cs5,Try.bt5,Try.pa5,Try.zr5,Try.underlying22,Try.cs22,Try.bt22,Try.pa22,Try.zr22,Try.underlying24,Try.cs24,Try.bt24,Try.pa24,Try.ty24,Try.zr24,Try.pl24,Try.eq24,Try.fd24_0,Try.fd24_1,Try.fd24_2,Try.fd24_3,Try.fd24_4,Try.fd24_5,Try.fd24_6,Try.fd24_7,Try.underlying46,Try.cs46,Try.bt46,Try.pa46,Try.ty46,Try.sl46,Try.zr46]
  refine append_buf (σ := [.dead]) Try.sl46 (by simp [Try.bt5]) hx7 hb7 (.inl rfl) (by simp [appFits, Try.bt5]; omega) fun r8 s8 hx8 hb8 => ?_
  simp -implicitDefEqProofs only [Hd.av,Hd.cs,Q0,Q1,Q2,Q3,Q4,Q5,Q6,Q7,Q8,Q9,Qa,Qb,Qc,Qd,Qe,Qf,Qg,Qh,Qi,Qj,Qk,Ql,Qm,Qn,Qo,Qp,Qq,Qr,Qs,Qt,Qu,Qv,Qw,Qx,Qy,Qz,QA,QB,QC,QD,QE,QF,QG,QH,QI,QJ,QK,QL,QM,QN,QO,QP,QQ,QR,QS,QT,QU,QV,QW,QX,QY,QZ,X0,X1,X2,X3,X4,X5,X6,X7,X8,X9,Xa,Xb,Xc,Xd,Xe,Xf,Xg,Xh,Xi,Xj,Xk,Xl,Xm,Xn,Xo,Xp,Xq,Xr,Xs,Xt,Xu,Xv,Xw,Xx,Xy,Xz,XA,XB,XC,XD,XE,XF,XG,XH,XI,XJ,XK,XL,XM,XN,XO,XP,XQ,XR,XS,XT,XU,XV,XW,XX,XY,XZ,Y0,Y1,Y2,Y3,Y4,Y5,Y6,Y7,Y8,Y9,Ya,Yb,Yc,Yd,Ye,Yf,Yg,Yh,Yi,Yj,Yk,Yl,Ym,Yn,Yo,Yp,Yq,Yr,Ys,Yt,Yu,Yv,Yw,Yx,Yy,Yz,YA,YB,YC,YD,YE,YF,YG,YH,YI,YJ,YK,YL,YM,YN,YO,YP,YQ,YR,YS,YT,YU,YV,YW,YX,YY,reduceIte,reduceCtorEq,ite_true,ite_false,if_true,if_false,YZ,Z0,Z1,Z2,Z3,Z4,and_true,true_and,and_self,true_imp_iff,false_imp_iff,eq_self,not_true_eq_false,not_false_eq_true,ne_eq,decide_true,decide_false,Z5,Z6,Z7,Z8,Z9,Za,Zb,Zc,Zd,Ze,Zf,Zg,Zh,Zi,Zj,Zk,Zl,Try.underlying3,Try.cs3,Try.bt3,Try.pa3,Try.zr3,Try.underlying5,Try.cs5,Try.bt5,Try.pa5,Try.zr5,Try.underlying22,Try.cs22,Try.bt22,Try.pa22,Try.zr22,Try.underlying24,Try.cs24,Try.bt24,Try.pa24,Try.ty24,Try.zr24,Try.pl24,Try.eq24,Try.fd24_0,Try.fd24_1,Try.fd24_2,Try.fd24_3,Try.fd24_4,Try.fd24_5,Try.fd24_6,Try.fd24_7,Try.underlying46,Try.cs46,Try.bt46,Try.pa46,Try.ty46,Try.sl46,Try.zr46]
  exact ⟨fun i y hy => by simp at hy, BufI.down hb8 (Nat.zero_le _)⟩

/-! ### What is read -/

/-- What is read of bytes: a head, and what is left. -/
def decS (b : List Int) : Hd × St :=
  let p1 := intT (.ok b)
  let p2 := intT p1.2
  let p3 := intT p2.2
  let p4 := intT p3.2
  let p5 := uintT p4.2
  let p6 := uintT p5.2
  let p7 := intT p6.2
  let p8 := uintT p7.2
  (⟨p1.1, p2.1, p3.1, p4.1, p5.1, p6.1, p7.1, p8.1⟩, p8.2)

def decI (b : List Int) : Hd × Int := if endT (decS b).2 = 0 then ((decS b).1, 0) else (h0, 2)

/-- The error, if any, is one. -/
def Ne0 (st : St) : Prop := ∀ e, st = .er e → e ≠ 0

theorem ne0_uint {st : St} (h : Ne0 st) : Ne0 (uintT st).2 := by
  intro e he
  cases st with
  | ok l =>
    have := uintM_er 10 0 0 l (uintT (.ok l)).1 e (by rw [← he]; rfl)
    omega
  | er e' => exact h e (by cases he; rfl)

theorem ne0_int {st : St} (h : Ne0 st) : Ne0 (intT st).2 := ne0_uint h

theorem uintT_up {st : St} {v : Nat} {r : List Int} (h : uintT st = (v, .ok r)) : ∃ l, st = .ok l := by
  cases st with
  | ok l => exact ⟨l, rfl⟩
  | er e => simp [uintT] at h

theorem intT_up {st : St} {v : Int} {r : List Int} (h : intT st = (v, .ok r)) : ∃ l, st = .ok l := by
  cases st with
  | ok l => exact ⟨l, rfl⟩
  | er e => simp [intT, uintT] at h

theorem dec_enc {h : Hd} (hg : h.good) : decI (encH h) = (h, 0) := by
  obtain ⟨g1, g2, g3, g4, g5, g6, g7, g8⟩ := hg
  obtain ⟨ln, hln⟩ := toNat_in g5
  obtain ⟨mn, hmn⟩ := toNat_in g6
  obtain ⟨gn, hgn⟩ := toNat_in g8
  have e : decS (encH h) = (h, .ok []) := by
    unfold decS encH
    simp only [List.append_assoc]
    have e8 : uintT (.ok (uintE h.g.toNat)) = (h.g.toNat, .ok []) := by have := uintT_enc gn []; rwa [List.append_nil] at this
    rw [intT_enc g1]
    simp only
    rw [intT_enc g2]
    simp only
    rw [intT_enc g3]
    simp only
    rw [intT_enc g4]
    simp only
    rw [uintT_enc ln]
    simp only
    rw [uintT_enc mn]
    simp only
    rw [intT_enc g7]
    simp only
    rw [e8]
    simp only [hln, hmn, hgn]
  unfold decI
  rw [e]
  rfl

theorem dec_back {b : List Int} (hu : U8s b) (h : endT (decS b).2 = 0) : encH (decS b).1 = b ∧ (decS b).1.good := by
  unfold decS at h ⊢
  simp only at h ⊢
  have n0 : Ne0 (.ok b) := fun e h => by cases h
  rcases e1 : intT (.ok b) with ⟨v1, t1⟩
  have n1 : Ne0 t1 := by have := ne0_int n0; rwa [e1] at this
  simp only [e1] at h ⊢
  rcases e2 : intT t1 with ⟨v2, t2⟩
  have n2 : Ne0 t2 := by have := ne0_int n1; rwa [e2] at this
  simp only [e2] at h ⊢
  rcases e3 : intT t2 with ⟨v3, t3⟩
  have n3 : Ne0 t3 := by have := ne0_int n2; rwa [e3] at this
  simp only [e3] at h ⊢
  rcases e4 : intT t3 with ⟨v4, t4⟩
  have n4 : Ne0 t4 := by have := ne0_int n3; rwa [e4] at this
  simp only [e4] at h ⊢
  rcases e5 : uintT t4 with ⟨v5, t5⟩
  have n5 : Ne0 t5 := by have := ne0_uint n4; rwa [e5] at this
  simp only [e5] at h ⊢
  rcases e6 : uintT t5 with ⟨v6, t6⟩
  have n6 : Ne0 t6 := by have := ne0_uint n5; rwa [e6] at this
  simp only [e6] at h ⊢
  rcases e7 : intT t6 with ⟨v7, t7⟩
  have n7 : Ne0 t7 := by have := ne0_int n6; rwa [e7] at this
  simp only [e7] at h ⊢
  rcases e8 : uintT t7 with ⟨v8, t8⟩
  have n8 : Ne0 t8 := by have := ne0_uint n7; rwa [e8] at this
  simp only [e8] at h ⊢
  have ht8 : t8 = .ok [] := by
    cases t8 with
    | er e => exact absurd h (n8 e rfl)
    | ok l => cases l with
      | nil => rfl
      | cons a l => simp [endT] at h
  subst ht8
  obtain ⟨l7, rfl⟩ := uintT_up e8
  obtain ⟨l6, rfl⟩ := intT_up e7
  obtain ⟨l5, rfl⟩ := uintT_up e6
  obtain ⟨l4, rfl⟩ := uintT_up e5
  obtain ⟨l3, rfl⟩ := intT_up e4
  obtain ⟨l2, rfl⟩ := intT_up e3
  obtain ⟨l1, rfl⟩ := intT_up e2
  obtain ⟨q1, r1⟩ := intT_back hu e1
  have u1 : U8s l1 := by rw [q1] at hu; exact U8s.right hu
  obtain ⟨q2, r2⟩ := intT_back u1 e2
  have u2 : U8s l2 := by rw [q2] at u1; exact U8s.right u1
  obtain ⟨q3, r3⟩ := intT_back u2 e3
  have u3 : U8s l3 := by rw [q3] at u2; exact U8s.right u2
  obtain ⟨q4, r4⟩ := intT_back u3 e4
  have u4 : U8s l4 := by rw [q4] at u3; exact U8s.right u3
  obtain ⟨q5, r5⟩ := uintT_back u4 e5
  have u5 : U8s l5 := by rw [q5] at u4; exact U8s.right u4
  obtain ⟨q6, r6⟩ := uintT_back u5 e6
  have u6 : U8s l6 := by rw [q6] at u5; exact U8s.right u5
  obtain ⟨q7, r7⟩ := intT_back u6 e7
  have u7 : U8s l7 := by rw [q7] at u6; exact U8s.right u6
  obtain ⟨q8, r8⟩ := uintT_back u7 e8
  refine ⟨?_, r1, r2, r3, r4, ⟨by simp only; omega, by simp only; omega⟩, ⟨by simp only; omega, by simp only; omega⟩, r7, ⟨by simp only; omega, by simp only; omega⟩⟩
  unfold encH
  simp only [Int.toNat_natCast, List.append_assoc]
  rw [q1, q2, q3, q4, q5, q6, q7, q8, List.append_nil]

theorem dec_cases {b : List Int} (hu : U8s b) : (∃ h, decI b = (h, 0) ∧ h.good ∧ encH h = b) ∨ decI b = (h0, 2) := by
  unfold decI
  split
  · rename_i h
    obtain ⟨h1, h2⟩ := dec_back hu h
    exact .inl ⟨_, rfl, h2, h1⟩
  · exact .inr rfl

/-- A Reader lies in object id, and is about to read st; object 0 is X. -/
def KeepR (id : Nat) (X : AObj) (st : St) (s : Store) : Prop := ∃ o, s[id]? = some o ∧ RdO st o ∧ s[0]? = some X

theorem KeepR.set {id : Nat} {X : AObj} {st st' : St} {s : Store} {o' : AObj} (h : KeepR id X st s) (hid : id ≠ 0) (ho : RdO st' o') : KeepR id X st' (s.set id o') := by
  obtain ⟨o, h1, h2, h3⟩ := h
  exact ⟨o', sto_here h1, ho, by rw [List.getElem?_set_ne (by omega)]; exact h3⟩

theorem rdi {id : Nat} {X : AObj} {st : St} {s : Store} (h : KeepR id X st s) (hid : id ≠ 0) : ACalls Try.prog 47 [.ptr id 0] s (fun r s' => r = .int .i64 (intT st).1 ∧ KeepR id X (intT st).2 s') := by
  have hh := h
  obtain ⟨o, h1, h2, h3⟩ := hh
  refine ACalls.mono (rd_int' st h1 h2) ?_
  rintro _ _ ⟨rfl, o1, rfl, ho1⟩
  exact ⟨rfl, h.set hid ho1⟩

theorem rdu {id : Nat} {X : AObj} {st : St} {s : Store} (h : KeepR id X st s) (hid : id ≠ 0) : ACalls Try.prog 48 [.ptr id 0] s (fun r s' => r = .int .u64 (uintT st).1 ∧ KeepR id X (uintT st).2 s') := by
  have hh := h
  obtain ⟨o, h1, h2, h3⟩ := hh
  refine ACalls.mono (rd_uint' st h1 h2) ?_
  rintro _ _ ⟨rfl, o1, rfl, ho1⟩
  exact ⟨rfl, h.set hid ho1⟩

theorem rde {id : Nat} {X : AObj} {st : St} {s : Store} (h : KeepR id X st s) : ACalls Try.prog 49 [.ptr id 0] s (fun r s' => r = .int .i64 (endT st) ∧ s' = s) := by
  obtain ⟨o, h1, h2, h3⟩ := h
  exact rd_end' st h1 h2

end Go.Proofs
