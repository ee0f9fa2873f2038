/-
  The log of hashes: copies; how long paths and links are. Contracts and plain laws.
-/
import Derived.Test.YthcbnjmmeejcjaaLu
namespace Go.Proofs
open Go.Pa
open Go.Pa renaming vc_seq → Q0, vc_block → Q1, vc_exit → Q2, vc_ret → Q3, vc_skip → Q4, vc_region → Q5, vc_draw → Q6, vc_loop → Q7, vc_range → Q8, vc_cond → Q9, condV_true → Qa, condV_false → Qb, condV_bool → Qc, seqK_normal → Qd, seqK_ret → Qe, seqK_exit → Qf, blkK_normal → Qg, blkK_ret → Qh, blkK_exit → Qi, loopK_ret → Qj, loopK_exit → Qk, loopK_normal → Ql, vcOps_nil → Qm, vcOps_cons → Qn, vcOps_guardM → Qo, guardM_some → Qp, guardV_und → Qq, guardV_same → Qr, guardV_tf → Qs, guardV_ft → Qt, guardV_bool → Qu, vcOp_out → Qv, outV_val → Qw, outV_need → Qx, outV_no → Qy, opK_run → Qz, opK_none → QA, vcS → QB, evA → QC, evBin → QD, nilA → QE, nilOf → QF, intOp → QG, strOp → QH, evUn → QI, evConv → QJ, evField → QK, evFieldAddr → QL, evIndexAddr → QM, evIndex → QN, bnd → QO, evSlice → QP, evLen → QQ, evPick → QR, evExtract → QS, evNilCheck → QT, evMin → QU, evMax → QV, evLoadI → QW, cO_int → QX, cO_bool → QY, cO_str → QZ, cO_nils → X0, cO_emp → X1, cO_ints → X2, cO_rows → X3, cO_mvec → X4, cO_ptr → X5, cO_eptr → X6, cO_iptr → X7, cO_nilp → X8, cO_fn → X9, cO_nilf → Xa, cO_mp → Xb, cO_nilm → Xc, cO_glob → Xd, cO_agg → Xe, partsOne → Xg, intsOf → Xh, rowsAV → Xi, evBuildSlice → Xj, evBuild → Xk, fillA → Xl, splice → Xm, evBuiltin → Xn, vcE_nil → Xo, vcE_cons → Xp, vcE_guardM → Xq, guardME_some → Xr, guardD_und → Xs, guardD_same → Xt, guardD_tf → Xu, guardD_ft → Xv, guardD_bool → Xw, dK_run → Xx, dK_none → Xy, dOp_call → Xz, callA_fn → XA, dOp → XB, outA_val → XC, outA_need → XD, cl → XE, vcLoad → XF, vcStore → XG, vcMake → XH, evO_tmp → XI, evO_int → XJ, evO_bool → XK, evO_nils → XL, evO_nilp → XM, evO_nilf → XN, evO_nilm → XO, evO_str → XP, evO_func → XQ, evO_glob → XR, convA → XS, evIndexArr → XT, lookA_cons → XU, get_cons → XV, sub_cons → XW, sub_nil → XX, retK_ret → XY, retK_normal → XZ, retA → Y0, ressA → Y1, resA → Y2, envOf → Y3, vcR_skip → Y7, vcR_seq → Y8, vcR_block → Y9, vcR_exit → Ya, vcR_ret → Yb, vcR_region → Yc, vcR_draw → Yd, vcR_cond → Ye, condR_true → Yf, condR_false → Yg, condR_bool → Yh, seqR_normal → Yi, seqR_ret → Yj, seqR_exit → Yk, asgEnv → Yl, parEnv → Ym, dstAt → Z5, sto_assoc → Z6, sto_len → Z7, sto_at → Z8, sto_at0 → Z9, sto_set → Za, sto_set0 → Zb, vcLook → Zm, vcPut → Zn, vcEnt → Zo, vcESt → Zp, vcMLen → Zq, vcDel → Zr, vcClear → Zs, vcLookD → Zt, ansL_t → Zu, ansL_f → Zv
open Go.Pa.AV renaming cell → Xf
open Go.Pa.Env renaming put → Y4
open List renaming set_cons_zero → Y5, set_cons_succ → Y6, foldl_cons → Yn, foldl_nil → Yo, map_cons → Yp, map_nil → Yq, toList_toArray → Yr, getElem?_cons_zero → Ys, getElem?_cons_succ → Yt, nil_append → Yx, append_nil → Yy, cons_append → Yz, singleton_append → YA, length_cons → YB, length_nil → YC, all_cons → YD, all_nil → YE, take_succ_cons → YF, take_zero → YG, take_nil → YH, drop_zero → YI, drop_succ_cons → YJ, drop_nil → YK, contains_nil → YL, contains_cons → YM
open Option renaming bind_some → Yu, map_some → Yv, map_none → Yw
open Bool renaming or_false → YN, false_or → YO, or_true → YP, true_or → YQ, false_eq_true → YZ, not_true → Z0, not_false → Z1, and_true → Z2, true_and → Z3, and_self → Z4
open Nat renaming reduceEqDiff → YR, reduceAdd → YS, reduceSub → YT, reduceMul → YU, reduceLT → YV, reduceLeDiff → YW, reduceBNe → YX, reduceBEq → YY, zero_add → Ze, add_zero → Zf
open UInt8 renaming reduceToNat → Zc
open Int renaming cast_ofNat_Int → Zd, reduceToNat → Zg, reduceLT → Zh, reduceLE → Zi, reduceNeg → Zj, reduceEq → Zk, reduceNe → Zl
set_option linter.unusedSimpArgs false
set_option linter.unusedVariables false
set_option maxRecDepth 20000
set_option maxHeartbeats 4000000

/-- slices.Clone of a slice that the caller has made. -/
theorem clone64 {s : Store} {n : Nat} {r : AV} {l : List Int} (h : BufI s n r .u64 l) (hl : l.length < 2000000) : ACalls Try.prog 48 [r] s (FreshI s .u64 l) := by
  rcases h with ⟨rfl | rfl, rfl⟩ | ⟨id, rfl, ho, _⟩
  · refine acalls_of_vc (fn := Try.f48) Try.call48 Try.func48 rfl (by kernel_rfl) (by simp [Try.ntmps48]) ?_; simp -implicitDefEqProofs only [Try.ntmps48,Try.results48,Q0,Q1,Q2,Q3,Q4,Q5,Q6,Q7,Q8,Q9,Qa,Qb,Qc,Qd,Qe,Qf,Qg,Qh,Qi,Qj,Qk,Ql,Qm,Qn,Qo,Qp,Qq,Qr,Qs,Qt,Qu,Qv,Qw,Qx,Qy,Qz,QA,QB,QC,QD,QE,QF,QG,QH,QI,QJ,QK,QL,QM,QN,QO,QP,QQ,QR,QS,QT,QU,QV,QW,QX,QY,QZ,X0,X1,X2,X3,X4,X5,X6,X7,X8,X9,Xa,Xb,Xc,Xd,Xe,Xf,Xg,Xh,Xi,Xj,Xk,Xl,Xm,Xn,Xo,Xp,Xq,Xr,Xs,Xt,Xu,Xv,Xw,Xx,Xy,Xz,XA,XB,XC,XD,XE,XF,XG,XH,XI,XJ,XK,XL,XM,XN,XO,XP,XQ,XR,XS,XT,XU,XV,XW,XX,XY,XZ,Y0,Y1,Y2,Y3,Y4,Y5,Y6,Y7,Y8,Y9,Ya,Yb,Yc,Yd,Ye,Yf,Yg,Yh,Yi,Yj,Yk,Yl,Ym,Yn,Yo,Yp,Yq,Yr,Ys,Yt,Yu,Yv,Yw,Yx,Yy,Yz,YA,YB,YC,YD,YE,YF,YG,YH,YI,YJ,YK,YL,YM,YN,YO,YP,YQ,YR,YS,YT,YU,YV,YW,YX,YY,reduceIte,reduceCtorEq,ite_true,ite_false,if_true,if_false,YZ,Z0,Z1,Z2,Z3,Z4,and_true,true_and,and_self,true_imp_iff,false_imp_iff,eq_self,not_true_eq_false,not_false_eq_true,ne_eq,decide_true,decide_false,Z5,Z6,Z7,Z8,Z9,Za,Zb,Zc,Zd,Ze,Zf,Zg,Zh,Zi,Zj,Zk,Zl,Zm,Zn,Zo,Zp,Zq,Zr,Zs,Zt,Zu,Zv,Try.underlying4,Try.cs4,Try.bt4,Try.pa4,Try.ty4,Try.zr4,Try.underlying23,Try.cs23,Try.bt23,Try.pa23,Try.ty23,Try.sl23,Try.zr23,Try.underlying36,Try.cs36,Try.bt36,Try.pa36,Try.zr36]
    exact .inl ⟨.inl rfl, rfl, rfl⟩
  · refine acalls_of_vc (fn := Try.f48) Try.call48 Try.func48 rfl (by kernel_rfl) (by simp [Try.ntmps48]) ?_; simp -implicitDefEqProofs only [Try.ntmps48,Try.results48,Q0,Q1,Q2,Q3,Q4,Q5,Q6,Q7,Q8,Q9,Qa,Qb,Qc,Qd,Qe,Qf,Qg,Qh,Qi,Qj,Qk,Ql,Qm,Qn,Qo,Qp,Qq,Qr,Qs,Qt,Qu,Qv,Qw,Qx,Qy,Qz,QA,QB,QC,QD,QE,QF,QG,QH,QI,QJ,QK,QL,QM,QN,QO,QP,QQ,QR,QS,QT,QU,QV,QW,QX,QY,QZ,X0,X1,X2,X3,X4,X5,X6,X7,X8,X9,Xa,Xb,Xc,Xd,Xe,Xf,Xg,Xh,Xi,Xj,Xk,Xl,Xm,Xn,Xo,Xp,Xq,Xr,Xs,Xt,Xu,Xv,Xw,Xx,Xy,Xz,XA,XB,XC,XD,XE,XF,XG,XH,XI,XJ,XK,XL,XM,XN,XO,XP,XQ,XR,XS,XT,XU,XV,XW,XX,XY,XZ,Y0,Y1,Y2,Y3,Y4,Y5,Y6,Y7,Y8,Y9,Ya,Yb,Yc,Yd,Ye,Yf,Yg,Yh,Yi,Yj,Yk,Yl,Ym,Yn,Yo,Yp,Yq,Yr,Ys,Yt,Yu,Yv,Yw,Yx,Yy,Yz,YA,YB,YC,YD,YE,YF,YG,YH,YI,YJ,YK,YL,YM,YN,YO,YP,YQ,YR,YS,YT,YU,YV,YW,YX,YY,reduceIte,reduceCtorEq,ite_true,ite_false,if_true,if_false,YZ,Z0,Z1,Z2,Z3,Z4,and_true,true_and,and_self,true_imp_iff,false_imp_iff,eq_self,not_true_eq_false,not_false_eq_true,ne_eq,decide_true,decide_false,Z5,Z6,Z7,Z8,Z9,Za,Zb,Zc,Zd,Ze,Zf,Zg,Zh,Zi,Zj,Zk,Zl,Zm,Zn,Zo,Zp,Zq,Zr,Zs,Zt,Zu,Zv,Try.underlying4,Try.cs4,Try.bt4,Try.pa4,Try.ty4,Try.zr4,Try.underlying23,Try.cs23,Try.bt23,Try.pa23,Try.ty23,Try.sl23,Try.zr23,Try.underlying36,Try.cs36,Try.bt36,Try.pa36,Try.zr36]
    simp only [vcAppend, Try.sl23, contA]
    refine ⟨by simp [Try.bt36], ?_⟩
    simp -implicitDefEqProofs only [Q0,Q1,Q2,Q3,Q4,Q5,Q6,Q7,Q8,Q9,Qa,Qb,Qc,Qd,Qe,Qf,Qg,Qh,Qi,Qj,Qk,Ql,Qm,Qn,Qo,Qp,Qq,Qr,Qs,Qt,Qu,Qv,Qw,Qx,Qy,Qz,QA,QB,QC,QD,QE,QF,QG,QH,QI,QJ,QK,QL,QM,QN,QO,QP,QQ,QR,QS,QT,QU,QV,QW,QX,QY,QZ,X0,X1,X2,X3,X4,X5,X6,X7,X8,X9,Xa,Xb,Xc,Xd,Xe,Xf,Xg,Xh,Xi,Xj,Xk,Xl,Xm,Xn,Xo,Xp,Xq,Xr,Xs,Xt,Xu,Xv,Xw,Xx,Xy,Xz,XA,XB,XC,XD,XE,XF,XG,XH,XI,XJ,XK,XL,XM,XN,XO,XP,XQ,XR,XS,XT,XU,XV,XW,XX,XY,XZ,Y0,Y1,Y2,Y3,Y4,Y5,Y6,Y7,Y8,Y9,Ya,Yb,Yc,Yd,Ye,Yf,Yg,Yh,Yi,Yj,Yk,Yl,Ym,Yn,Yo,Yp,Yq,Yr,Ys,Yt,Yu,Yv,Yw,Yx,Yy,Yz,YA,YB,YC,YD,YE,YF,YG,YH,YI,YJ,YK,YL,YM,YN,YO,YP,YQ,YR,YS,YT,YU,YV,YW,YX,YY,reduceIte,reduceCtorEq,ite_true,ite_false,if_true,if_false,YZ,Z0,Z1,Z2,Z3,Z4,and_true,true_and,and_self,true_imp_iff,false_imp_iff,eq_self,not_true_eq_false,not_false_eq_true,ne_eq,decide_true,decide_false,Z5,Z6,Z7,Z8,Z9,Za,Zb,Zc,Zd,Ze,Zf,Zg,Zh,Zi,Zj,Zk,Zl,Zm,Zn,Zo,Zp,Zq,Zr,Zs,Zt,Zu,Zv,Try.underlying4,Try.cs4,Try.bt4,Try.pa4,Try.ty4,Try.zr4,Try.underlying23,Try.cs23,Try.bt23,Try.pa23,Try.ty23,Try.sl23,Try.zr23,Try.underlying36,Try.cs36,Try.bt36,Try.pa36,Try.zr36]
    exact .inl ⟨.inr rfl, rfl, rfl⟩
  · refine acalls_of_vc (fn := Try.f48) Try.call48 Try.func48 rfl (by kernel_rfl) (by simp [Try.ntmps48]) ?_; simp -implicitDefEqProofs only [Try.ntmps48,Try.results48,Q0,Q1,Q2,Q3,Q4,Q5,Q6,Q7,Q8,Q9,Qa,Qb,Qc,Qd,Qe,Qf,Qg,Qh,Qi,Qj,Qk,Ql,Qm,Qn,Qo,Qp,Qq,Qr,Qs,Qt,Qu,Qv,Qw,Qx,Qy,Qz,QA,QB,QC,QD,QE,QF,QG,QH,QI,QJ,QK,QL,QM,QN,QO,QP,QQ,QR,QS,QT,QU,QV,QW,QX,QY,QZ,X0,X1,X2,X3,X4,X5,X6,X7,X8,X9,Xa,Xb,Xc,Xd,Xe,Xf,Xg,Xh,Xi,Xj,Xk,Xl,Xm,Xn,Xo,Xp,Xq,Xr,Xs,Xt,Xu,Xv,Xw,Xx,Xy,Xz,XA,XB,XC,XD,XE,XF,XG,XH,XI,XJ,XK,XL,XM,XN,XO,XP,XQ,XR,XS,XT,XU,XV,XW,XX,XY,XZ,Y0,Y1,Y2,Y3,Y4,Y5,Y6,Y7,Y8,Y9,Ya,Yb,Yc,Yd,Ye,Yf,Yg,Yh,Yi,Yj,Yk,Yl,Ym,Yn,Yo,Yp,Yq,Yr,Ys,Yt,Yu,Yv,Yw,Yx,Yy,Yz,YA,YB,YC,YD,YE,YF,YG,YH,YI,YJ,YK,YL,YM,YN,YO,YP,YQ,YR,YS,YT,YU,YV,YW,YX,YY,reduceIte,reduceCtorEq,ite_true,ite_false,if_true,if_false,YZ,Z0,Z1,Z2,Z3,Z4,and_true,true_and,and_self,true_imp_iff,false_imp_iff,eq_self,not_true_eq_false,not_false_eq_true,ne_eq,decide_true,decide_false,Z5,Z6,Z7,Z8,Z9,Za,Zb,Zc,Zd,Ze,Zf,Zg,Zh,Zi,Zj,Zk,Zl,Zm,Zn,Zo,Zp,Zq,Zr,Zs,Zt,Zu,Zv,Try.underlying4,Try.cs4,Try.bt4,Try.pa4,Try.ty4,Try.zr4,Try.underlying23,Try.cs23,Try.bt23,Try.pa23,Try.ty23,Try.sl23,Try.zr23,Try.underlying36,Try.cs36,Try.bt36,Try.pa36,Try.zr36]
    have hc : contA s (.mvec id 0 l.length 1) = some (.I .u64 l) := by
      simp only [contA, ho]
      rw [if_pos ⟨trivial, by omega⟩]
      simp
    simp only [vcAppend, Try.sl23, hc]
    refine ⟨by simp [Try.bt36], trivial, fun h0 => ?_, fun h0 => ⟨by simp [appFits, Try.bt36]; omega, ?_⟩⟩
    · simp -implicitDefEqProofs only [Q0,Q1,Q2,Q3,Q4,Q5,Q6,Q7,Q8,Q9,Qa,Qb,Qc,Qd,Qe,Qf,Qg,Qh,Qi,Qj,Qk,Ql,Qm,Qn,Qo,Qp,Qq,Qr,Qs,Qt,Qu,Qv,Qw,Qx,Qy,Qz,QA,QB,QC,QD,QE,QF,QG,QH,QI,QJ,QK,QL,QM,QN,QO,QP,QQ,QR,QS,QT,QU,QV,QW,QX,QY,QZ,X0,X1,X2,X3,X4,X5,X6,X7,X8,X9,Xa,Xb,Xc,Xd,Xe,Xf,Xg,Xh,Xi,Xj,Xk,Xl,Xm,Xn,Xo,Xp,Xq,Xr,Xs,Xt,Xu,Xv,Xw,Xx,Xy,Xz,XA,XB,XC,XD,XE,XF,XG,XH,XI,XJ,XK,XL,XM,XN,XO,XP,XQ,XR,XS,XT,XU,XV,XW,XX,XY,XZ,Y0,Y1,Y2,Y3,Y4,Y5,Y6,Y7,Y8,Y9,Ya,Yb,Yc,Yd,Ye,Yf,Yg,Yh,Yi,Yj,Yk,Yl,Ym,Yn,Yo,Yp,Yq,Yr,Ys,Yt,Yu,Yv,Yw,Yx,Yy,Yz,YA,YB,YC,YD,YE,YF,YG,YH,YI,YJ,YK,YL,YM,YN,YO,YP,YQ,YR,YS,YT,YU,YV,YW,YX,YY,reduceIte,reduceCtorEq,ite_true,ite_false,if_true,if_false,YZ,Z0,Z1,Z2,Z3,Z4,and_true,true_and,and_self,true_imp_iff,false_imp_iff,eq_self,not_true_eq_false,not_false_eq_true,ne_eq,decide_true,decide_false,Z5,Z6,Z7,Z8,Z9,Za,Zb,Zc,Zd,Ze,Zf,Zg,Zh,Zi,Zj,Zk,Zl,Zm,Zn,Zo,Zp,Zq,Zr,Zs,Zt,Zu,Zv,Try.underlying4,Try.cs4,Try.bt4,Try.pa4,Try.ty4,Try.zr4,Try.underlying23,Try.cs23,Try.bt23,Try.pa23,Try.ty23,Try.sl23,Try.zr23,Try.underlying36,Try.cs36,Try.bt36,Try.pa36,Try.zr36]
      exact .inl ⟨.inr rfl, h0, rfl⟩
    · simp -implicitDefEqProofs only [Q0,Q1,Q2,Q3,Q4,Q5,Q6,Q7,Q8,Q9,Qa,Qb,Qc,Qd,Qe,Qf,Qg,Qh,Qi,Qj,Qk,Ql,Qm,Qn,Qo,Qp,Qq,Qr,Qs,Qt,Qu,Qv,Qw,Qx,Qy,Qz,QA,QB,QC,QD,QE,QF,QG,QH,QI,QJ,QK,QL,QM,QN,QO,QP,QQ,QR,QS,QT,QU,QV,QW,QX,QY,QZ,X0,X1,X2,X3,X4,X5,X6,X7,X8,X9,Xa,Xb,Xc,Xd,Xe,Xf,Xg,Xh,Xi,Xj,Xk,Xl,Xm,Xn,Xo,Xp,Xq,Xr,Xs,Xt,Xu,Xv,Xw,Xx,Xy,Xz,XA,XB,XC,XD,XE,XF,XG,XH,XI,XJ,XK,XL,XM,XN,XO,XP,XQ,XR,XS,XT,XU,XV,XW,XX,XY,XZ,Y0,Y1,Y2,Y3,Y4,Y5,Y6,Y7,Y8,Y9,Ya,Yb,Yc,Yd,Ye,Yf,Yg,Yh,Yi,Yj,Yk,Yl,Ym,Yn,Yo,Yp,Yq,Yr,Ys,Yt,Yu,Yv,Yw,Yx,Yy,Yz,YA,YB,YC,YD,YE,YF,YG,YH,YI,YJ,YK,YL,YM,YN,YO,YP,YQ,YR,YS,YT,YU,YV,YW,YX,YY,reduceIte,reduceCtorEq,ite_true,ite_false,if_true,if_false,YZ,Z0,Z1,Z2,Z3,Z4,and_true,true_and,and_self,true_imp_iff,false_imp_iff,eq_self,not_true_eq_false,not_false_eq_true,ne_eq,decide_true,decide_false,Z5,Z6,Z7,Z8,Z9,Za,Zb,Zc,Zd,Ze,Zf,Zg,Zh,Zi,Zj,Zk,Zl,Zm,Zn,Zo,Zp,Zq,Zr,Zs,Zt,Zu,Zv,Try.underlying4,Try.cs4,Try.bt4,Try.pa4,Try.ty4,Try.zr4,Try.underlying23,Try.cs23,Try.bt23,Try.pa23,Try.ty23,Try.sl23,Try.zr23,Try.underlying36,Try.cs36,Try.bt36,Try.pa36,Try.zr36]
      exact .inr ⟨rfl, rfl⟩

theorem c_copy (l : List Int) (hl : l.length ≤ 65536) (s : Store) (n id j : Nat) (hT : GrowT s n id j l) :
    ACalls Try.prog 27 [.ptr id 0] s (fun r s' => ∃ id2 j2, r = .ptr id2 0 ∧ Ext s s' ∧ GrowT s' s.length id2 j2 l) := by
  obtain ⟨h1, h2, h3, x, h4, h5⟩ := hT
  have hx : Ext s (s ++ [.mp (.kv [] 0), .box [.nils, .mp s.length]]) := Ext.app _ _
  have h4' := hx _ _ h4
  have h5' : BufI (s ++ [.mp (.kv [] 0), .box [.nils, .mp s.length]]) n x .u64 l := bufI_keep h5 fun i a b h => hx _ _ h
  have g1 : (s ++ [AObj.mp (.kv [] 0), .box [.nils, .mp s.length]])[s.length + 1]? = some (.box [.nils, .mp s.length]) := by simp
  have g0 : (s ++ [AObj.mp (.kv [] 0), .box [.nils, .mp s.length]])[s.length]? = some (.mp (.kv [] 0)) := by simp
  have gl : (s ++ [AObj.mp (.kv [] 0), .box [.nils, .mp s.length]]).length = s.length + 2 := by simp
  refine acalls_of_vc (fn := Try.f27) Try.call27 Try.func27 rfl (by kernel_rfl) (by simp [Try.ntmps27]) ?_; simp -implicitDefEqProofs only [Try.ntmps27,Try.results27,Q0,Q1,Q2,Q3,Q4,Q5,Q6,Q7,Q8,Q9,Qa,Qb,Qc,Qd,Qe,Qf,Qg,Qh,Qi,Qj,Qk,Ql,Qm,Qn,Qo,Qp,Qq,Qr,Qs,Qt,Qu,Qv,Qw,Qx,Qy,Qz,QA,QB,QC,QD,QE,QF,QG,QH,QI,QJ,QK,QL,QM,QN,QO,QP,QQ,QR,QS,QT,QU,QV,QW,QX,QY,QZ,X0,X1,X2,X3,X4,X5,X6,X7,X8,X9,Xa,Xb,Xc,Xd,Xe,Xf,Xg,Xh,Xi,Xj,Xk,Xl,Xm,Xn,Xo,Xp,Xq,Xr,Xs,Xt,Xu,Xv,Xw,Xx,Xy,Xz,XA,XB,XC,XD,XE,XF,XG,XH,XI,XJ,XK,XL,XM,XN,XO,XP,XQ,XR,XS,XT,XU,XV,XW,XX,XY,XZ,Y0,Y1,Y2,Y3,Y4,Y5,Y6,Y7,Y8,Y9,Ya,Yb,Yc,Yd,Ye,Yf,Yg,Yh,Yi,Yj,Yk,Yl,Ym,Yn,Yo,Yp,Yq,Yr,Ys,Yt,Yu,Yv,Yw,Yx,Yy,Yz,YA,YB,YC,YD,YE,YF,YG,YH,YI,YJ,YK,YL,YM,YN,YO,YP,YQ,YR,YS,YT,YU,YV,YW,YX,YY,reduceIte,reduceCtorEq,ite_true,ite_false,if_true,if_false,YZ,Z0,Z1,Z2,Z3,Z4,and_true,true_and,and_self,true_imp_iff,false_imp_iff,eq_self,not_true_eq_false,not_false_eq_true,ne_eq,decide_true,decide_false,Z5,Z6,Z7,Z8,Z9,Za,Zb,Zc,Zd,Ze,Zf,Zg,Zh,Zi,Zj,Zk,Zl,Zm,Zn,Zo,Zp,Zq,Zr,Zs,Zt,Zu,Zv,Try.underlying23,Try.cs23,Try.bt23,Try.pa23,Try.ty23,Try.sl23,Try.zr23,Try.underlying25,Try.cs25,Try.bt25,Try.pa25,Try.ty25,Try.zr25,Try.underlying36,Try.cs36,Try.bt36,Try.pa36,Try.zr36,Try.underlying54,Try.cs54,Try.bt54,Try.pa54,Try.ty54,Try.zr54,Try.ky54,Try.zv54,Try.underlying56,Try.cs56,Try.bt56,Try.pa56,Try.ty56,Try.zr56,Try.pl56,Try.fd56_0,Try.fd56_1]
  refine acalls_then (c_tnew _) ?_
  generalize s ++ [AObj.mp (.kv [] 0), .box [.nils, .mp s.length]] = s1 at *
  simp -implicitDefEqProofs only [h4',Q0,Q1,Q2,Q3,Q4,Q5,Q6,Q7,Q8,Q9,Qa,Qb,Qc,Qd,Qe,Qf,Qg,Qh,Qi,Qj,Qk,Ql,Qm,Qn,Qo,Qp,Qq,Qr,Qs,Qt,Qu,Qv,Qw,Qx,Qy,Qz,QA,QB,QC,QD,QE,QF,QG,QH,QI,QJ,QK,QL,QM,QN,QO,QP,QQ,QR,QS,QT,QU,QV,QW,QX,QY,QZ,X0,X1,X2,X3,X4,X5,X6,X7,X8,X9,Xa,Xb,Xc,Xd,Xe,Xf,Xg,Xh,Xi,Xj,Xk,Xl,Xm,Xn,Xo,Xp,Xq,Xr,Xs,Xt,Xu,Xv,Xw,Xx,Xy,Xz,XA,XB,XC,XD,XE,XF,XG,XH,XI,XJ,XK,XL,XM,XN,XO,XP,XQ,XR,XS,XT,XU,XV,XW,XX,XY,XZ,Y0,Y1,Y2,Y3,Y4,Y5,Y6,Y7,Y8,Y9,Ya,Yb,Yc,Yd,Ye,Yf,Yg,Yh,Yi,Yj,Yk,Yl,Ym,Yn,Yo,Yp,Yq,Yr,Ys,Yt,Yu,Yv,Yw,Yx,Yy,Yz,YA,YB,YC,YD,YE,YF,YG,YH,YI,YJ,YK,YL,YM,YN,YO,YP,YQ,YR,YS,YT,YU,YV,YW,YX,YY,reduceIte,reduceCtorEq,ite_true,ite_false,if_true,if_false,YZ,Z0,Z1,Z2,Z3,Z4,and_true,true_and,and_self,true_imp_iff,false_imp_iff,eq_self,not_true_eq_false,not_false_eq_true,ne_eq,decide_true,decide_false,Z5,Z6,Z7,Z8,Z9,Za,Zb,Zc,Zd,Ze,Zf,Zg,Zh,Zi,Zj,Zk,Zl,Zm,Zn,Zo,Zp,Zq,Zr,Zs,Zt,Zu,Zv,Try.underlying23,Try.cs23,Try.bt23,Try.pa23,Try.ty23,Try.sl23,Try.zr23,Try.underlying25,Try.cs25,Try.bt25,Try.pa25,Try.ty25,Try.zr25,Try.underlying36,Try.cs36,Try.bt36,Try.pa36,Try.zr36,Try.underlying54,Try.cs54,Try.bt54,Try.pa54,Try.ty54,Try.zr54,Try.ky54,Try.zv54,Try.underlying56,Try.cs56,Try.bt56,Try.pa56,Try.ty56,Try.zr56,Try.pl56,Try.fd56_0,Try.fd56_1]
  refine ACalls.mono (clone64 h5' (by omega)) ?_
  intro r s2 hf
  have hc : r.cellsOf = some [r] ∧ BufI s2 s.length r .u64 l ∧ Ext s1 s2 := by
    rcases hf with ⟨h, h0, rfl⟩ | ⟨rfl, rfl⟩
    · exact ⟨by rcases h with rfl | rfl <;> rfl, .inl ⟨h, h0⟩, .refl _⟩
    · exact ⟨rfl, .inr ⟨_, rfl, by simp, by omega⟩, Ext.app _ _⟩
  obtain ⟨hc, hb, hx2⟩ := hc
  have g1' := hx2 _ _ g1
  have g0' := hx2 _ _ g0
  have hd := (List.getElem?_eq_some_iff.1 g1').1
  simp -implicitDefEqProofs only [hc,g1',Q0,Q1,Q2,Q3,Q4,Q5,Q6,Q7,Q8,Q9,Qa,Qb,Qc,Qd,Qe,Qf,Qg,Qh,Qi,Qj,Qk,Ql,Qm,Qn,Qo,Qp,Qq,Qr,Qs,Qt,Qu,Qv,Qw,Qx,Qy,Qz,QA,QB,QC,QD,QE,QF,QG,QH,QI,QJ,QK,QL,QM,QN,QO,QP,QQ,QR,QS,QT,QU,QV,QW,QX,QY,QZ,X0,X1,X2,X3,X4,X5,X6,X7,X8,X9,Xa,Xb,Xc,Xd,Xe,Xf,Xg,Xh,Xi,Xj,Xk,Xl,Xm,Xn,Xo,Xp,Xq,Xr,Xs,Xt,Xu,Xv,Xw,Xx,Xy,Xz,XA,XB,XC,XD,XE,XF,XG,XH,XI,XJ,XK,XL,XM,XN,XO,XP,XQ,XR,XS,XT,XU,XV,XW,XX,XY,XZ,Y0,Y1,Y2,Y3,Y4,Y5,Y6,Y7,Y8,Y9,Ya,Yb,Yc,Yd,Ye,Yf,Yg,Yh,Yi,Yj,Yk,Yl,Ym,Yn,Yo,Yp,Yq,Yr,Ys,Yt,Yu,Yv,Yw,Yx,Yy,Yz,YA,YB,YC,YD,YE,YF,YG,YH,YI,YJ,YK,YL,YM,YN,YO,YP,YQ,YR,YS,YT,YU,YV,YW,YX,YY,reduceIte,reduceCtorEq,ite_true,ite_false,if_true,if_false,YZ,Z0,Z1,Z2,Z3,Z4,and_true,true_and,and_self,true_imp_iff,false_imp_iff,eq_self,not_true_eq_false,not_false_eq_true,ne_eq,decide_true,decide_false,Z5,Z6,Z7,Z8,Z9,Za,Zb,Zc,Zd,Ze,Zf,Zg,Zh,Zi,Zj,Zk,Zl,Zm,Zn,Zo,Zp,Zq,Zr,Zs,Zt,Zu,Zv,Try.underlying23,Try.cs23,Try.bt23,Try.pa23,Try.ty23,Try.sl23,Try.zr23,Try.underlying25,Try.cs25,Try.bt25,Try.pa25,Try.ty25,Try.zr25,Try.underlying36,Try.cs36,Try.bt36,Try.pa36,Try.zr36,Try.underlying54,Try.cs54,Try.bt54,Try.pa54,Try.ty54,Try.zr54,Try.ky54,Try.zv54,Try.underlying56,Try.cs56,Try.bt56,Try.pa56,Try.ty56,Try.zr56,Try.pl56,Try.fd56_0,Try.fd56_1]
  refine ⟨s.length + 1, s.length, rfl, fun i y hy => ?_, by omega, by omega, ?_, r, List.getElem?_set_self hd, ?_⟩
  · have hi := (List.getElem?_eq_some_iff.1 hy).1
    rw [List.getElem?_set_ne (by omega)]
    exact hx2 _ _ (hx _ _ hy)
  · rw [List.getElem?_set_ne (by omega)]; exact g0'
  · exact bufI_keep hb fun i a b h => by
      rw [List.getElem?_set_ne (fun e => by subst e; rw [g1'] at h; cases h)]; exact h

/-- A tree, no more to be written, beside another one. -/
noncomputable def shut2 (s : Store) (id j id2 j2 : Nat) (l : List Int) : Store := s.mapIdx fun i o => if i = id then .box [.ints .u64 l, .mp j] else if i = j ∨ i = id2 ∨ i = j2 then o else .dead

theorem shut2_get (s : Store) (id j id2 j2 : Nat) (l : List Int) (i : Nat) : (shut2 s id j id2 j2 l)[i]? = (s[i]?).map fun o => if i = id then .box [.ints .u64 l, .mp j] else if i = j ∨ i = id2 ∨ i = j2 then o else .dead := by
  unfold shut2; rw [List.getElem?_mapIdx]

theorem GrowT.shut2 {s : Store} {id j id2 j2 : Nat} {l x : List Int} (h : GrowT s 0 id j l) (hT : TreeV s id2 j2 x) (hne2 : id ≠ id2) :
    ShS s (fun i => i ≠ id ∧ i ≠ j ∧ i ≠ id2 ∧ i ≠ j2) (Go.Proofs.shut2 s id j id2 j2 l) ∧ (Go.Proofs.shut2 s id j id2 j2 l)[id]? = some (.box [.ints .u64 l, .mp j]) ∧ (Go.Proofs.shut2 s id j id2 j2 l)[j]? = some (.mp (.kv [] 0)) ∧
      TreeV (Go.Proofs.shut2 s id j id2 j2 l) id2 j2 x := by
  obtain ⟨h1, h2, h3, z, h4, h5⟩ := h
  have hne : id ≠ j := fun e => by rw [e, h3] at h4; cases h4
  have hnj : id ≠ j2 := fun e => by have := hT.2; rw [← e, h4] at this; cases this
  refine ⟨⟨by simp [Go.Proofs.shut2], fun i y hy => ?_⟩, by rw [shut2_get, h4]; simp, by rw [shut2_get, h3]; simp [Ne.symm hne], ?_, ?_⟩
  · rw [shut2_get] at hy
    cases hs : s[i]? with
    | none => rw [hs] at hy; cases hy
    | some o =>
      rw [hs] at hy
      simp only [Option.map_some, Option.some.injEq] at hy
      split at hy
      · rename_i hi; subst hi; subst hy
        rw [h4] at hs; cases hs
        refine .inr ⟨fun h => h.1 rfl, _, rfl, .box _ _ rfl fun k a b ha hb => ?_⟩
        match k with
        | 0 =>
          cases ha; cases hb
          rcases h5 with ⟨rfl | rfl, rfl⟩ | ⟨v, rfl, hv, hvn⟩
          · exact .nilI _
          · exact .empI _
          · have hh := Sh.vecI (s := s) (p := fun k => k ≠ i ∧ k ≠ j ∧ k ≠ id2 ∧ k ≠ j2) v 0 l.length .u64 l hv ⟨fun e => (by rw [e, h4] at hv; cases hv), fun e => (by rw [e, h3] at hv; cases hv), fun e => (by rw [e, hT.1] at hv; cases hv), fun e => (by rw [e, hT.2] at hv; cases hv)⟩ (by omega)
            simpa using hh
        | 1 => cases ha; cases hb; exact .same _
        | k + 2 => cases ha
      · split at hy
        · rename_i hi; subst hy
          exact .inr ⟨fun h => by omega, o, rfl, .same _⟩
        · exact .inl hy.symm
  · rw [shut2_get, hT.1]; simp [Ne.symm hne2]
  · rw [shut2_get, hT.2]; simp [Ne.symm hnj]

/-! ### How long -/

theorem half_two : ∀ (d k n : Nat), n - k ≤ d → (∃ a, k = 2 ^ a) → ∃ b, halfG k n = 2 ^ b := by
  intro d
  induction d with
  | zero =>
    intro k n h ⟨a, ha⟩
    have : 0 < k := by rw [ha]; exact Nat.two_pow_pos a
    rw [halfG_end (by omega)]; exact ⟨a, ha⟩
  | succ d ih =>
    intro k n h ⟨a, ha⟩
    have h0 : 0 < k := by rw [ha]; exact Nat.two_pow_pos a
    by_cases h2 : 2 * k < n
    · rw [halfG_step h0 h2]
      exact ih (2 * k) n (by omega) ⟨a + 1, by rw [Nat.pow_succ, ha, Nat.mul_comm]⟩
    · rw [halfG_end h2]; exact ⟨a, ha⟩

theorem half_le {n d : Nat} (h2 : 2 ≤ n) (h : n ≤ 2 ^ (d + 1)) : halfN n ≤ 2 ^ d ∧ n - halfN n ≤ 2 ^ d := by
  obtain ⟨b, hb⟩ := half_two n 1 n (by omega) ⟨0, rfl⟩
  obtain ⟨g1, g2, g3⟩ := half_spec h2
  have hb' : halfN n = 2 ^ b := hb
  have : b ≤ d := by
    rcases Nat.lt_or_ge d b with h3 | h3
    · have := Nat.pow_le_pow_right (n := 2) (by omega) (show d + 1 ≤ b by omega)
      omega
    · exact h3
  have := Nat.pow_le_pow_right (n := 2) (by omega) this
  omega

theorem pathI_log : ∀ (d : Nat) (l : List Int) (i : Nat), l.length ≤ 2 ^ d → (pathI l i).length ≤ d := by
  intro d
  induction d with
  | zero => intro l i h; rw [pathI_one (by simpa using h)]; simp
  | succ d ih =>
    intro l i h
    rcases Nat.lt_or_ge l.length 2 with h2 | h2
    · rw [pathI_one (by omega)]; simp
    · obtain ⟨g1, g2⟩ := half_le h2 h
      by_cases hi : i < halfN l.length
      · rw [pathI_lo h2 hi]
        have := ih (l.take (halfN l.length)) i (by simp; omega)
        simp; omega
      · rw [pathI_hi h2 hi]
        have := ih (l.drop (halfN l.length)) (i - halfN l.length) (by simp; omega)
        simp; omega

theorem linkI_log : ∀ (d : Nat) (l : List Int) (m : Nat) (w : Bool), l.length ≤ 2 ^ d → (linkI l m w).length ≤ d + 1 := by
  intro d
  induction d with
  | zero =>
    intro l m w h
    by_cases he : m = l.length
    · rw [linkI_all he]; cases w <;> simp
    · have h1 : l.length ≤ 1 := by simpa using h
      rw [linkI, if_neg he, dif_neg (by omega)]; simp
  | succ d ih =>
    intro l m w h
    by_cases he : m = l.length
    · rw [linkI_all he]; cases w <;> simp
    · rcases Nat.lt_or_ge l.length 2 with h2 | h2
      · rw [linkI, if_neg he, dif_neg (by omega)]; simp
      · obtain ⟨g1, g2⟩ := half_le h2 h
        by_cases hi : m ≤ halfN l.length
        · rw [linkI_lo he h2 w hi]
          have := ih (l.take (halfN l.length)) m w (by simp; omega)
          simp; omega
        · rw [linkI_hi he h2 w hi]
          have := ih (l.drop (halfN l.length)) (m - halfN l.length) false (by simp; omega)
          simp; omega

theorem check_good {x : List Int} (hl : x.length ≤ 65536) {i : Nat} (hi : i < x.length) : checkI32 (rootI x) i x.length (x.getD i 0) (pathI x i) = 0 := by
  rw [check_eval (by omega) hl hi, climb_path 0 x.length x i (Nat.le_refl _) hi, if_pos ⟨rfl, rfl⟩]

theorem link_good {x : List Int} (hl : x.length ≤ 65536) {a : Nat} (ha : a ≤ x.length) : linkE (rootI (x.take a)) (rootI x) a x.length (link0I x a) = 0 := by
  unfold link0I
  by_cases h0 : a = 0
  · subst h0
    rw [if_pos rfl, List.take_zero, rootI_nil]
    unfold linkE
    rw [if_pos (by omega), if_pos (by omega), if_pos ⟨rfl, rfl⟩]
  · rw [if_neg h0, link_eval (by omega) ha hl, both_link false (rootI (x.take a)) x.length x a true (Nat.le_refl _) (by omega) ha (fun _ => rfl), if_pos ⟨rfl, rfl, rfl⟩]

end Go.Proofs
