/-
  Heads made from numbers, heads that are bent: contracts.
-/
import Derived.Test.YtnkealmacacipaaGa
namespace Go.Proofs
open Go.Pa
open Go.Pa renaming vc_seq → Q0, vc_block → Q1, vc_exit → Q2, vc_ret → Q3, vc_skip → Q4, vc_region → Q5, vc_draw → Q6, vc_loop → Q7, vc_range → Q8, vc_cond → Q9, condV_true → Qa, condV_false → Qb, condV_bool → Qc, seqK_normal → Qd, seqK_ret → Qe, seqK_exit → Qf, blkK_normal → Qg, blkK_ret → Qh, blkK_exit → Qi, loopK_ret → Qj, loopK_exit → Qk, loopK_normal → Ql, vcOps_nil → Qm, vcOps_cons → Qn, vcOps_guardM → Qo, guardM_some → Qp, guardV_und → Qq, guardV_same → Qr, guardV_tf → Qs, guardV_ft → Qt, guardV_bool → Qu, vcOp_out → Qv, outV_val → Qw, outV_need → Qx, outV_no → Qy, opK_run → Qz, opK_none → QA, vcS → QB, evA → QC, evBin → QD, nilA → QE, nilOf → QF, intOp → QG, strOp → QH, evUn → QI, evConv → QJ, evField → QK, evFieldAddr → QL, evIndexAddr → QM, evIndex → QN, bnd → QO, evSlice → QP, evLen → QQ, evPick → QR, evExtract → QS, evNilCheck → QT, evMin → QU, evMax → QV, evLoadI → QW, cO_int → QX, cO_bool → QY, cO_str → QZ, cO_nils → X0, cO_emp → X1, cO_ints → X2, cO_rows → X3, cO_mvec → X4, cO_ptr → X5, cO_eptr → X6, cO_iptr → X7, cO_nilp → X8, cO_fn → X9, cO_nilf → Xa, cO_mp → Xb, cO_nilm → Xc, cO_glob → Xd, cO_agg → Xe, partsOne → Xg, intsOf → Xh, rowsAV → Xi, evBuildSlice → Xj, evBuild → Xk, fillA → Xl, splice → Xm, evBuiltin → Xn, vcE_nil → Xo, vcE_cons → Xp, vcE_guardM → Xq, guardME_some → Xr, guardD_und → Xs, guardD_same → Xt, guardD_tf → Xu, guardD_ft → Xv, guardD_bool → Xw, dK_run → Xx, dK_none → Xy, dOp_call → Xz, callA_fn → XA, dOp → XB, outA_val → XC, outA_need → XD, cl → XE, vcLoad → XF, vcStore → XG, vcMake → XH, evO_tmp → XI, evO_int → XJ, evO_bool → XK, evO_nils → XL, evO_nilp → XM, evO_nilf → XN, evO_nilm → XO, evO_str → XP, evO_func → XQ, evO_glob → XR, convA → XS, evIndexArr → XT, lookA_cons → XU, get_cons → XV, sub_cons → XW, sub_nil → XX, retK_ret → XY, retK_normal → XZ, retA → Y0, ressA → Y1, resA → Y2, envOf → Y3, vcR_skip → Y7, vcR_seq → Y8, vcR_block → Y9, vcR_exit → Ya, vcR_ret → Yb, vcR_region → Yc, vcR_draw → Yd, vcR_cond → Ye, condR_true → Yf, condR_false → Yg, condR_bool → Yh, seqR_normal → Yi, seqR_ret → Yj, seqR_exit → Yk, asgEnv → Yl, parEnv → Ym, dstAt → Z5, sto_assoc → Z6, sto_len → Z7, sto_at → Z8, sto_at0 → Z9, sto_set → Za, sto_set0 → Zb
open Go.Pa.AV renaming cell → Xf
open Go.Pa.Env renaming put → Y4
open List renaming set_cons_zero → Y5, set_cons_succ → Y6, foldl_cons → Yn, foldl_nil → Yo, map_cons → Yp, map_nil → Yq, toList_toArray → Yr, getElem?_cons_zero → Ys, getElem?_cons_succ → Yt, nil_append → Yx, append_nil → Yy, cons_append → Yz, singleton_append → YA, length_cons → YB, length_nil → YC, all_cons → YD, all_nil → YE, take_succ_cons → YF, take_zero → YG, take_nil → YH, drop_zero → YI, drop_succ_cons → YJ, drop_nil → YK, contains_nil → YL, contains_cons → YM
open Option renaming bind_some → Yu, map_some → Yv, map_none → Yw
open Bool renaming or_false → YN, false_or → YO, or_true → YP, true_or → YQ, false_eq_true → YZ, not_true → Z0, not_false → Z1, and_true → Z2, true_and → Z3, and_self → Z4
open Nat renaming reduceEqDiff → YR, reduceAdd → YS, reduceSub → YT, reduceMul → YU, reduceLT → YV, reduceLeDiff → YW, reduceBNe → YX, reduceBEq → YY, zero_add → Ze, add_zero → Zf
open UInt8 renaming reduceToNat → Zc
open Int renaming cast_ofNat_Int → Zd, reduceToNat → Zg, reduceLT → Zh, reduceLE → Zi, reduceNeg → Zj, reduceEq → Zk, reduceNe → Zl
set_option linter.unusedSimpArgs false
set_option maxRecDepth 20000
set_option maxHeartbeats 4000000

theorem wdiv {k c : Int} (hk : 0 ≤ k ∧ k < 1048576) (hc : 0 < c) : IntKind.i64.wrap (k.tdiv c) = k / c ∧ 0 ≤ k / c := by
  have h1 : 0 ≤ k / c := Int.ediv_nonneg hk.1 (by omega)
  have h2 : k / c ≤ k := Int.ediv_le_self c hk.1
  rw [Int.tdiv_eq_ediv_of_nonneg hk.1]
  exact ⟨wrap_i64 (by omega) (by omega), h1⟩

/-- A head made from a number. -/
def someK (k : Int) : Hd := ⟨k % 3 / 2, k / 3 % 5 * 10, 36000 + k / 15 % 3, k / 45 % 6, k / 270 % 3, k / 810 % 3, min (k / 45 % 6) (k / 2430 % 3), 0⟩
def someI (n : Int) : Hd := someK (aroundI n 1048576)

theorem ref_some (n : Int) (hn : Okk .i64 n) (σ : Store) : ACalls Try.prog 9 [.int .i64 n] σ (fun r σ' => r = (someI n).av ∧ σ' = σ) := by
  refine ACalls.pure0 ?_ rfl rfl σ
  have hk := aroundI_bound hn (m := 1048576) (by omega)
  unfold someI
  obtain ⟨k, hke⟩ : ∃ k, k = aroundI n 1048576 := ⟨_, rfl⟩
  rw [← hke] at hk ⊢
  have w := fun (x : Int) (h : 0 ≤ x ∧ x ≤ 10000000) => wrap_i64 (n := x) (by omega) (by omega)
  have wu := fun (x : Int) (h : 0 ≤ x ∧ x ≤ 10000000) => wrap_u64 (n := x) (by omega) (by omega)
  have t := fun (x c : Int) (h : 0 ≤ x) => Int.tmod_eq_emod_of_nonneg (b := c) h
  have d3 := wdiv hk (c := 3) (by omega)
  have d15 := wdiv hk (c := 15) (by omega)
  have d45 := wdiv hk (c := 45) (by omega)
  have d270 := wdiv hk (c := 270) (by omega)
  have d810 := wdiv hk (c := 810) (by omega)
  have d2430 := wdiv hk (c := 2430) (by omega)
  have e0 : (k.tmod 3).tdiv 2 = k % 3 / 2 := by rw [t k 3 hk.1, Int.tdiv_eq_ediv_of_nonneg (by omega)]
  refine acalls_of_vc (fn := Try.f9) Try.call9 Try.func9 rfl (by kernel_rfl) (by simp [Try.ntmps9]) ?_; simp -implicitDefEqProofs only [Hd.av,Hd.cs,someK,Try.ntmps9,Try.results9,Q0,Q1,Q2,Q3,Q4,Q5,Q6,Q7,Q8,Q9,Qa,Qb,Qc,Qd,Qe,Qf,Qg,Qh,Qi,Qj,Qk,Ql,Qm,Qn,Qo,Qp,Qq,Qr,Qs,Qt,Qu,Qv,Qw,Qx,Qy,Qz,QA,QB,QC,QD,QE,QF,QG,QH,QI,QJ,QK,QL,QM,QN,QO,QP,QQ,QR,QS,QT,QU,QV,QW,QX,QY,QZ,X0,X1,X2,X3,X4,X5,X6,X7,X8,X9,Xa,Xb,Xc,Xd,Xe,Xf,Xg,Xh,Xi,Xj,Xk,Xl,Xm,Xn,Xo,Xp,Xq,Xr,Xs,Xt,Xu,Xv,Xw,Xx,Xy,Xz,XA,XB,XC,XD,XE,XF,XG,XH,XI,XJ,XK,XL,XM,XN,XO,XP,XQ,XR,XS,XT,XU,XV,XW,XX,XY,XZ,Y0,Y1,Y2,Y3,Y4,Y5,Y6,Y7,Y8,Y9,Ya,Yb,Yc,Yd,Ye,Yf,Yg,Yh,Yi,Yj,Yk,Yl,Ym,Yn,Yo,Yp,Yq,Yr,Ys,Yt,Yu,Yv,Yw,Yx,Yy,Yz,YA,YB,YC,YD,YE,YF,YG,YH,YI,YJ,YK,YL,YM,YN,YO,YP,YQ,YR,YS,YT,YU,YV,YW,YX,YY,reduceIte,reduceCtorEq,ite_true,ite_false,if_true,if_false,YZ,Z0,Z1,Z2,Z3,Z4,and_true,true_and,and_self,true_imp_iff,false_imp_iff,eq_self,not_true_eq_false,not_false_eq_true,ne_eq,decide_true,decide_false,Z5,Z6,Z7,Z8,Z9,Za,Zb,Zc,Zd,Ze,Zf,Zg,Zh,Zi,Zj,Zk,Zl,Try.underlying3,Try.cs3,Try.bt3,Try.pa3,Try.zr3,Try.underlying22,Try.cs22,Try.bt22,Try.pa22,Try.zr22,Try.underlying24,Try.cs24,Try.bt24,Try.pa24,Try.ty24,Try.zr24,Try.pl24,Try.eq24,Try.fd24_0,Try.fd24_1,Try.fd24_2,Try.fd24_3,Try.fd24_4,Try.fd24_5,Try.fd24_6,Try.fd24_7]
  refine acalls_then (around n 1048576 _ (by omega)) ?_
  rw [← hke]
  simp -implicitDefEqProofs only [Hd.av,Hd.cs,someK,Q0,Q1,Q2,Q3,Q4,Q5,Q6,Q7,Q8,Q9,Qa,Qb,Qc,Qd,Qe,Qf,Qg,Qh,Qi,Qj,Qk,Ql,Qm,Qn,Qo,Qp,Qq,Qr,Qs,Qt,Qu,Qv,Qw,Qx,Qy,Qz,QA,QB,QC,QD,QE,QF,QG,QH,QI,QJ,QK,QL,QM,QN,QO,QP,QQ,QR,QS,QT,QU,QV,QW,QX,QY,QZ,X0,X1,X2,X3,X4,X5,X6,X7,X8,X9,Xa,Xb,Xc,Xd,Xe,Xf,Xg,Xh,Xi,Xj,Xk,Xl,Xm,Xn,Xo,Xp,Xq,Xr,Xs,Xt,Xu,Xv,Xw,Xx,Xy,Xz,XA,XB,XC,XD,XE,XF,XG,XH,XI,XJ,XK,XL,XM,XN,XO,XP,XQ,XR,XS,XT,XU,XV,XW,XX,XY,XZ,Y0,Y1,Y2,Y3,Y4,Y5,Y6,Y7,Y8,Y9,Ya,Yb,Yc,Yd,Ye,Yf,Yg,Yh,Yi,Yj,Yk,Yl,Ym,Yn,Yo,Yp,Yq,Yr,Ys,Yt,Yu,Yv,Yw,Yx,Yy,Yz,YA,YB,YC,YD,YE,YF,YG,YH,YI,YJ,YK,YL,YM,YN,YO,YP,YQ,YR,YS,YT,YU,YV,YW,YX,YY,reduceIte,reduceCtorEq,ite_true,ite_false,if_true,if_false,YZ,Z0,Z1,Z2,Z3,Z4,and_true,true_and,and_self,true_imp_iff,false_imp_iff,eq_self,not_true_eq_false,not_false_eq_true,ne_eq,decide_true,decide_false,Z5,Z6,Z7,Z8,Z9,Za,Zb,Zc,Zd,Ze,Zf,Zg,Zh,Zi,Zj,Zk,Zl,Try.underlying3,Try.cs3,Try.bt3,Try.pa3,Try.zr3,Try.underlying22,Try.cs22,Try.bt22,Try.pa22,Try.zr22,Try.underlying24,Try.cs24,Try.bt24,Try.pa24,Try.ty24,Try.zr24,Try.pl24,Try.eq24,Try.fd24_0,Try.fd24_1,Try.fd24_2,Try.fd24_3,Try.fd24_4,Try.fd24_5,Try.fd24_6,Try.fd24_7]
  rw [e0, d3.1, d15.1, d45.1, d270.1, d810.1, d2430.1, t _ 5 d3.2, t _ 3 d15.2, t _ 6 d45.2, t _ 3 d270.2, t _ 3 d810.2, t _ 3 d2430.2, w (k % 3 / 2) (by omega), w (k / 3 % 5 * 10) (by omega), w (36000 + k / 15 % 3) (by omega), wu (k / 270 % 3) (by omega), wu (k / 810 % 3) (by omega)]

/-- A head with one field changed. -/
def bentK (h : Hd) (k x : Int) : Hd :=
  if k = 0 then { h with o := x } else if k = 1 then { h with t := x } else if k = 2 then { h with d := x } else if k = 3 then { h with s := x } else
  if k = 4 then { h with l := IntKind.u64.wrap x } else if k = 5 then { h with m := IntKind.u64.wrap x } else if k = 6 then { h with e := x } else { h with g := IntKind.u64.wrap x }
def bentI (h : Hd) (how x : Int) : Hd := bentK h (aroundI how 8) x

theorem ref_bent (h : Hd) (how x : Int) (hh : Okk .i64 how) (σ : Store) : ACalls Try.prog 10 [h.av, .int .i64 how, .int .i64 x] σ (fun r σ' => r = (bentI h how x).av ∧ σ' = σ) := by
  refine ACalls.pure0 ?_ rfl rfl σ
  have hk := aroundI_bound hh (m := 8) (by omega)
  unfold bentI
  obtain ⟨k, hke⟩ : ∃ k, k = aroundI how 8 := ⟨_, rfl⟩
  rw [← hke] at hk ⊢
  refine acalls_of_vc (fn := Try.f10) Try.call10 Try.func10 rfl (by kernel_rfl) (by simp [Try.ntmps10]) ?_; simp -implicitDefEqProofs only [Hd.av,Hd.cs,bentK,Try.ntmps10,Try.results10,Q0,Q1,Q2,Q3,Q4,Q5,Q6,Q7,Q8,Q9,Qa,Qb,Qc,Qd,Qe,Qf,Qg,Qh,Qi,Qj,Qk,Ql,Qm,Qn,Qo,Qp,Qq,Qr,Qs,Qt,Qu,Qv,Qw,Qx,Qy,Qz,QA,QB,QC,QD,QE,QF,QG,QH,QI,QJ,QK,QL,QM,QN,QO,QP,QQ,QR,QS,QT,QU,QV,QW,QX,QY,QZ,X0,X1,X2,X3,X4,X5,X6,X7,X8,X9,Xa,Xb,Xc,Xd,Xe,Xf,Xg,Xh,Xi,Xj,Xk,Xl,Xm,Xn,Xo,Xp,Xq,Xr,Xs,Xt,Xu,Xv,Xw,Xx,Xy,Xz,XA,XB,XC,XD,XE,XF,XG,XH,XI,XJ,XK,XL,XM,XN,XO,XP,XQ,XR,XS,XT,XU,XV,XW,XX,XY,XZ,Y0,Y1,Y2,Y3,Y4,Y5,Y6,Y7,Y8,Y9,Ya,Yb,Yc,Yd,Ye,Yf,Yg,Yh,Yi,Yj,Yk,Yl,Ym,Yn,Yo,Yp,Yq,Yr,Ys,Yt,Yu,Yv,Yw,Yx,Yy,Yz,YA,YB,YC,YD,YE,YF,YG,YH,YI,YJ,YK,YL,YM,YN,YO,YP,YQ,YR,YS,YT,YU,YV,YW,YX,YY,reduceIte,reduceCtorEq,ite_true,ite_false,if_true,if_false,YZ,Z0,Z1,Z2,Z3,Z4,and_true,true_and,and_self,true_imp_iff,false_imp_iff,eq_self,not_true_eq_false,not_false_eq_true,ne_eq,decide_true,decide_false,Z5,Z6,Z7,Z8,Z9,Za,Zb,Zc,Zd,Ze,Zf,Zg,Zh,Zi,Zj,Zk,Zl,Try.underlying3,Try.cs3,Try.bt3,Try.pa3,Try.zr3,Try.underlying4,Try.cs4,Try.bt4,Try.pa4,Try.ty4,Try.zr4,Try.underlying22,Try.cs22,Try.bt22,Try.pa22,Try.zr22,Try.underlying24,Try.cs24,Try.bt24,Try.pa24,Try.ty24,Try.zr24,Try.pl24,Try.eq24,Try.fd24_0,Try.fd24_1,Try.fd24_2,Try.fd24_3,Try.fd24_4,Try.fd24_5,Try.fd24_6,Try.fd24_7]
  refine acalls_then (around how 8 _ (by omega)) ?_
  rw [← hke]
  have hc : k = 0 ∨ k = 1 ∨ k = 2 ∨ k = 3 ∨ k = 4 ∨ k = 5 ∨ k = 6 ∨ k = 7 := by omega
  clear hke hk
  rcases hc with rfl | rfl | rfl | rfl | rfl | rfl | rfl | rfl
  all_goals simp -implicitDefEqProofs only [Hd.av,Hd.cs,bentK,Q0,Q1,Q2,Q3,Q4,Q5,Q6,Q7,Q8,Q9,Qa,Qb,Qc,Qd,Qe,Qf,Qg,Qh,Qi,Qj,Qk,Ql,Qm,Qn,Qo,Qp,Qq,Qr,Qs,Qt,Qu,Qv,Qw,Qx,Qy,Qz,QA,QB,QC,QD,QE,QF,QG,QH,QI,QJ,QK,QL,QM,QN,QO,QP,QQ,QR,QS,QT,QU,QV,QW,QX,QY,QZ,X0,X1,X2,X3,X4,X5,X6,X7,X8,X9,Xa,Xb,Xc,Xd,Xe,Xf,Xg,Xh,Xi,Xj,Xk,Xl,Xm,Xn,Xo,Xp,Xq,Xr,Xs,Xt,Xu,Xv,Xw,Xx,Xy,Xz,XA,XB,XC,XD,XE,XF,XG,XH,XI,XJ,XK,XL,XM,XN,XO,XP,XQ,XR,XS,XT,XU,XV,XW,XX,XY,XZ,Y0,Y1,Y2,Y3,Y4,Y5,Y6,Y7,Y8,Y9,Ya,Yb,Yc,Yd,Ye,Yf,Yg,Yh,Yi,Yj,Yk,Yl,Ym,Yn,Yo,Yp,Yq,Yr,Ys,Yt,Yu,Yv,Yw,Yx,Yy,Yz,YA,YB,YC,YD,YE,YF,YG,YH,YI,YJ,YK,YL,YM,YN,YO,YP,YQ,YR,YS,YT,YU,YV,YW,YX,YY,reduceIte,reduceCtorEq,ite_true,ite_false,if_true,if_false,YZ,Z0,Z1,Z2,Z3,Z4,and_true,true_and,and_self,true_imp_iff,false_imp_iff,eq_self,not_true_eq_false,not_false_eq_true,ne_eq,decide_true,decide_false,Z5,Z6,Z7,Z8,Z9,Za,Zb,Zc,Zd,Ze,Zf,Zg,Zh,Zi,Zj,Zk,Zl,Try.underlying3,Try.cs3,Try.bt3,Try.pa3,Try.zr3,Try.underlying4,Try.cs4,Try.bt4,Try.pa4,Try.ty4,Try.zr4,Try.underlying22,Try.cs22,Try.bt22,Try.pa22,Try.zr22,Try.underlying24,Try.cs24,Try.bt24,Try.pa24,Try.ty24,Try.zr24,Try.pl24,Try.eq24,Try.fd24_0,Try.fd24_1,Try.fd24_2,Try.fd24_3,Try.fd24_4,Try.fd24_5,Try.fd24_6,Try.fd24_7]

end Go.Proofs
