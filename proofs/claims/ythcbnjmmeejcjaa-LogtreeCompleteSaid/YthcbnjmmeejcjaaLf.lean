/-
  The log of hashes: the program's paths; contracts.
-/
import Derived.Test.YthcbnjmmeejcjaaLe
namespace Go.Proofs
open Go.Pa
open Go.Pa renaming vc_seq → Q0, vc_block → Q1, vc_exit → Q2, vc_ret → Q3, vc_skip → Q4, vc_region → Q5, vc_draw → Q6, vc_loop → Q7, vc_range → Q8, vc_cond → Q9, condV_true → Qa, condV_false → Qb, condV_bool → Qc, seqK_normal → Qd, seqK_ret → Qe, seqK_exit → Qf, blkK_normal → Qg, blkK_ret → Qh, blkK_exit → Qi, loopK_ret → Qj, loopK_exit → Qk, loopK_normal → Ql, vcOps_nil → Qm, vcOps_cons → Qn, vcOps_guardM → Qo, guardM_some → Qp, guardV_und → Qq, guardV_same → Qr, guardV_tf → Qs, guardV_ft → Qt, guardV_bool → Qu, vcOp_out → Qv, outV_val → Qw, outV_need → Qx, outV_no → Qy, opK_run → Qz, opK_none → QA, vcS → QB, evA → QC, evBin → QD, nilA → QE, nilOf → QF, intOp → QG, strOp → QH, evUn → QI, evConv → QJ, evField → QK, evFieldAddr → QL, evIndexAddr → QM, evIndex → QN, bnd → QO, evSlice → QP, evLen → QQ, evPick → QR, evExtract → QS, evNilCheck → QT, evMin → QU, evMax → QV, evLoadI → QW, cO_int → QX, cO_bool → QY, cO_str → QZ, cO_nils → X0, cO_emp → X1, cO_ints → X2, cO_rows → X3, cO_mvec → X4, cO_ptr → X5, cO_eptr → X6, cO_iptr → X7, cO_nilp → X8, cO_fn → X9, cO_nilf → Xa, cO_mp → Xb, cO_nilm → Xc, cO_glob → Xd, cO_agg → Xe, partsOne → Xg, intsOf → Xh, rowsAV → Xi, evBuildSlice → Xj, evBuild → Xk, fillA → Xl, splice → Xm, evBuiltin → Xn, vcE_nil → Xo, vcE_cons → Xp, vcE_guardM → Xq, guardME_some → Xr, guardD_und → Xs, guardD_same → Xt, guardD_tf → Xu, guardD_ft → Xv, guardD_bool → Xw, dK_run → Xx, dK_none → Xy, dOp_call → Xz, callA_fn → XA, dOp → XB, outA_val → XC, outA_need → XD, cl → XE, vcLoad → XF, vcStore → XG, vcMake → XH, evO_tmp → XI, evO_int → XJ, evO_bool → XK, evO_nils → XL, evO_nilp → XM, evO_nilf → XN, evO_nilm → XO, evO_str → XP, evO_func → XQ, evO_glob → XR, convA → XS, evIndexArr → XT, lookA_cons → XU, get_cons → XV, sub_cons → XW, sub_nil → XX, retK_ret → XY, retK_normal → XZ, retA → Y0, ressA → Y1, resA → Y2, envOf → Y3, vcR_skip → Y7, vcR_seq → Y8, vcR_block → Y9, vcR_exit → Ya, vcR_ret → Yb, vcR_region → Yc, vcR_draw → Yd, vcR_cond → Ye, condR_true → Yf, condR_false → Yg, condR_bool → Yh, seqR_normal → Yi, seqR_ret → Yj, seqR_exit → Yk, asgEnv → Yl, parEnv → Ym, dstAt → Z5, sto_assoc → Z6, sto_len → Z7, sto_at → Z8, sto_at0 → Z9, sto_set → Za, sto_set0 → Zb, vcLook → Zm, vcPut → Zn, vcEnt → Zo, vcESt → Zp, vcMLen → Zq, vcDel → Zr, vcClear → Zs, vcLookD → Zt, ansL_t → Zu, ansL_f → Zv
open Go.Pa.AV renaming cell → Xf
open Go.Pa.Env renaming put → Y4
open List renaming set_cons_zero → Y5, set_cons_succ → Y6, foldl_cons → Yn, foldl_nil → Yo, map_cons → Yp, map_nil → Yq, toList_toArray → Yr, getElem?_cons_zero → Ys, getElem?_cons_succ → Yt, nil_append → Yx, append_nil → Yy, cons_append → Yz, singleton_append → YA, length_cons → YB, length_nil → YC, all_cons → YD, all_nil → YE, take_succ_cons → YF, take_zero → YG, take_nil → YH, drop_zero → YI, drop_succ_cons → YJ, drop_nil → YK, contains_nil → YL, contains_cons → YM
open Option renaming bind_some → Yu, map_some → Yv, map_none → Yw
open Bool renaming or_false → YN, false_or → YO, or_true → YP, true_or → YQ, false_eq_true → YZ, not_true → Z0, not_false → Z1, and_true → Z2, true_and → Z3, and_self → Z4
open Nat renaming reduceEqDiff → YR, reduceAdd → YS, reduceSub → YT, reduceMul → YU, reduceLT → YV, reduceLeDiff → YW, reduceBNe → YX, reduceBEq → YY, zero_add → Ze, add_zero → Zf
open UInt8 renaming reduceToNat → Zc
open Int renaming cast_ofNat_Int → Zd, reduceToNat → Zg, reduceLT → Zh, reduceLE → Zi, reduceNeg → Zj, reduceEq → Zk, reduceNe → Zl
set_option linter.unusedSimpArgs false
set_option linter.unusedVariables false
set_option maxRecDepth 20000
set_option maxHeartbeats 2000000

/-- A list, turned from both ends, so far. -/
def revI (l : List Int) (i : Nat) : List Int := (List.range l.length).map fun p => if p < i ∨ l.length - i ≤ p then l.getD (l.length - 1 - p) 0 else l.getD p 0

theorem revI_len (l : List Int) (i : Nat) : (revI l i).length = l.length := by simp [revI]
theorem revI_get (l : List Int) (i p : Nat) (hp : p < l.length) : (revI l i).getD p 0 = if p < i ∨ l.length - i ≤ p then l.getD (l.length - 1 - p) 0 else l.getD p 0 := by
  rw [getD_get (by rw [revI_len]; exact hp)]
  simp [revI]
theorem revI_zero (l : List Int) : revI l 0 = l := by
  apply List.ext_getElem (revI_len l 0)
  intro p h1 h2
  simp only [revI, List.getElem_map, List.getElem_range]
  rw [if_neg (by omega), getD_get h2]
theorem revI_end (l : List Int) (i : Nat) (h : l.length ≤ 2 * i + 1) : revI l i = l.reverse := by
  apply List.ext_getElem (by rw [revI_len]; simp)
  intro p h1 h2
  rw [revI_len] at h1
  simp only [revI, List.getElem_map, List.getElem_range, List.getElem_reverse]
  split
  · rw [getD_get (by omega)]
  · rw [getD_get h1]
    congr 1; omega
theorem revI_step (l : List Int) (i : Nat) (h : 2 * i + 1 < l.length) : ((revI l i).set i ((revI l i).getD (l.length - 1 - i) 0)).set (l.length - 1 - i) ((revI l i).getD i 0) = revI l (i + 1) := by
  rw [revI_get l i i (by omega), revI_get l i (l.length - 1 - i) (by omega), if_neg (by omega), if_neg (by omega)]
  apply List.ext_getElem (by simp [revI_len])
  intro p h1 h2
  rw [revI_len] at h2
  simp only [List.getElem_set]
  split
  · rename_i hp; subst hp
    simp only [revI, List.getElem_map, List.getElem_range]
    rw [if_pos (by omega)]
    congr 1; omega
  · split
    · rename_i hp; subst hp
      simp only [revI, List.getElem_map, List.getElem_range]
      rw [if_pos (by omega)]
    · simp only [revI, List.getElem_map, List.getElem_range]
      by_cases hc : p < i ∨ l.length - i ≤ p
      · rw [if_pos hc, if_pos (by omega)]
      · rw [if_neg hc, if_neg (by omega)]

/-- slices.Reverse of an own slice. -/
theorem c_reverse (l : List Int) (hl : l.length ≤ 1000000) (s : Store) (v : Nat) (hv : s[v]? = some (.vecI .u64 l)) : ACalls Try.prog 32 [.mvec v 0 l.length 1] s (fun r s' => s' = s.set v (.vecI .u64 l.reverse)) := by
  have hvd := (List.getElem?_eq_some_iff.1 hv).1
  refine acalls_of_vc (fn := Try.f32) Try.call32 Try.func32 rfl (by kernel_rfl) (by simp [Try.ntmps32]) ?_; simp -implicitDefEqProofs only [Try.ntmps32,Try.results32,Q0,Q1,Q2,Q3,Q4,Q5,Q6,Q7,Q8,Q9,Qa,Qb,Qc,Qd,Qe,Qf,Qg,Qh,Qi,Qj,Qk,Ql,Qm,Qn,Qo,Qp,Qq,Qr,Qs,Qt,Qu,Qv,Qw,Qx,Qy,Qz,QA,QB,QC,QD,QE,QF,QG,QH,QI,QJ,QK,QL,QM,QN,QO,QP,QQ,QR,QS,QT,QU,QV,QW,QX,QY,QZ,X0,X1,X2,X3,X4,X5,X6,X7,X8,X9,Xa,Xb,Xc,Xd,Xe,Xf,Xg,Xh,Xi,Xj,Xk,Xl,Xm,Xn,Xo,Xp,Xq,Xr,Xs,Xt,Xu,Xv,Xw,Xx,Xy,Xz,XA,XB,XC,XD,XE,XF,XG,XH,XI,XJ,XK,XL,XM,XN,XO,XP,XQ,XR,XS,XT,XU,XV,XW,XX,XY,XZ,Y0,Y1,Y2,Y3,Y4,Y5,Y6,Y7,Y8,Y9,Ya,Yb,Yc,Yd,Ye,Yf,Yg,Yh,Yi,Yj,Yk,Yl,Ym,Yn,Yo,Yp,Yq,Yr,Ys,Yt,Yu,Yv,Yw,Yx,Yy,Yz,YA,YB,YC,YD,YE,YF,YG,YH,YI,YJ,YK,YL,YM,YN,YO,YP,YQ,YR,YS,YT,YU,YV,YW,YX,YY,reduceIte,reduceCtorEq,ite_true,ite_false,if_true,if_false,YZ,Z0,Z1,Z2,Z3,Z4,and_true,true_and,and_self,true_imp_iff,false_imp_iff,eq_self,not_true_eq_false,not_false_eq_true,ne_eq,decide_true,decide_false,Z5,Z6,Z7,Z8,Z9,Za,Zb,Zc,Zd,Ze,Zf,Zg,Zh,Zi,Zj,Zk,Zl,Zm,Zn,Zo,Zp,Zq,Zr,Zs,Zt,Zu,Zv,Try.underlying3,Try.cs3,Try.bt3,Try.pa3,Try.zr3,Try.underlying4,Try.cs4,Try.bt4,Try.pa4,Try.ty4,Try.zr4,Try.underlying23,Try.cs23,Try.bt23,Try.pa23,Try.ty23,Try.sl23,Try.zr23,Try.underlying36,Try.cs36,Try.bt36,Try.pa36,Try.zr36]
  rcases Nat.eq_zero_or_pos l.length with h0 | h0
  · have : l = [] := List.length_eq_zero_iff.1 h0
    subst this
    refine awp_loop (fun i : Nat => [(2, .int .i64 0), (3, .int .i64 (-1)), (0, .mvec v 0 0 1)]) (fun i s' => s' = s) (fun i => 0) 0 (by kernel_rfl) (by simp [sub_cons, sub_nil, get_cons]; rfl) rfl ?_
    rintro i s' rfl
    simp -implicitDefEqProofs only [Q0,Q1,Q2,Q3,Q4,Q5,Q6,Q7,Q8,Q9,Qa,Qb,Qc,Qd,Qe,Qf,Qg,Qh,Qi,Qj,Qk,Ql,Qm,Qn,Qo,Qp,Qq,Qr,Qs,Qt,Qu,Qv,Qw,Qx,Qy,Qz,QA,QB,QC,QD,QE,QF,QG,QH,QI,QJ,QK,QL,QM,QN,QO,QP,QQ,QR,QS,QT,QU,QV,QW,QX,QY,QZ,X0,X1,X2,X3,X4,X5,X6,X7,X8,X9,Xa,Xb,Xc,Xd,Xe,Xf,Xg,Xh,Xi,Xj,Xk,Xl,Xm,Xn,Xo,Xp,Xq,Xr,Xs,Xt,Xu,Xv,Xw,Xx,Xy,Xz,XA,XB,XC,XD,XE,XF,XG,XH,XI,XJ,XK,XL,XM,XN,XO,XP,XQ,XR,XS,XT,XU,XV,XW,XX,XY,XZ,Y0,Y1,Y2,Y3,Y4,Y5,Y6,Y7,Y8,Y9,Ya,Yb,Yc,Yd,Ye,Yf,Yg,Yh,Yi,Yj,Yk,Yl,Ym,Yn,Yo,Yp,Yq,Yr,Ys,Yt,Yu,Yv,Yw,Yx,Yy,Yz,YA,YB,YC,YD,YE,YF,YG,YH,YI,YJ,YK,YL,YM,YN,YO,YP,YQ,YR,YS,YT,YU,YV,YW,YX,YY,reduceIte,reduceCtorEq,ite_true,ite_false,if_true,if_false,YZ,Z0,Z1,Z2,Z3,Z4,and_true,true_and,and_self,true_imp_iff,false_imp_iff,eq_self,not_true_eq_false,not_false_eq_true,ne_eq,decide_true,decide_false,Z5,Z6,Z7,Z8,Z9,Za,Zb,Zc,Zd,Ze,Zf,Zg,Zh,Zi,Zj,Zk,Zl,Zm,Zn,Zo,Zp,Zq,Zr,Zs,Zt,Zu,Zv,Try.underlying3,Try.cs3,Try.bt3,Try.pa3,Try.zr3,Try.underlying4,Try.cs4,Try.bt4,Try.pa4,Try.ty4,Try.zr4,Try.underlying23,Try.cs23,Try.bt23,Try.pa23,Try.ty23,Try.sl23,Try.zr23,Try.underlying36,Try.cs36,Try.bt36,Try.pa36,Try.zr36]
    exact (set_same hv).symm
  have w0 : IntKind.i64.wrap ((l.length : Int) - 1) = ((l.length - 1 - 0 : Nat) : Int) := by rw [wrap_i64 (by omega) (by omega)]; omega
  refine awp_loop (fun i : Nat => [(2, .int .i64 i), (3, .int .i64 ((l.length : Int) - 1 - i)), (0, .mvec v 0 l.length 1)]) (fun i s' => 2 * i ≤ l.length ∧ s' = s.set v (.vecI .u64 (revI l i))) (fun i => l.length - i) 0 (by kernel_rfl)
    (by simp only [sub_cons, sub_nil, get_cons]; rw [w0]; simp; omega) ⟨by omega, by rw [revI_zero]; exact (set_same hv).symm⟩ ?_
  rintro i s' ⟨hi, rfl⟩
  have hg : (s.set v (.vecI .u64 (revI l i)))[v]? = some (.vecI .u64 (revI l i)) := List.getElem?_set_self hvd
  by_cases hlt : 2 * i + 1 < l.length
  · have d1 : decide ((i : Int) < (l.length : Int) - 1 - (i : Int)) = true := decide_eq_true (by omega)
    have wi : IntKind.i64.wrap ((i : Int) + 1) = ((i + 1 : Nat) : Int) := by rw [wrap_i64 (by omega) (by omega)]; rfl
    have wj : IntKind.i64.wrap ((l.length : Int) - 1 - (i : Int) - 1) = (l.length : Int) - 1 - ((i + 1 : Nat) : Int) := by rw [wrap_i64 (by omega) (by omega)]; omega
    have hj : ((l.length : Int) - 1 - (i : Int)).toNat = l.length - 1 - i := by omega
    have hrl := revI_len l i
    have hst := revI_step l i hlt
    have b1 : 0 ≤ (i : Int) ∧ (i : Int) < (l.length : Int) := by omega
    have b2 : 0 ≤ (l.length : Int) - 1 - (i : Int) ∧ (l.length : Int) - 1 - (i : Int) < (l.length : Int) := by omega
    generalize revI l i = L at hg hst hrl
    have g2 : ∀ x, ((s.set v (.vecI .u64 L)).set v (.vecI .u64 x))[v]? = some (.vecI .u64 x) := fun x => List.getElem?_set_self (by simp; exact hvd)
    simp -implicitDefEqProofs only [d1,Q0,Q1,Q2,Q3,Q4,Q5,Q6,Q7,Q8,Q9,Qa,Qb,Qc,Qd,Qe,Qf,Qg,Qh,Qi,Qj,Qk,Ql,Qm,Qn,Qo,Qp,Qq,Qr,Qs,Qt,Qu,Qv,Qw,Qx,Qy,Qz,QA,QB,QC,QD,QE,QF,QG,QH,QI,QJ,QK,QL,QM,QN,QO,QP,QQ,QR,QS,QT,QU,QV,QW,QX,QY,QZ,X0,X1,X2,X3,X4,X5,X6,X7,X8,X9,Xa,Xb,Xc,Xd,Xe,Xf,Xg,Xh,Xi,Xj,Xk,Xl,Xm,Xn,Xo,Xp,Xq,Xr,Xs,Xt,Xu,Xv,Xw,Xx,Xy,Xz,XA,XB,XC,XD,XE,XF,XG,XH,XI,XJ,XK,XL,XM,XN,XO,XP,XQ,XR,XS,XT,XU,XV,XW,XX,XY,XZ,Y0,Y1,Y2,Y3,Y4,Y5,Y6,Y7,Y8,Y9,Ya,Yb,Yc,Yd,Ye,Yf,Yg,Yh,Yi,Yj,Yk,Yl,Ym,Yn,Yo,Yp,Yq,Yr,Ys,Yt,Yu,Yv,Yw,Yx,Yy,Yz,YA,YB,YC,YD,YE,YF,YG,YH,YI,YJ,YK,YL,YM,YN,YO,YP,YQ,YR,YS,YT,YU,YV,YW,YX,YY,reduceIte,reduceCtorEq,ite_true,ite_false,if_true,if_false,YZ,Z0,Z1,Z2,Z3,Z4,and_true,true_and,and_self,true_imp_iff,false_imp_iff,eq_self,not_true_eq_false,not_false_eq_true,ne_eq,decide_true,decide_false,Z5,Z6,Z7,Z8,Z9,Za,Zb,Zc,Zd,Ze,Zf,Zg,Zh,Zi,Zj,Zk,Zl,Zm,Zn,Zo,Zp,Zq,Zr,Zs,Zt,Zu,Zv,Try.underlying3,Try.cs3,Try.bt3,Try.pa3,Try.zr3,Try.underlying4,Try.cs4,Try.bt4,Try.pa4,Try.ty4,Try.zr4,Try.underlying23,Try.cs23,Try.bt23,Try.pa23,Try.ty23,Try.sl23,Try.zr23,Try.underlying36,Try.cs36,Try.bt36,Try.pa36,Try.zr36]
    refine awp_draws [13, 15] Try.mixed (by kernel_rfl) ?_
    simp -implicitDefEqProofs only [hg,hj,Int.toNat_natCast,Q0,Q1,Q2,Q3,Q4,Q5,Q6,Q7,Q8,Q9,Qa,Qb,Qc,Qd,Qe,Qf,Qg,Qh,Qi,Qj,Qk,Ql,Qm,Qn,Qo,Qp,Qq,Qr,Qs,Qt,Qu,Qv,Qw,Qx,Qy,Qz,QA,QB,QC,QD,QE,QF,QG,QH,QI,QJ,QK,QL,QM,QN,QO,QP,QQ,QR,QS,QT,QU,QV,QW,QX,QY,QZ,X0,X1,X2,X3,X4,X5,X6,X7,X8,X9,Xa,Xb,Xc,Xd,Xe,Xf,Xg,Xh,Xi,Xj,Xk,Xl,Xm,Xn,Xo,Xp,Xq,Xr,Xs,Xt,Xu,Xv,Xw,Xx,Xy,Xz,XA,XB,XC,XD,XE,XF,XG,XH,XI,XJ,XK,XL,XM,XN,XO,XP,XQ,XR,XS,XT,XU,XV,XW,XX,XY,XZ,Y0,Y1,Y2,Y3,Y4,Y5,Y6,Y7,Y8,Y9,Ya,Yb,Yc,Yd,Ye,Yf,Yg,Yh,Yi,Yj,Yk,Yl,Ym,Yn,Yo,Yp,Yq,Yr,Ys,Yt,Yu,Yv,Yw,Yx,Yy,Yz,YA,YB,YC,YD,YE,YF,YG,YH,YI,YJ,YK,YL,YM,YN,YO,YP,YQ,YR,YS,YT,YU,YV,YW,YX,YY,reduceIte,reduceCtorEq,ite_true,ite_false,if_true,if_false,YZ,Z0,Z1,Z2,Z3,Z4,and_true,true_and,and_self,true_imp_iff,false_imp_iff,eq_self,not_true_eq_false,not_false_eq_true,ne_eq,decide_true,decide_false,Z5,Z6,Z7,Z8,Z9,Za,Zb,Zc,Zd,Ze,Zf,Zg,Zh,Zi,Zj,Zk,Zl,Zm,Zn,Zo,Zp,Zq,Zr,Zs,Zt,Zu,Zv,Try.underlying3,Try.cs3,Try.bt3,Try.pa3,Try.zr3,Try.underlying4,Try.cs4,Try.bt4,Try.pa4,Try.ty4,Try.zr4,Try.underlying23,Try.cs23,Try.bt23,Try.pa23,Try.ty23,Try.sl23,Try.zr23,Try.underlying36,Try.cs36,Try.bt36,Try.pa36,Try.zr36]
    refine ⟨b2, by omega, b1, by omega, b1, by omega, b2, ?_⟩
    rw [g2]
    simp -implicitDefEqProofs only [wi,wj,Q0,Q1,Q2,Q3,Q4,Q5,Q6,Q7,Q8,Q9,Qa,Qb,Qc,Qd,Qe,Qf,Qg,Qh,Qi,Qj,Qk,Ql,Qm,Qn,Qo,Qp,Qq,Qr,Qs,Qt,Qu,Qv,Qw,Qx,Qy,Qz,QA,QB,QC,QD,QE,QF,QG,QH,QI,QJ,QK,QL,QM,QN,QO,QP,QQ,QR,QS,QT,QU,QV,QW,QX,QY,QZ,X0,X1,X2,X3,X4,X5,X6,X7,X8,X9,Xa,Xb,Xc,Xd,Xe,Xf,Xg,Xh,Xi,Xj,Xk,Xl,Xm,Xn,Xo,Xp,Xq,Xr,Xs,Xt,Xu,Xv,Xw,Xx,Xy,Xz,XA,XB,XC,XD,XE,XF,XG,XH,XI,XJ,XK,XL,XM,XN,XO,XP,XQ,XR,XS,XT,XU,XV,XW,XX,XY,XZ,Y0,Y1,Y2,Y3,Y4,Y5,Y6,Y7,Y8,Y9,Ya,Yb,Yc,Yd,Ye,Yf,Yg,Yh,Yi,Yj,Yk,Yl,Ym,Yn,Yo,Yp,Yq,Yr,Ys,Yt,Yu,Yv,Yw,Yx,Yy,Yz,YA,YB,YC,YD,YE,YF,YG,YH,YI,YJ,YK,YL,YM,YN,YO,YP,YQ,YR,YS,YT,YU,YV,YW,YX,YY,reduceIte,reduceCtorEq,ite_true,ite_false,if_true,if_false,YZ,Z0,Z1,Z2,Z3,Z4,and_true,true_and,and_self,true_imp_iff,false_imp_iff,eq_self,not_true_eq_false,not_false_eq_true,ne_eq,decide_true,decide_false,Z5,Z6,Z7,Z8,Z9,Za,Zb,Zc,Zd,Ze,Zf,Zg,Zh,Zi,Zj,Zk,Zl,Zm,Zn,Zo,Zp,Zq,Zr,Zs,Zt,Zu,Zv,Try.underlying3,Try.cs3,Try.bt3,Try.pa3,Try.zr3,Try.underlying4,Try.cs4,Try.bt4,Try.pa4,Try.ty4,Try.zr4,Try.underlying23,Try.cs23,Try.bt23,Try.pa23,Try.ty23,Try.sl23,Try.zr23,Try.underlying36,Try.cs36,Try.bt36,Try.pa36,Try.zr36]
    refine ⟨by simp; omega, i + 1, ⟨rfl, rfl⟩, ⟨by omega, ?_⟩, by omega⟩
    rw [List.set_set, List.set_set, hst]
  · have d1 : decide ((i : Int) < (l.length : Int) - 1 - (i : Int)) = false := decide_eq_false (by omega)
    rw [revI_end l i (by omega)]
    simp -implicitDefEqProofs only [d1,Q0,Q1,Q2,Q3,Q4,Q5,Q6,Q7,Q8,Q9,Qa,Qb,Qc,Qd,Qe,Qf,Qg,Qh,Qi,Qj,Qk,Ql,Qm,Qn,Qo,Qp,Qq,Qr,Qs,Qt,Qu,Qv,Qw,Qx,Qy,Qz,QA,QB,QC,QD,QE,QF,QG,QH,QI,QJ,QK,QL,QM,QN,QO,QP,QQ,QR,QS,QT,QU,QV,QW,QX,QY,QZ,X0,X1,X2,X3,X4,X5,X6,X7,X8,X9,Xa,Xb,Xc,Xd,Xe,Xf,Xg,Xh,Xi,Xj,Xk,Xl,Xm,Xn,Xo,Xp,Xq,Xr,Xs,Xt,Xu,Xv,Xw,Xx,Xy,Xz,XA,XB,XC,XD,XE,XF,XG,XH,XI,XJ,XK,XL,XM,XN,XO,XP,XQ,XR,XS,XT,XU,XV,XW,XX,XY,XZ,Y0,Y1,Y2,Y3,Y4,Y5,Y6,Y7,Y8,Y9,Ya,Yb,Yc,Yd,Ye,Yf,Yg,Yh,Yi,Yj,Yk,Yl,Ym,Yn,Yo,Yp,Yq,Yr,Ys,Yt,Yu,Yv,Yw,Yx,Yy,Yz,YA,YB,YC,YD,YE,YF,YG,YH,YI,YJ,YK,YL,YM,YN,YO,YP,YQ,YR,YS,YT,YU,YV,YW,YX,YY,reduceIte,reduceCtorEq,ite_true,ite_false,if_true,if_false,YZ,Z0,Z1,Z2,Z3,Z4,and_true,true_and,and_self,true_imp_iff,false_imp_iff,eq_self,not_true_eq_false,not_false_eq_true,ne_eq,decide_true,decide_false,Z5,Z6,Z7,Z8,Z9,Za,Zb,Zc,Zd,Ze,Zf,Zg,Zh,Zi,Zj,Zk,Zl,Zm,Zn,Zo,Zp,Zq,Zr,Zs,Zt,Zu,Zv,Try.underlying3,Try.cs3,Try.bt3,Try.pa3,Try.zr3,Try.underlying4,Try.cs4,Try.bt4,Try.pa4,Try.ty4,Try.zr4,Try.underlying23,Try.cs23,Try.bt23,Try.pa23,Try.ty23,Try.sl23,Try.zr23,Try.underlying36,Try.cs36,Try.bt36,Try.pa36,Try.zr36]

end Go.Proofs
