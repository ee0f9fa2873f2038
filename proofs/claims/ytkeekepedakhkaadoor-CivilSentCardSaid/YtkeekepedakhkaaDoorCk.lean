/-
  The text of a date: contracts.
-/
import Derived.Test.YtkeekepedakhkaaDoorCc
import Derived.Test.YtkeekepedakhkaaDoorCj
import Derived.Test.YtkeekepedakhkaaDoorAbsF
namespace Go.Proofs
open Go.Pa
open Go.Pa renaming vc_seq → Q0, vc_block → Q1, vc_exit → Q2, vc_ret → Q3, vc_skip → Q4, vc_region → Q5, vc_draw → Q6, vc_loop → Q7, vc_range → Q8, vc_cond → Q9, condV_true → Qa, condV_false → Qb, condV_bool → Qc, seqK_normal → Qd, seqK_ret → Qe, seqK_exit → Qf, blkK_normal → Qg, blkK_ret → Qh, blkK_exit → Qi, loopK_ret → Qj, loopK_exit → Qk, loopK_normal → Ql, vcOps_nil → Qm, vcOps_cons → Qn, vcOps_guardM → Qo, guardM_some → Qp, guardV_und → Qq, guardV_same → Qr, guardV_tf → Qs, guardV_ft → Qt, guardV_bool → Qu, vcOp_out → Qv, outV_val → Qw, outV_need → Qx, outV_no → Qy, opK_run → Qz, opK_none → QA, vcS → QB, evA → QC, evBin → QD, nilA → QE, nilOf → QF, intOp → QG, strOp → QH, evUn → QI, evConv → QJ, evField → QK, evFieldAddr → QL, evIndexAddr → QM, evIndex → QN, bnd → QO, evSlice → QP, evLen → QQ, evPick → QR, evExtract → QS, evNilCheck → QT, evMin → QU, evMax → QV, evLoadI → QW, cO_int → QX, cO_bool → QY, cO_str → QZ, cO_nils → X0, cO_emp → X1, cO_ints → X2, cO_rows → X3, cO_mvec → X4, cO_ptr → X5, cO_eptr → X6, cO_iptr → X7, cO_nilp → X8, cO_fn → X9, cO_nilf → Xa, cO_mp → Xb, cO_nilm → Xc, cO_glob → Xd, cO_agg → Xe, partsOne → Xg, intsOf → Xh, rowsAV → Xi, evBuildSlice → Xj, evBuild → Xk, fillA → Xl, splice → Xm, evBuiltin → Xn, vcE_nil → Xo, vcE_cons → Xp, vcE_guardM → Xq, guardME_some → Xr, guardD_und → Xs, guardD_same → Xt, guardD_tf → Xu, guardD_ft → Xv, guardD_bool → Xw, dK_run → Xx, dK_none → Xy, dOp_call → Xz, callA_fn → XA, dOp → XB, outA_val → XC, outA_need → XD, cl → XE, vcLoad → XF, vcStore → XG, vcMake → XH, evO_tmp → XI, evO_int → XJ, evO_bool → XK, evO_nils → XL, evO_nilp → XM, evO_nilf → XN, evO_nilm → XO, evO_str → XP, evO_func → XQ, evO_glob → XR, convA → XS, evIndexArr → XT, lookA_cons → XU, get_cons → XV, sub_cons → XW, sub_nil → XX, retK_ret → XY, retK_normal → XZ, retA → Y0, ressA → Y1, resA → Y2, envOf → Y3, vcR_skip → Y7, vcR_seq → Y8, vcR_block → Y9, vcR_exit → Ya, vcR_ret → Yb, vcR_region → Yc, vcR_draw → Yd, vcR_cond → Ye, condR_true → Yf, condR_false → Yg, condR_bool → Yh, seqR_normal → Yi, seqR_ret → Yj, seqR_exit → Yk, asgEnv → Yl, parEnv → Ym, dstAt → Z5, sto_assoc → Z6, sto_len → Z7, sto_at → Z8, sto_at0 → Z9, sto_set → Za, sto_set0 → Zb
open Go.Pa.AV renaming cell → Xf
open Go.Pa.Env renaming put → Y4
open List renaming set_cons_zero → Y5, set_cons_succ → Y6, foldl_cons → Yn, foldl_nil → Yo, map_cons → Yp, map_nil → Yq, toList_toArray → Yr, getElem?_cons_zero → Ys, getElem?_cons_succ → Yt, nil_append → Yx, append_nil → Yy, cons_append → Yz, singleton_append → YA, length_cons → YB, length_nil → YC, all_cons → YD, all_nil → YE, take_succ_cons → YF, take_zero → YG, take_nil → YH, drop_zero → YI, drop_succ_cons → YJ, drop_nil → YK, contains_nil → YL, contains_cons → YM
open Option renaming bind_some → Yu, map_some → Yv, map_none → Yw
open Bool renaming or_false → YN, false_or → YO, or_true → YP, true_or → YQ, false_eq_true → YZ, not_true → Z0, not_false → Z1, and_true → Z2, true_and → Z3, and_self → Z4
open Nat renaming reduceEqDiff → YR, reduceAdd → YS, reduceSub → YT, reduceMul → YU, reduceLT → YV, reduceLeDiff → YW, reduceBNe → YX, reduceBEq → YY, zero_add → Ze, add_zero → Zf
open UInt8 renaming reduceToNat → Zc
open Int renaming cast_ofNat_Int → Zd, reduceToNat → Zg, reduceLT → Zh, reduceLE → Zi, reduceNeg → Zj, reduceEq → Zk, reduceNe → Zl
set_option linter.unusedSimpArgs false
set_option maxRecDepth 20000
set_option maxHeartbeats 2000000

theorem rep_set (m : Nat) (x : Int) (t : List Int) : (List.replicate (m + 1) (0 : Int) ++ t).set m x = List.replicate m 0 ++ x :: t := by
  induction m with
  | zero => rfl
  | succ m ih =>
    rw [List.replicate_succ, List.cons_append, List.set_cons_succ, ih]
    rfl

theorem pow_pos10 (i : Nat) : (0 : Int) < 10 ^ i := Int.pow_pos (by decide)

theorem c_digits (n : Int) (k : Nat) (hn : 0 ≤ n) (hn' : n < 1000000000) (hk : 1 ≤ k) (hk' : k ≤ 4) (σ : Store) : ACalls Tryd.prog 41 [.int .i64 n, .int .i64 k] σ (FreshI σ .u8 (tailD n k)) := by
  refine ACalls.fresh ?_
  refine acalls_of_vc (fn := Tryd.f41) Tryd.call41 Tryd.func41 rfl (by kernel_rfl) (by simp [Tryd.ntmps41]) ?_; simp -implicitDefEqProofs only [Tryd.ntmps41,Tryd.results41,Q0,Q1,Q2,Q3,Q4,Q5,Q6,Q7,Q8,Q9,Qa,Qb,Qc,Qd,Qe,Qf,Qg,Qh,Qi,Qj,Qk,Ql,Qm,Qn,Qo,Qp,Qq,Qr,Qs,Qt,Qu,Qv,Qw,Qx,Qy,Qz,QA,QB,QC,QD,QE,QF,QG,QH,QI,QJ,QK,QL,QM,QN,QO,QP,QQ,QR,QS,QT,QU,QV,QW,QX,QY,QZ,X0,X1,X2,X3,X4,X5,X6,X7,X8,X9,Xa,Xb,Xc,Xd,Xe,Xf,Xg,Xh,Xi,Xj,Xk,Xl,Xm,Xn,Xo,Xp,Xq,Xr,Xs,Xt,Xu,Xv,Xw,Xx,Xy,Xz,XA,XB,XC,XD,XE,XF,XG,XH,XI,XJ,XK,XL,XM,XN,XO,XP,XQ,XR,XS,XT,XU,XV,XW,XX,XY,XZ,Y0,Y1,Y2,Y3,Y4,Y5,Y6,Y7,Y8,Y9,Ya,Yb,Yc,Yd,Ye,Yf,Yg,Yh,Yi,Yj,Yk,Yl,Ym,Yn,Yo,Yp,Yq,Yr,Ys,Yt,Yu,Yv,Yw,Yx,Yy,Yz,YA,YB,YC,YD,YE,YF,YG,YH,YI,YJ,YK,YL,YM,YN,YO,YP,YQ,YR,YS,YT,YU,YV,YW,YX,YY,reduceIte,reduceCtorEq,ite_true,ite_false,if_true,if_false,YZ,Z0,Z1,Z2,Z3,Z4,and_true,true_and,and_self,true_imp_iff,false_imp_iff,eq_self,not_true_eq_false,not_false_eq_true,ne_eq,decide_true,decide_false,Z5,Z6,Z7,Z8,Z9,Za,Zb,Zc,Zd,Ze,Zf,Zg,Zh,Zi,Zj,Zk,Zl,Tryd.underlying3,Tryd.cs3,Tryd.bt3,Tryd.pa3,Tryd.zr3,Tryd.underlying5,Tryd.cs5,Tryd.bt5,Tryd.pa5,Tryd.zr5,Tryd.underlying43,Tryd.cs43,Tryd.bt43,Tryd.pa43,Tryd.ty43,Tryd.sl43,Tryd.zr43]
  refine ⟨by omega, by omega, by omega, ?_⟩
  refine awp_loop (fun i : Nat => [(11, .int .i64 i), (10, .int .i64 k), (5, .mvec σ.length 0 k 1), (1, .int .i64 k), (0, .int .i64 (n / 10 ^ i))]) (fun i s => i ≤ k ∧ s = σ ++ [.vecI .u8 (List.replicate (k - i) 0 ++ tailD n i)]) (fun i => k - i) 0 (by kernel_rfl)
    (by simp [sub_cons, sub_nil, get_cons]) ⟨by omega, by simp [tailD]⟩ ?_
  rintro i s ⟨hi, rfl⟩
  by_cases hlt : i < k
  · have d : decide ((i : Int) < (k : Int)) = true := decide_eq_true (by omega)
    have hp := pow_pos10 i
    have hq : 0 ≤ n / 10 ^ i := Int.ediv_nonneg hn (by omega)
    have hq2 : n / 10 ^ i ≤ n := Int.ediv_le_self _ hn
    have e1 : (n / 10 ^ i).tmod 10 = n / 10 ^ i % 10 := Int.tmod_eq_emod_of_nonneg hq
    have e2 : (n / 10 ^ i).tdiv 10 = n / 10 ^ (i + 1) := by
      rw [Int.tdiv_eq_ediv_of_nonneg hq, Int.pow_succ, Int.ediv_ediv_of_nonneg (by omega)]
    have hs : n / 10 ^ (i + 1) ≤ n := Int.ediv_le_self _ hn
    have hs0 : 0 ≤ n / 10 ^ (i + 1) := Int.ediv_nonneg hn (Int.le_of_lt (pow_pos10 _))
    have w1 : IntKind.i64.wrap ((k : Int) - 1) = (k : Int) - 1 := wrap_i64 (by omega) (by omega)
    have w2 : IntKind.i64.wrap ((k : Int) - 1 - i) = ((k - (i + 1) : Nat) : Int) := by rw [wrap_i64 (by omega) (by omega)]; omega
    have w3 : IntKind.i64.wrap (48 + n / 10 ^ i % 10) = 48 + n / 10 ^ i % 10 := wrap_i64 (by omega) (by omega)
    have w4 : IntKind.u8.wrap (48 + n / 10 ^ i % 10) = 48 + n / 10 ^ i % 10 := wrap_u8 (by omega) (by omega)
    have w5 : IntKind.i64.wrap (n / 10 ^ (i + 1)) = n / 10 ^ (i + 1) := wrap_i64 (by omega) (by omega)
    have w6 : IntKind.i64.wrap ((i : Int) + 1) = ((i + 1 : Nat) : Int) := by rw [wrap_i64 (by omega) (by omega)]; rfl
    have hset : (List.replicate (k - i) 0 ++ tailD n i).set (k - (i + 1)) (48 + n / 10 ^ i % 10) = List.replicate (k - (i + 1)) 0 ++ tailD n (i + 1) := by
      rw [show k - i = k - (i + 1) + 1 by omega, rep_set]
      rfl
    have hll : (List.replicate (k - i) (0 : Int) ++ tailD n i).length = k := by simp [tailD_len]; omega
    simp -implicitDefEqProofs only [d,e1,e2,w1,w2,w3,w4,w5,w6,Int.toNat_natCast,hset,hll,Q0,Q1,Q2,Q3,Q4,Q5,Q6,Q7,Q8,Q9,Qa,Qb,Qc,Qd,Qe,Qf,Qg,Qh,Qi,Qj,Qk,Ql,Qm,Qn,Qo,Qp,Qq,Qr,Qs,Qt,Qu,Qv,Qw,Qx,Qy,Qz,QA,QB,QC,QD,QE,QF,QG,QH,QI,QJ,QK,QL,QM,QN,QO,QP,QQ,QR,QS,QT,QU,QV,QW,QX,QY,QZ,X0,X1,X2,X3,X4,X5,X6,X7,X8,X9,Xa,Xb,Xc,Xd,Xe,Xf,Xg,Xh,Xi,Xj,Xk,Xl,Xm,Xn,Xo,Xp,Xq,Xr,Xs,Xt,Xu,Xv,Xw,Xx,Xy,Xz,XA,XB,XC,XD,XE,XF,XG,XH,XI,XJ,XK,XL,XM,XN,XO,XP,XQ,XR,XS,XT,XU,XV,XW,XX,XY,XZ,Y0,Y1,Y2,Y3,Y4,Y5,Y6,Y7,Y8,Y9,Ya,Yb,Yc,Yd,Ye,Yf,Yg,Yh,Yi,Yj,Yk,Yl,Ym,Yn,Yo,Yp,Yq,Yr,Ys,Yt,Yu,Yv,Yw,Yx,Yy,Yz,YA,YB,YC,YD,YE,YF,YG,YH,YI,YJ,YK,YL,YM,YN,YO,YP,YQ,YR,YS,YT,YU,YV,YW,YX,YY,reduceIte,reduceCtorEq,ite_true,ite_false,if_true,if_false,YZ,Z0,Z1,Z2,Z3,Z4,and_true,true_and,and_self,true_imp_iff,false_imp_iff,eq_self,not_true_eq_false,not_false_eq_true,ne_eq,decide_true,decide_false,Z5,Z6,Z7,Z8,Z9,Za,Zb,Zc,Zd,Ze,Zf,Zg,Zh,Zi,Zj,Zk,Zl,Tryd.underlying3,Tryd.cs3,Tryd.bt3,Tryd.pa3,Tryd.zr3,Tryd.underlying5,Tryd.cs5,Tryd.bt5,Tryd.pa5,Tryd.zr5,Tryd.underlying43,Tryd.cs43,Tryd.bt43,Tryd.pa43,Tryd.ty43,Tryd.sl43,Tryd.zr43]
    refine ⟨by omega, by omega, ?_⟩
    exact ⟨i + 1, ⟨rfl, rfl⟩, ⟨by omega, rfl⟩, by omega⟩
  · have d : decide ((i : Int) < (k : Int)) = false := decide_eq_false (by omega)
    have hik : i = k := by omega
    subst hik
    simp -implicitDefEqProofs only [d,Q0,Q1,Q2,Q3,Q4,Q5,Q6,Q7,Q8,Q9,Qa,Qb,Qc,Qd,Qe,Qf,Qg,Qh,Qi,Qj,Qk,Ql,Qm,Qn,Qo,Qp,Qq,Qr,Qs,Qt,Qu,Qv,Qw,Qx,Qy,Qz,QA,QB,QC,QD,QE,QF,QG,QH,QI,QJ,QK,QL,QM,QN,QO,QP,QQ,QR,QS,QT,QU,QV,QW,QX,QY,QZ,X0,X1,X2,X3,X4,X5,X6,X7,X8,X9,Xa,Xb,Xc,Xd,Xe,Xf,Xg,Xh,Xi,Xj,Xk,Xl,Xm,Xn,Xo,Xp,Xq,Xr,Xs,Xt,Xu,Xv,Xw,Xx,Xy,Xz,XA,XB,XC,XD,XE,XF,XG,XH,XI,XJ,XK,XL,XM,XN,XO,XP,XQ,XR,XS,XT,XU,XV,XW,XX,XY,XZ,Y0,Y1,Y2,Y3,Y4,Y5,Y6,Y7,Y8,Y9,Ya,Yb,Yc,Yd,Ye,Yf,Yg,Yh,Yi,Yj,Yk,Yl,Ym,Yn,Yo,Yp,Yq,Yr,Ys,Yt,Yu,Yv,Yw,Yx,Yy,Yz,YA,YB,YC,YD,YE,YF,YG,YH,YI,YJ,YK,YL,YM,YN,YO,YP,YQ,YR,YS,YT,YU,YV,YW,YX,YY,reduceIte,reduceCtorEq,ite_true,ite_false,if_true,if_false,YZ,Z0,Z1,Z2,Z3,Z4,and_true,true_and,and_self,true_imp_iff,false_imp_iff,eq_self,not_true_eq_false,not_false_eq_true,ne_eq,decide_true,decide_false,Z5,Z6,Z7,Z8,Z9,Za,Zb,Zc,Zd,Ze,Zf,Zg,Zh,Zi,Zj,Zk,Zl,Tryd.underlying3,Tryd.cs3,Tryd.bt3,Tryd.pa3,Tryd.zr3,Tryd.underlying5,Tryd.cs5,Tryd.bt5,Tryd.pa5,Tryd.zr5,Tryd.underlying43,Tryd.cs43,Tryd.bt43,Tryd.pa43,Tryd.ty43,Tryd.sl43,Tryd.zr43]
    refine ⟨Ext.app _ _, .inr ⟨σ.length, by rw [tailD_len], by simp, Nat.le_refl _⟩⟩

theorem c_text (x : Dt) (σ : Store) : ACalls Tryd.prog 25 [x.av] σ (fun r σ' => r = .str (if validI x = true then txtI x else []) ∧ σ' = σ) := by
  have hcv := fun σ => c_valid x σ
  refine ACalls.pure0 ?_ rfl rfl σ
  cases hv : validI x with
  | false =>
    rw [hv] at hcv
    obtain ⟨y, m, d⟩ := x
    simp only [Dt.av, Dt.cs] at hcv ⊢
    refine acalls_of_vc (fn := Tryd.f25) Tryd.call25 Tryd.func25 rfl (by kernel_rfl) (by simp [Tryd.ntmps25]) ?_; simp -implicitDefEqProofs only [Tryd.ntmps25,Tryd.results25,Q0,Q1,Q2,Q3,Q4,Q5,Q6,Q7,Q8,Q9,Qa,Qb,Qc,Qd,Qe,Qf,Qg,Qh,Qi,Qj,Qk,Ql,Qm,Qn,Qo,Qp,Qq,Qr,Qs,Qt,Qu,Qv,Qw,Qx,Qy,Qz,QA,QB,QC,QD,QE,QF,QG,QH,QI,QJ,QK,QL,QM,QN,QO,QP,QQ,QR,QS,QT,QU,QV,QW,QX,QY,QZ,X0,X1,X2,X3,X4,X5,X6,X7,X8,X9,Xa,Xb,Xc,Xd,Xe,Xf,Xg,Xh,Xi,Xj,Xk,Xl,Xm,Xn,Xo,Xp,Xq,Xr,Xs,Xt,Xu,Xv,Xw,Xx,Xy,Xz,XA,XB,XC,XD,XE,XF,XG,XH,XI,XJ,XK,XL,XM,XN,XO,XP,XQ,XR,XS,XT,XU,XV,XW,XX,XY,XZ,Y0,Y1,Y2,Y3,Y4,Y5,Y6,Y7,Y8,Y9,Ya,Yb,Yc,Yd,Ye,Yf,Yg,Yh,Yi,Yj,Yk,Yl,Ym,Yn,Yo,Yp,Yq,Yr,Ys,Yt,Yu,Yv,Yw,Yx,Yy,Yz,YA,YB,YC,YD,YE,YF,YG,YH,YI,YJ,YK,YL,YM,YN,YO,YP,YQ,YR,YS,YT,YU,YV,YW,YX,YY,reduceIte,reduceCtorEq,ite_true,ite_false,if_true,if_false,YZ,Z0,Z1,Z2,Z3,Z4,and_true,true_and,and_self,true_imp_iff,false_imp_iff,eq_self,not_true_eq_false,not_false_eq_true,ne_eq,decide_true,decide_false,Z5,Z6,Z7,Z8,Z9,Za,Zb,Zc,Zd,Ze,Zf,Zg,Zh,Zi,Zj,Zk,Zl,Tryd.underlying3,Tryd.cs3,Tryd.bt3,Tryd.pa3,Tryd.zr3,Tryd.underlying4,Tryd.cs4,Tryd.bt4,Tryd.pa4,Tryd.ty4,Tryd.zr4,Tryd.underlying5,Tryd.cs5,Tryd.bt5,Tryd.pa5,Tryd.zr5,Tryd.underlying9,Tryd.cs9,Tryd.bt9,Tryd.pa9,Tryd.ty9,Tryd.zr9,Tryd.underlying24,Tryd.cs24,Tryd.bt24,Tryd.pa24,Tryd.ty24,Tryd.zr24,Tryd.pl24,Tryd.eq24,Tryd.fd24_0,Tryd.fd24_1,Tryd.fd24_2,Tryd.underlying43,Tryd.cs43,Tryd.bt43,Tryd.pa43,Tryd.ty43,Tryd.sl43,Tryd.zr43]
    refine acalls_then (hcv _) ?_
    simp -implicitDefEqProofs only [Q0,Q1,Q2,Q3,Q4,Q5,Q6,Q7,Q8,Q9,Qa,Qb,Qc,Qd,Qe,Qf,Qg,Qh,Qi,Qj,Qk,Ql,Qm,Qn,Qo,Qp,Qq,Qr,Qs,Qt,Qu,Qv,Qw,Qx,Qy,Qz,QA,QB,QC,QD,QE,QF,QG,QH,QI,QJ,QK,QL,QM,QN,QO,QP,QQ,QR,QS,QT,QU,QV,QW,QX,QY,QZ,X0,X1,X2,X3,X4,X5,X6,X7,X8,X9,Xa,Xb,Xc,Xd,Xe,Xf,Xg,Xh,Xi,Xj,Xk,Xl,Xm,Xn,Xo,Xp,Xq,Xr,Xs,Xt,Xu,Xv,Xw,Xx,Xy,Xz,XA,XB,XC,XD,XE,XF,XG,XH,XI,XJ,XK,XL,XM,XN,XO,XP,XQ,XR,XS,XT,XU,XV,XW,XX,XY,XZ,Y0,Y1,Y2,Y3,Y4,Y5,Y6,Y7,Y8,Y9,Ya,Yb,Yc,Yd,Ye,Yf,Yg,Yh,Yi,Yj,Yk,Yl,Ym,Yn,Yo,Yp,Yq,Yr,Ys,Yt,Yu,Yv,Yw,Yx,Yy,Yz,YA,YB,YC,YD,YE,YF,YG,YH,YI,YJ,YK,YL,YM,YN,YO,YP,YQ,YR,YS,YT,YU,YV,YW,YX,YY,reduceIte,reduceCtorEq,ite_true,ite_false,if_true,if_false,YZ,Z0,Z1,Z2,Z3,Z4,and_true,true_and,and_self,true_imp_iff,false_imp_iff,eq_self,not_true_eq_false,not_false_eq_true,ne_eq,decide_true,decide_false,Z5,Z6,Z7,Z8,Z9,Za,Zb,Zc,Zd,Ze,Zf,Zg,Zh,Zi,Zj,Zk,Zl,Tryd.underlying3,Tryd.cs3,Tryd.bt3,Tryd.pa3,Tryd.zr3,Tryd.underlying4,Tryd.cs4,Tryd.bt4,Tryd.pa4,Tryd.ty4,Tryd.zr4,Tryd.underlying5,Tryd.cs5,Tryd.bt5,Tryd.pa5,Tryd.zr5,Tryd.underlying9,Tryd.cs9,Tryd.bt9,Tryd.pa9,Tryd.ty9,Tryd.zr9,Tryd.underlying24,Tryd.cs24,Tryd.bt24,Tryd.pa24,Tryd.ty24,Tryd.zr24,Tryd.pl24,Tryd.eq24,Tryd.fd24_0,Tryd.fd24_1,Tryd.fd24_2,Tryd.underlying43,Tryd.cs43,Tryd.bt43,Tryd.pa43,Tryd.ty43,Tryd.sl43,Tryd.zr43]
  | true =>
    rw [hv] at hcv
    obtain ⟨⟨⟨h1, h2, h3, h4⟩, h5⟩, hy9⟩ := validI_vd hv
    have hl := len_bounds x.y x.m
    have k1 := fun σ => ACalls.freshFrozen (c_digits x.y 4 (by omega) (by omega) (by omega) (by omega) σ)
    have k2 := fun σ => ACalls.freshFrozen (c_digits x.m 2 (by omega) (by omega) (by omega) (by omega) σ)
    have k3 := fun σ => ACalls.freshFrozen (c_digits x.d 2 (by omega) (by omega) (by omega) (by omega) σ)
    have u1 := tailD_u8 x.y 4
    have u2 := tailD_u8 x.m 2
    have u3 := tailD_u8 x.d 2
    have l1 := tailD_len x.y 4
    have l2 := tailD_len x.m 2
    have l3 := tailD_len x.d 2
    have htx : txtI x = ((((tailD x.y 4 ++ [45]) ++ tailD x.m 2) ++ [45]) ++ tailD x.d 2) := by simp [txtI]
    rw [if_pos rfl, htx]
    obtain ⟨y, m, d⟩ := x
    simp only [Dt.av, Dt.cs] at hcv k1 k2 k3 u1 u2 u3 l1 l2 l3 ⊢
    generalize tailD y 4 = A at *
    generalize tailD m 2 = B at *
    generalize tailD d 2 = C at *
    have e4 : ((4 : Nat) : Int) = 4 := rfl
    have e2 : ((2 : Nat) : Int) = 2 := rfl
    rw [e4] at k1
    rw [e2] at k2 k3
    refine acalls_of_vc (fn := Tryd.f25) Tryd.call25 Tryd.func25 rfl (by kernel_rfl) (by simp [Tryd.ntmps25]) ?_; simp -implicitDefEqProofs only [Tryd.ntmps25,Tryd.results25,Q0,Q1,Q2,Q3,Q4,Q5,Q6,Q7,Q8,Q9,Qa,Qb,Qc,Qd,Qe,Qf,Qg,Qh,Qi,Qj,Qk,Ql,Qm,Qn,Qo,Qp,Qq,Qr,Qs,Qt,Qu,Qv,Qw,Qx,Qy,Qz,QA,QB,QC,QD,QE,QF,QG,QH,QI,QJ,QK,QL,QM,QN,QO,QP,QQ,QR,QS,QT,QU,QV,QW,QX,QY,QZ,X0,X1,X2,X3,X4,X5,X6,X7,X8,X9,Xa,Xb,Xc,Xd,Xe,Xf,Xg,Xh,Xi,Xj,Xk,Xl,Xm,Xn,Xo,Xp,Xq,Xr,Xs,Xt,Xu,Xv,Xw,Xx,Xy,Xz,XA,XB,XC,XD,XE,XF,XG,XH,XI,XJ,XK,XL,XM,XN,XO,XP,XQ,XR,XS,XT,XU,XV,XW,XX,XY,XZ,Y0,Y1,Y2,Y3,Y4,Y5,Y6,Y7,Y8,Y9,Ya,Yb,Yc,Yd,Ye,Yf,Yg,Yh,Yi,Yj,Yk,Yl,Ym,Yn,Yo,Yp,Yq,Yr,Ys,Yt,Yu,Yv,Yw,Yx,Yy,Yz,YA,YB,YC,YD,YE,YF,YG,YH,YI,YJ,YK,YL,YM,YN,YO,YP,YQ,YR,YS,YT,YU,YV,YW,YX,YY,reduceIte,reduceCtorEq,ite_true,ite_false,if_true,if_false,YZ,Z0,Z1,Z2,Z3,Z4,and_true,true_and,and_self,true_imp_iff,false_imp_iff,eq_self,not_true_eq_false,not_false_eq_true,ne_eq,decide_true,decide_false,Z5,Z6,Z7,Z8,Z9,Za,Zb,Zc,Zd,Ze,Zf,Zg,Zh,Zi,Zj,Zk,Zl,Tryd.underlying3,Tryd.cs3,Tryd.bt3,Tryd.pa3,Tryd.zr3,Tryd.underlying4,Tryd.cs4,Tryd.bt4,Tryd.pa4,Tryd.ty4,Tryd.zr4,Tryd.underlying5,Tryd.cs5,Tryd.bt5,Tryd.pa5,Tryd.zr5,Tryd.underlying9,Tryd.cs9,Tryd.bt9,Tryd.pa9,Tryd.ty9,Tryd.zr9,Tryd.underlying24,Tryd.cs24,Tryd.bt24,Tryd.pa24,Tryd.ty24,Tryd.zr24,Tryd.pl24,Tryd.eq24,Tryd.fd24_0,Tryd.fd24_1,Tryd.fd24_2,Tryd.underlying43,Tryd.cs43,Tryd.bt43,Tryd.pa43,Tryd.ty43,Tryd.sl43,Tryd.zr43]
    refine acalls_then (hcv _) ?_
    simp -implicitDefEqProofs only [Q0,Q1,Q2,Q3,Q4,Q5,Q6,Q7,Q8,Q9,Qa,Qb,Qc,Qd,Qe,Qf,Qg,Qh,Qi,Qj,Qk,Ql,Qm,Qn,Qo,Qp,Qq,Qr,Qs,Qt,Qu,Qv,Qw,Qx,Qy,Qz,QA,QB,QC,QD,QE,QF,QG,QH,QI,QJ,QK,QL,QM,QN,QO,QP,QQ,QR,QS,QT,QU,QV,QW,QX,QY,QZ,X0,X1,X2,X3,X4,X5,X6,X7,X8,X9,Xa,Xb,Xc,Xd,Xe,Xf,Xg,Xh,Xi,Xj,Xk,Xl,Xm,Xn,Xo,Xp,Xq,Xr,Xs,Xt,Xu,Xv,Xw,Xx,Xy,Xz,XA,XB,XC,XD,XE,XF,XG,XH,XI,XJ,XK,XL,XM,XN,XO,XP,XQ,XR,XS,XT,XU,XV,XW,XX,XY,XZ,Y0,Y1,Y2,Y3,Y4,Y5,Y6,Y7,Y8,Y9,Ya,Yb,Yc,Yd,Ye,Yf,Yg,Yh,Yi,Yj,Yk,Yl,Ym,Yn,Yo,Yp,Yq,Yr,Ys,Yt,Yu,Yv,Yw,Yx,Yy,Yz,YA,YB,YC,YD,YE,YF,YG,YH,YI,YJ,YK,YL,YM,YN,YO,YP,YQ,YR,YS,YT,YU,YV,YW,YX,YY,reduceIte,reduceCtorEq,ite_true,ite_false,if_true,if_false,YZ,Z0,Z1,Z2,Z3,Z4,and_true,true_and,and_self,true_imp_iff,false_imp_iff,eq_self,not_true_eq_false,not_false_eq_true,ne_eq,decide_true,decide_false,Z5,Z6,Z7,Z8,Z9,Za,Zb,Zc,Zd,Ze,Zf,Zg,Zh,Zi,Zj,Zk,Zl,Tryd.underlying3,Tryd.cs3,Tryd.bt3,Tryd.pa3,Tryd.zr3,Tryd.underlying4,Tryd.cs4,Tryd.bt4,Tryd.pa4,Tryd.ty4,Tryd.zr4,Tryd.underlying5,Tryd.cs5,Tryd.bt5,Tryd.pa5,Tryd.zr5,Tryd.underlying9,Tryd.cs9,Tryd.bt9,Tryd.pa9,Tryd.ty9,Tryd.zr9,Tryd.underlying24,Tryd.cs24,Tryd.bt24,Tryd.pa24,Tryd.ty24,Tryd.zr24,Tryd.pl24,Tryd.eq24,Tryd.fd24_0,Tryd.fd24_1,Tryd.fd24_2,Tryd.underlying43,Tryd.cs43,Tryd.bt43,Tryd.pa43,Tryd.ty43,Tryd.sl43,Tryd.zr43]
    refine awp_draws [] Tryd.mixed (by kernel_rfl) ?_
    simp -implicitDefEqProofs only [Q0,Q1,Q2,Q3,Q4,Q5,Q6,Q7,Q8,Q9,Qa,Qb,Qc,Qd,Qe,Qf,Qg,Qh,Qi,Qj,Qk,Ql,Qm,Qn,Qo,Qp,Qq,Qr,Qs,Qt,Qu,Qv,Qw,Qx,Qy,Qz,QA,QB,QC,QD,QE,QF,QG,QH,QI,QJ,QK,QL,QM,QN,QO,QP,QQ,QR,QS,QT,QU,QV,QW,QX,QY,QZ,X0,X1,X2,X3,X4,X5,X6,X7,X8,X9,Xa,Xb,Xc,Xd,Xe,Xf,Xg,Xh,Xi,Xj,Xk,Xl,Xm,Xn,Xo,Xp,Xq,Xr,Xs,Xt,Xu,Xv,Xw,Xx,Xy,Xz,XA,XB,XC,XD,XE,XF,XG,XH,XI,XJ,XK,XL,XM,XN,XO,XP,XQ,XR,XS,XT,XU,XV,XW,XX,XY,XZ,Y0,Y1,Y2,Y3,Y4,Y5,Y6,Y7,Y8,Y9,Ya,Yb,Yc,Yd,Ye,Yf,Yg,Yh,Yi,Yj,Yk,Yl,Ym,Yn,Yo,Yp,Yq,Yr,Ys,Yt,Yu,Yv,Yw,Yx,Yy,Yz,YA,YB,YC,YD,YE,YF,YG,YH,YI,YJ,YK,YL,YM,YN,YO,YP,YQ,YR,YS,YT,YU,YV,YW,YX,YY,reduceIte,reduceCtorEq,ite_true,ite_false,if_true,if_false,YZ,Z0,Z1,Z2,Z3,Z4,and_true,true_and,and_self,true_imp_iff,false_imp_iff,eq_self,not_true_eq_false,not_false_eq_true,ne_eq,decide_true,decide_false,Z5,Z6,Z7,Z8,Z9,Za,Zb,Zc,Zd,Ze,Zf,Zg,Zh,Zi,Zj,Zk,Zl,Tryd.underlying3,Tryd.cs3,Tryd.bt3,Tryd.pa3,Tryd.zr3,Tryd.underlying4,Tryd.cs4,Tryd.bt4,Tryd.pa4,Tryd.ty4,Tryd.zr4,Tryd.underlying5,Tryd.cs5,Tryd.bt5,Tryd.pa5,Tryd.zr5,Tryd.underlying9,Tryd.cs9,Tryd.bt9,Tryd.pa9,Tryd.ty9,Tryd.zr9,Tryd.underlying24,Tryd.cs24,Tryd.bt24,Tryd.pa24,Tryd.ty24,Tryd.zr24,Tryd.pl24,Tryd.eq24,Tryd.fd24_0,Tryd.fd24_1,Tryd.fd24_2,Tryd.underlying43,Tryd.cs43,Tryd.bt43,Tryd.pa43,Tryd.ty43,Tryd.sl43,Tryd.zr43]
    refine dCall_of (k1 _) (by decide) ?_
    simp -implicitDefEqProofs only [Q0,Q1,Q2,Q3,Q4,Q5,Q6,Q7,Q8,Q9,Qa,Qb,Qc,Qd,Qe,Qf,Qg,Qh,Qi,Qj,Qk,Ql,Qm,Qn,Qo,Qp,Qq,Qr,Qs,Qt,Qu,Qv,Qw,Qx,Qy,Qz,QA,QB,QC,QD,QE,QF,QG,QH,QI,QJ,QK,QL,QM,QN,QO,QP,QQ,QR,QS,QT,QU,QV,QW,QX,QY,QZ,X0,X1,X2,X3,X4,X5,X6,X7,X8,X9,Xa,Xb,Xc,Xd,Xe,Xf,Xg,Xh,Xi,Xj,Xk,Xl,Xm,Xn,Xo,Xp,Xq,Xr,Xs,Xt,Xu,Xv,Xw,Xx,Xy,Xz,XA,XB,XC,XD,XE,XF,XG,XH,XI,XJ,XK,XL,XM,XN,XO,XP,XQ,XR,XS,XT,XU,XV,XW,XX,XY,XZ,Y0,Y1,Y2,Y3,Y4,Y5,Y6,Y7,Y8,Y9,Ya,Yb,Yc,Yd,Ye,Yf,Yg,Yh,Yi,Yj,Yk,Yl,Ym,Yn,Yo,Yp,Yq,Yr,Ys,Yt,Yu,Yv,Yw,Yx,Yy,Yz,YA,YB,YC,YD,YE,YF,YG,YH,YI,YJ,YK,YL,YM,YN,YO,YP,YQ,YR,YS,YT,YU,YV,YW,YX,YY,reduceIte,reduceCtorEq,ite_true,ite_false,if_true,if_false,YZ,Z0,Z1,Z2,Z3,Z4,and_true,true_and,and_self,true_imp_iff,false_imp_iff,eq_self,not_true_eq_false,not_false_eq_true,ne_eq,decide_true,decide_false,Z5,Z6,Z7,Z8,Z9,Za,Zb,Zc,Zd,Ze,Zf,Zg,Zh,Zi,Zj,Zk,Zl,Tryd.underlying3,Tryd.cs3,Tryd.bt3,Tryd.pa3,Tryd.zr3,Tryd.underlying4,Tryd.cs4,Tryd.bt4,Tryd.pa4,Tryd.ty4,Tryd.zr4,Tryd.underlying5,Tryd.cs5,Tryd.bt5,Tryd.pa5,Tryd.zr5,Tryd.underlying9,Tryd.cs9,Tryd.bt9,Tryd.pa9,Tryd.ty9,Tryd.zr9,Tryd.underlying24,Tryd.cs24,Tryd.bt24,Tryd.pa24,Tryd.ty24,Tryd.zr24,Tryd.pl24,Tryd.eq24,Tryd.fd24_0,Tryd.fd24_1,Tryd.fd24_2,Tryd.underlying43,Tryd.cs43,Tryd.bt43,Tryd.pa43,Tryd.ty43,Tryd.sl43,Tryd.zr43]
    refine ⟨u1, by simp [l1], ?_⟩
    refine dCall_of (k2 _) (by decide) ?_
    simp -implicitDefEqProofs only [Q0,Q1,Q2,Q3,Q4,Q5,Q6,Q7,Q8,Q9,Qa,Qb,Qc,Qd,Qe,Qf,Qg,Qh,Qi,Qj,Qk,Ql,Qm,Qn,Qo,Qp,Qq,Qr,Qs,Qt,Qu,Qv,Qw,Qx,Qy,Qz,QA,QB,QC,QD,QE,QF,QG,QH,QI,QJ,QK,QL,QM,QN,QO,QP,QQ,QR,QS,QT,QU,QV,QW,QX,QY,QZ,X0,X1,X2,X3,X4,X5,X6,X7,X8,X9,Xa,Xb,Xc,Xd,Xe,Xf,Xg,Xh,Xi,Xj,Xk,Xl,Xm,Xn,Xo,Xp,Xq,Xr,Xs,Xt,Xu,Xv,Xw,Xx,Xy,Xz,XA,XB,XC,XD,XE,XF,XG,XH,XI,XJ,XK,XL,XM,XN,XO,XP,XQ,XR,XS,XT,XU,XV,XW,XX,XY,XZ,Y0,Y1,Y2,Y3,Y4,Y5,Y6,Y7,Y8,Y9,Ya,Yb,Yc,Yd,Ye,Yf,Yg,Yh,Yi,Yj,Yk,Yl,Ym,Yn,Yo,Yp,Yq,Yr,Ys,Yt,Yu,Yv,Yw,Yx,Yy,Yz,YA,YB,YC,YD,YE,YF,YG,YH,YI,YJ,YK,YL,YM,YN,YO,YP,YQ,YR,YS,YT,YU,YV,YW,YX,YY,reduceIte,reduceCtorEq,ite_true,ite_false,if_true,if_false,YZ,Z0,Z1,Z2,Z3,Z4,and_true,true_and,and_self,true_imp_iff,false_imp_iff,eq_self,not_true_eq_false,not_false_eq_true,ne_eq,decide_true,decide_false,Z5,Z6,Z7,Z8,Z9,Za,Zb,Zc,Zd,Ze,Zf,Zg,Zh,Zi,Zj,Zk,Zl,Tryd.underlying3,Tryd.cs3,Tryd.bt3,Tryd.pa3,Tryd.zr3,Tryd.underlying4,Tryd.cs4,Tryd.bt4,Tryd.pa4,Tryd.ty4,Tryd.zr4,Tryd.underlying5,Tryd.cs5,Tryd.bt5,Tryd.pa5,Tryd.zr5,Tryd.underlying9,Tryd.cs9,Tryd.bt9,Tryd.pa9,Tryd.ty9,Tryd.zr9,Tryd.underlying24,Tryd.cs24,Tryd.bt24,Tryd.pa24,Tryd.ty24,Tryd.zr24,Tryd.pl24,Tryd.eq24,Tryd.fd24_0,Tryd.fd24_1,Tryd.fd24_2,Tryd.underlying43,Tryd.cs43,Tryd.bt43,Tryd.pa43,Tryd.ty43,Tryd.sl43,Tryd.zr43]
    refine ⟨u2, by simp [l1, l2], by simp [l1, l2], ?_⟩
    refine dCall_of (k3 _) (by decide) ?_
    simp -implicitDefEqProofs only [Q0,Q1,Q2,Q3,Q4,Q5,Q6,Q7,Q8,Q9,Qa,Qb,Qc,Qd,Qe,Qf,Qg,Qh,Qi,Qj,Qk,Ql,Qm,Qn,Qo,Qp,Qq,Qr,Qs,Qt,Qu,Qv,Qw,Qx,Qy,Qz,QA,QB,QC,QD,QE,QF,QG,QH,QI,QJ,QK,QL,QM,QN,QO,QP,QQ,QR,QS,QT,QU,QV,QW,QX,QY,QZ,X0,X1,X2,X3,X4,X5,X6,X7,X8,X9,Xa,Xb,Xc,Xd,Xe,Xf,Xg,Xh,Xi,Xj,Xk,Xl,Xm,Xn,Xo,Xp,Xq,Xr,Xs,Xt,Xu,Xv,Xw,Xx,Xy,Xz,XA,XB,XC,XD,XE,XF,XG,XH,XI,XJ,XK,XL,XM,XN,XO,XP,XQ,XR,XS,XT,XU,XV,XW,XX,XY,XZ,Y0,Y1,Y2,Y3,Y4,Y5,Y6,Y7,Y8,Y9,Ya,Yb,Yc,Yd,Ye,Yf,Yg,Yh,Yi,Yj,Yk,Yl,Ym,Yn,Yo,Yp,Yq,Yr,Ys,Yt,Yu,Yv,Yw,Yx,Yy,Yz,YA,YB,YC,YD,YE,YF,YG,YH,YI,YJ,YK,YL,YM,YN,YO,YP,YQ,YR,YS,YT,YU,YV,YW,YX,YY,reduceIte,reduceCtorEq,ite_true,ite_false,if_true,if_false,YZ,Z0,Z1,Z2,Z3,Z4,and_true,true_and,and_self,true_imp_iff,false_imp_iff,eq_self,not_true_eq_false,not_false_eq_true,ne_eq,decide_true,decide_false,Z5,Z6,Z7,Z8,Z9,Za,Zb,Zc,Zd,Ze,Zf,Zg,Zh,Zi,Zj,Zk,Zl,Tryd.underlying3,Tryd.cs3,Tryd.bt3,Tryd.pa3,Tryd.zr3,Tryd.underlying4,Tryd.cs4,Tryd.bt4,Tryd.pa4,Tryd.ty4,Tryd.zr4,Tryd.underlying5,Tryd.cs5,Tryd.bt5,Tryd.pa5,Tryd.zr5,Tryd.underlying9,Tryd.cs9,Tryd.bt9,Tryd.pa9,Tryd.ty9,Tryd.zr9,Tryd.underlying24,Tryd.cs24,Tryd.bt24,Tryd.pa24,Tryd.ty24,Tryd.zr24,Tryd.pl24,Tryd.eq24,Tryd.fd24_0,Tryd.fd24_1,Tryd.fd24_2,Tryd.underlying43,Tryd.cs43,Tryd.bt43,Tryd.pa43,Tryd.ty43,Tryd.sl43,Tryd.zr43]
    exact ⟨u3, by simp [l1, l2, l3]⟩

end Go.Proofs
