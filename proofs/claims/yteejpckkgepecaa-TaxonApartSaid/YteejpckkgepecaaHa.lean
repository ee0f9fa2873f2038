/-
  The functions of the chapter on hashes: contracts.
-/
import Derived.Test.YteejpckkgepecaaAbsAll
namespace Go.Proofs
open Go.Pa
open Go.Pa renaming vc_seq → Q0, vc_block → Q1, vc_exit → Q2, vc_ret → Q3, vc_skip → Q4, vc_region → Q5, vc_draw → Q6, vc_loop → Q7, vc_range → Q8, vc_cond → Q9, condV_true → Qa, condV_false → Qb, condV_bool → Qc, seqK_normal → Qd, seqK_ret → Qe, seqK_exit → Qf, blkK_normal → Qg, blkK_ret → Qh, blkK_exit → Qi, loopK_ret → Qj, loopK_exit → Qk, loopK_normal → Ql, vcOps_nil → Qm, vcOps_cons → Qn, vcOps_guardM → Qo, guardM_some → Qp, guardV_und → Qq, guardV_same → Qr, guardV_tf → Qs, guardV_ft → Qt, guardV_bool → Qu, vcOp_out → Qv, outV_val → Qw, outV_need → Qx, outV_no → Qy, opK_run → Qz, opK_none → QA, vcS → QB, evA → QC, evBin → QD, nilA → QE, nilOf → QF, intOp → QG, strOp → QH, evUn → QI, evConv → QJ, evField → QK, evFieldAddr → QL, evIndexAddr → QM, evIndex → QN, evIndexA → QO, bnd → QP, evSlice → QQ, evLen → QR, evPick → QS, evExtract → QT, evNilCheck → QU, evMin → QV, evMax → QW, evLoadI → QX, cO_int → QY, cO_bool → QZ, cO_str → X0, cO_nils → X1, cO_emp → X2, cO_ints → X3, cO_rows → X4, cO_mvec → X5, cO_ptr → X6, cO_eptr → X7, cO_iptr → X8, cO_nilp → X9, cO_fn → Xa, cO_nilf → Xb, cO_mp → Xc, cO_nilm → Xd, cO_glob → Xe, cO_agg → Xf, partsOne → Xh, intsOf → Xi, rowsAV → Xj, evBuildSlice → Xk, evBuild → Xl, fillA → Xm, splice → Xn, evBuiltin → Xo, vcE_nil → Xp, vcE_cons → Xq, vcE_guardM → Xr, guardME_some → Xs, guardD_und → Xt, guardD_same → Xu, guardD_tf → Xv, guardD_ft → Xw, guardD_bool → Xx, dK_run → Xy, dK_none → Xz, dOp_call → XA, callA_fn → XB, dOp → XC, outA_val → XD, outA_need → XE, cl → XF, vcLoad → XG, vcStore → XH, vcMake → XI, evO_tmp → XJ, evO_int → XK, evO_bool → XL, evO_nils → XM, evO_nilp → XN, evO_nilf → XO, evO_nilm → XP, evO_str → XQ, evO_func → XR, evO_glob → XS, convA → XT, evIndexArr → XU, lookA_cons → XV, get_cons → XW, sub_cons → XX, sub_nil → XY, retK_ret → XZ, retK_normal → Y0, retA → Y1, ressA → Y2, resA → Y3, envOf → Y4, vcR_skip → Y8, vcR_seq → Y9, vcR_block → Ya, vcR_exit → Yb, vcR_ret → Yc, vcR_region → Yd, vcR_draw → Ye, vcR_cond → Yf, condR_true → Yg, condR_false → Yh, condR_bool → Yi, seqR_normal → Yj, seqR_ret → Yk, seqR_exit → Yl, asgEnv → Ym, parEnv → Yn, dstAt → Z6, sto_assoc → Z7, sto_len → Z8, sto_at → Z9, sto_at0 → Za, sto_set → Zb, sto_set0 → Zc, vcLook → Zn, vcPut → Zo, vcEnt → Zp, vcESt → Zq, vcMLen → Zr, vcDel → Zs, vcClear → Zt, vcLookD → Zu, ansL_t → Zv, ansL_f → Zw
open Go.Pa.AV renaming cell → Xg
open Go.Pa.Env renaming put → Y5
open List renaming set_cons_zero → Y6, set_cons_succ → Y7, foldl_cons → Yo, foldl_nil → Yp, map_cons → Yq, map_nil → Yr, toList_toArray → Ys, getElem?_cons_zero → Yt, getElem?_cons_succ → Yu, nil_append → Yy, append_nil → Yz, cons_append → YA, singleton_append → YB, length_cons → YC, length_nil → YD, all_cons → YE, all_nil → YF, take_succ_cons → YG, take_zero → YH, take_nil → YI, drop_zero → YJ, drop_succ_cons → YK, drop_nil → YL, contains_nil → YM, contains_cons → YN
open Option renaming bind_some → Yv, map_some → Yw, map_none → Yx
open Bool renaming or_false → YO, false_or → YP, or_true → YQ, true_or → YR, false_eq_true → Z0, not_true → Z1, not_false → Z2, and_true → Z3, true_and → Z4, and_self → Z5
open Nat renaming reduceEqDiff → YS, reduceAdd → YT, reduceSub → YU, reduceMul → YV, reduceLT → YW, reduceLeDiff → YX, reduceBNe → YY, reduceBEq → YZ, zero_add → Zf, add_zero → Zg
open UInt8 renaming reduceToNat → Zd
open Int renaming cast_ofNat_Int → Ze, reduceToNat → Zh, reduceLT → Zi, reduceLE → Zj, reduceNeg → Zk, reduceEq → Zl, reduceNe → Zm
set_option maxRecDepth 20000
set_option linter.unusedSimpArgs false

/-- Around. -/
def aroundI (a m : Int) : Int := (if a < 0 then IntKind.i64.wrap (0 - IntKind.i64.wrap (a + 1)) else a).tmod m

theorem around (a m : Int) (σ : Store) (hm : m ≠ 0) : ACalls Try.prog 12 [.int .i64 a, .int .i64 m] σ (fun r σ' => r = .int .i64 (aroundI a m) ∧ σ' = σ) := by
  refine acalls_of_vc (fn := Try.f12) Try.call12 Try.func12 rfl (by kernel_rfl) (by simp [Try.ntmps12]) ?_; simp -implicitDefEqProofs only [Try.ntmps12,Try.results12,Q0,Q1,Q2,Q3,Q4,Q5,Q6,Q7,Q8,Q9,Qa,Qb,Qc,Qd,Qe,Qf,Qg,Qh,Qi,Qj,Qk,Ql,Qm,Qn,Qo,Qp,Qq,Qr,Qs,Qt,Qu,Qv,Qw,Qx,Qy,Qz,QA,QB,QC,QD,QE,QF,QG,QH,QI,QJ,QK,QL,QM,QN,QO,QP,QQ,QR,QS,QT,QU,QV,QW,QX,QY,QZ,X0,X1,X2,X3,X4,X5,X6,X7,X8,X9,Xa,Xb,Xc,Xd,Xe,Xf,Xg,Xh,Xi,Xj,Xk,Xl,Xm,Xn,Xo,Xp,Xq,Xr,Xs,Xt,Xu,Xv,Xw,Xx,Xy,Xz,XA,XB,XC,XD,XE,XF,XG,XH,XI,XJ,XK,XL,XM,XN,XO,XP,XQ,XR,XS,XT,XU,XV,XW,XX,XY,XZ,Y0,Y1,Y2,Y3,Y4,Y5,Y6,Y7,Y8,Y9,Ya,Yb,Yc,Yd,Ye,Yf,Yg,Yh,Yi,Yj,Yk,Yl,Ym,Yn,Yo,Yp,Yq,Yr,Ys,Yt,Yu,Yv,Yw,Yx,Yy,Yz,YA,YB,YC,YD,YE,YF,YG,YH,YI,YJ,YK,YL,YM,YN,YO,YP,YQ,YR,YS,YT,YU,YV,YW,YX,YY,YZ,reduceIte,reduceCtorEq,ite_true,ite_false,if_true,if_false,Z0,Z1,Z2,Z3,Z4,Z5,and_true,true_and,and_self,true_imp_iff,false_imp_iff,eq_self,not_true_eq_false,not_false_eq_true,ne_eq,decide_true,decide_false,Z6,Z7,Z8,Z9,Za,Zb,Zc,Zd,Ze,Zf,Zg,Zh,Zi,Zj,Zk,Zl,Zm,Zn,Zo,Zp,Zq,Zr,Zs,Zt,Zu,Zv,Zw,Try.underlying3,Try.cs3,Try.bt3,Try.pa3,Try.zr3,Try.underlying4,Try.cs4,Try.bt4,Try.pa4,Try.ty4,Try.zr4]
  simp only [decide_eq_true_eq, decide_eq_false_iff_not, aroundI]
  exact ⟨fun h => ⟨hm, by rw [if_pos h]⟩, fun h => ⟨hm, by rw [if_neg h]⟩⟩

theorem aroundI_eq {a m : Int} (ha : Okk .i64 a) : aroundI a m = (if a < 0 then -a - 1 else a).tmod m := by
  have := okk_i64 ha
  unfold aroundI
  split
  · rw [wrap_i64 (n := a + 1) (by omega) (by omega), wrap_i64 (by omega) (by omega)]
    congr 1
    omega
  · rfl

theorem aroundI_bound {a m : Int} (ha : Okk .i64 a) (hm : 0 < m) : 0 ≤ aroundI a m ∧ aroundI a m < m := by
  rw [aroundI_eq ha]
  have h0 : 0 ≤ (if a < 0 then -a - 1 else a) := by split <;> omega
  generalize (if a < 0 then -a - 1 else a) = n at h0 ⊢
  rw [Int.tmod_eq_emod_of_nonneg h0]
  exact ⟨Int.emod_nonneg _ (by omega), Int.emod_lt_of_pos _ hm⟩

theorem same_ints (a b : List Int) (σ : Store) (ha : a.length < 4611686018427387904) : ACalls Try.prog 17 [.ints .i64 a, .ints .i64 b] σ (fun r σ' => r = .bool (decide (a = b)) ∧ σ' = σ) := by
  refine acalls_of_vc (fn := Try.f17) Try.call17 Try.func17 rfl (by kernel_rfl) (by simp [Try.ntmps17]) ?_; simp -implicitDefEqProofs only [Try.ntmps17,Try.results17,Q0,Q1,Q2,Q3,Q4,Q5,Q6,Q7,Q8,Q9,Qa,Qb,Qc,Qd,Qe,Qf,Qg,Qh,Qi,Qj,Qk,Ql,Qm,Qn,Qo,Qp,Qq,Qr,Qs,Qt,Qu,Qv,Qw,Qx,Qy,Qz,QA,QB,QC,QD,QE,QF,QG,QH,QI,QJ,QK,QL,QM,QN,QO,QP,QQ,QR,QS,QT,QU,QV,QW,QX,QY,QZ,X0,X1,X2,X3,X4,X5,X6,X7,X8,X9,Xa,Xb,Xc,Xd,Xe,Xf,Xg,Xh,Xi,Xj,Xk,Xl,Xm,Xn,Xo,Xp,Xq,Xr,Xs,Xt,Xu,Xv,Xw,Xx,Xy,Xz,XA,XB,XC,XD,XE,XF,XG,XH,XI,XJ,XK,XL,XM,XN,XO,XP,XQ,XR,XS,XT,XU,XV,XW,XX,XY,XZ,Y0,Y1,Y2,Y3,Y4,Y5,Y6,Y7,Y8,Y9,Ya,Yb,Yc,Yd,Ye,Yf,Yg,Yh,Yi,Yj,Yk,Yl,Ym,Yn,Yo,Yp,Yq,Yr,Ys,Yt,Yu,Yv,Yw,Yx,Yy,Yz,YA,YB,YC,YD,YE,YF,YG,YH,YI,YJ,YK,YL,YM,YN,YO,YP,YQ,YR,YS,YT,YU,YV,YW,YX,YY,YZ,reduceIte,reduceCtorEq,ite_true,ite_false,if_true,if_false,Z0,Z1,Z2,Z3,Z4,Z5,and_true,true_and,and_self,true_imp_iff,false_imp_iff,eq_self,not_true_eq_false,not_false_eq_true,ne_eq,decide_true,decide_false,Z6,Z7,Z8,Z9,Za,Zb,Zc,Zd,Ze,Zf,Zg,Zh,Zi,Zj,Zk,Zl,Zm,Zn,Zo,Zp,Zq,Zr,Zs,Zt,Zu,Zv,Zw,Try.underlying3,Try.cs3,Try.bt3,Try.pa3,Try.zr3,Try.underlying4,Try.cs4,Try.bt4,Try.pa4,Try.ty4,Try.zr4,Try.underlying22,Try.cs22,Try.bt22,Try.pa22,Try.ty22,Try.sl22,Try.zr22]
  constructor
  · intro h
    have : a ≠ b := fun e => by subst e; simp at h
    simp [this]
  · intro h
    have hl : a.length = b.length := by simp at h; omega
    refine awp_loop (fun i : Nat => [(5, .int .i64 i), (0, .ints .i64 a), (1, .ints .i64 b)]) (fun i s => s = σ ∧ i ≤ a.length ∧ a.take i = b.take i) (fun i => a.length - i) 0 (by kernel_rfl) (by simp [sub_cons, sub_nil, get_cons]) ⟨rfl, by omega, rfl⟩ ?_
    rintro i s ⟨rfl, hi, hp⟩
    simp -implicitDefEqProofs only [Q0,Q1,Q2,Q3,Q4,Q5,Q6,Q7,Q8,Q9,Qa,Qb,Qc,Qd,Qe,Qf,Qg,Qh,Qi,Qj,Qk,Ql,Qm,Qn,Qo,Qp,Qq,Qr,Qs,Qt,Qu,Qv,Qw,Qx,Qy,Qz,QA,QB,QC,QD,QE,QF,QG,QH,QI,QJ,QK,QL,QM,QN,QO,QP,QQ,QR,QS,QT,QU,QV,QW,QX,QY,QZ,X0,X1,X2,X3,X4,X5,X6,X7,X8,X9,Xa,Xb,Xc,Xd,Xe,Xf,Xg,Xh,Xi,Xj,Xk,Xl,Xm,Xn,Xo,Xp,Xq,Xr,Xs,Xt,Xu,Xv,Xw,Xx,Xy,Xz,XA,XB,XC,XD,XE,XF,XG,XH,XI,XJ,XK,XL,XM,XN,XO,XP,XQ,XR,XS,XT,XU,XV,XW,XX,XY,XZ,Y0,Y1,Y2,Y3,Y4,Y5,Y6,Y7,Y8,Y9,Ya,Yb,Yc,Yd,Ye,Yf,Yg,Yh,Yi,Yj,Yk,Yl,Ym,Yn,Yo,Yp,Yq,Yr,Ys,Yt,Yu,Yv,Yw,Yx,Yy,Yz,YA,YB,YC,YD,YE,YF,YG,YH,YI,YJ,YK,YL,YM,YN,YO,YP,YQ,YR,YS,YT,YU,YV,YW,YX,YY,YZ,reduceIte,reduceCtorEq,ite_true,ite_false,if_true,if_false,Z0,Z1,Z2,Z3,Z4,Z5,and_true,true_and,and_self,true_imp_iff,false_imp_iff,eq_self,not_true_eq_false,not_false_eq_true,ne_eq,decide_true,decide_false,Z6,Z7,Z8,Z9,Za,Zb,Zc,Zd,Ze,Zf,Zg,Zh,Zi,Zj,Zk,Zl,Zm,Zn,Zo,Zp,Zq,Zr,Zs,Zt,Zu,Zv,Zw,Try.underlying3,Try.cs3,Try.bt3,Try.pa3,Try.zr3,Try.underlying4,Try.cs4,Try.bt4,Try.pa4,Try.ty4,Try.zr4,Try.underlying22,Try.cs22,Try.bt22,Try.pa22,Try.ty22,Try.sl22,Try.zr22]
    constructor
    · intro hlt
      have hlt' : i < a.length := by simpa using hlt
      refine awp_draws [] Try.mixed (by kernel_rfl) ?_
      simp -implicitDefEqProofs only [Q0,Q1,Q2,Q3,Q4,Q5,Q6,Q7,Q8,Q9,Qa,Qb,Qc,Qd,Qe,Qf,Qg,Qh,Qi,Qj,Qk,Ql,Qm,Qn,Qo,Qp,Qq,Qr,Qs,Qt,Qu,Qv,Qw,Qx,Qy,Qz,QA,QB,QC,QD,QE,QF,QG,QH,QI,QJ,QK,QL,QM,QN,QO,QP,QQ,QR,QS,QT,QU,QV,QW,QX,QY,QZ,X0,X1,X2,X3,X4,X5,X6,X7,X8,X9,Xa,Xb,Xc,Xd,Xe,Xf,Xg,Xh,Xi,Xj,Xk,Xl,Xm,Xn,Xo,Xp,Xq,Xr,Xs,Xt,Xu,Xv,Xw,Xx,Xy,Xz,XA,XB,XC,XD,XE,XF,XG,XH,XI,XJ,XK,XL,XM,XN,XO,XP,XQ,XR,XS,XT,XU,XV,XW,XX,XY,XZ,Y0,Y1,Y2,Y3,Y4,Y5,Y6,Y7,Y8,Y9,Ya,Yb,Yc,Yd,Ye,Yf,Yg,Yh,Yi,Yj,Yk,Yl,Ym,Yn,Yo,Yp,Yq,Yr,Ys,Yt,Yu,Yv,Yw,Yx,Yy,Yz,YA,YB,YC,YD,YE,YF,YG,YH,YI,YJ,YK,YL,YM,YN,YO,YP,YQ,YR,YS,YT,YU,YV,YW,YX,YY,YZ,reduceIte,reduceCtorEq,ite_true,ite_false,if_true,if_false,Z0,Z1,Z2,Z3,Z4,Z5,and_true,true_and,and_self,true_imp_iff,false_imp_iff,eq_self,not_true_eq_false,not_false_eq_true,ne_eq,decide_true,decide_false,Z6,Z7,Z8,Z9,Za,Zb,Zc,Zd,Ze,Zf,Zg,Zh,Zi,Zj,Zk,Zl,Zm,Zn,Zo,Zp,Zq,Zr,Zs,Zt,Zu,Zv,Zw,Try.underlying3,Try.cs3,Try.bt3,Try.pa3,Try.zr3,Try.underlying4,Try.cs4,Try.bt4,Try.pa4,Try.ty4,Try.zr4,Try.underlying22,Try.cs22,Try.bt22,Try.pa22,Try.ty22,Try.sl22,Try.zr22]
      obtain ⟨q1, q2⟩ := same_round hl hlt' hp
      refine ⟨by omega, by omega, fun h => ?_, fun h => ⟨i + 1, ?_, ⟨by omega, q2 (by simpa using h)⟩, by omega⟩⟩
      · have := q1 (by simpa using h); simp [this]
      · rw [wrap_i64 (by omega) (by omega)]; simp
    · intro hge
      have := same_end hl (by simp at hge; omega) hp
      simp [this]

theorem same_bytes (a b : List Int) (σ : Store) (ha : a.length < 4611686018427387904) : ACalls Try.prog 34 [.ints .u8 a, .ints .u8 b] σ (fun r σ' => r = .bool (decide (a = b)) ∧ σ' = σ) := by
  refine acalls_of_vc (fn := Try.f34) Try.call34 Try.func34 rfl (by kernel_rfl) (by simp [Try.ntmps34]) ?_; simp -implicitDefEqProofs only [Try.ntmps34,Try.results34,Q0,Q1,Q2,Q3,Q4,Q5,Q6,Q7,Q8,Q9,Qa,Qb,Qc,Qd,Qe,Qf,Qg,Qh,Qi,Qj,Qk,Ql,Qm,Qn,Qo,Qp,Qq,Qr,Qs,Qt,Qu,Qv,Qw,Qx,Qy,Qz,QA,QB,QC,QD,QE,QF,QG,QH,QI,QJ,QK,QL,QM,QN,QO,QP,QQ,QR,QS,QT,QU,QV,QW,QX,QY,QZ,X0,X1,X2,X3,X4,X5,X6,X7,X8,X9,Xa,Xb,Xc,Xd,Xe,Xf,Xg,Xh,Xi,Xj,Xk,Xl,Xm,Xn,Xo,Xp,Xq,Xr,Xs,Xt,Xu,Xv,Xw,Xx,Xy,Xz,XA,XB,XC,XD,XE,XF,XG,XH,XI,XJ,XK,XL,XM,XN,XO,XP,XQ,XR,XS,XT,XU,XV,XW,XX,XY,XZ,Y0,Y1,Y2,Y3,Y4,Y5,Y6,Y7,Y8,Y9,Ya,Yb,Yc,Yd,Ye,Yf,Yg,Yh,Yi,Yj,Yk,Yl,Ym,Yn,Yo,Yp,Yq,Yr,Ys,Yt,Yu,Yv,Yw,Yx,Yy,Yz,YA,YB,YC,YD,YE,YF,YG,YH,YI,YJ,YK,YL,YM,YN,YO,YP,YQ,YR,YS,YT,YU,YV,YW,YX,YY,YZ,reduceIte,reduceCtorEq,ite_true,ite_false,if_true,if_false,Z0,Z1,Z2,Z3,Z4,Z5,and_true,true_and,and_self,true_imp_iff,false_imp_iff,eq_self,not_true_eq_false,not_false_eq_true,ne_eq,decide_true,decide_false,Z6,Z7,Z8,Z9,Za,Zb,Zc,Zd,Ze,Zf,Zg,Zh,Zi,Zj,Zk,Zl,Zm,Zn,Zo,Zp,Zq,Zr,Zs,Zt,Zu,Zv,Zw,Try.underlying3,Try.cs3,Try.bt3,Try.pa3,Try.zr3,Try.underlying4,Try.cs4,Try.bt4,Try.pa4,Try.ty4,Try.zr4,Try.underlying5,Try.cs5,Try.bt5,Try.pa5,Try.zr5,Try.underlying52,Try.cs52,Try.bt52,Try.pa52,Try.ty52,Try.sl52,Try.zr52]
  constructor
  · intro h
    have : a ≠ b := fun e => by subst e; simp at h
    simp [this]
  · intro h
    have hl : a.length = b.length := by simp at h; omega
    refine awp_loop (fun i : Nat => [(5, .int .i64 i), (0, .ints .u8 a), (1, .ints .u8 b)]) (fun i s => s = σ ∧ i ≤ a.length ∧ a.take i = b.take i) (fun i => a.length - i) 0 (by kernel_rfl) (by simp [sub_cons, sub_nil, get_cons]) ⟨rfl, by omega, rfl⟩ ?_
    rintro i s ⟨rfl, hi, hp⟩
    simp -implicitDefEqProofs only [Q0,Q1,Q2,Q3,Q4,Q5,Q6,Q7,Q8,Q9,Qa,Qb,Qc,Qd,Qe,Qf,Qg,Qh,Qi,Qj,Qk,Ql,Qm,Qn,Qo,Qp,Qq,Qr,Qs,Qt,Qu,Qv,Qw,Qx,Qy,Qz,QA,QB,QC,QD,QE,QF,QG,QH,QI,QJ,QK,QL,QM,QN,QO,QP,QQ,QR,QS,QT,QU,QV,QW,QX,QY,QZ,X0,X1,X2,X3,X4,X5,X6,X7,X8,X9,Xa,Xb,Xc,Xd,Xe,Xf,Xg,Xh,Xi,Xj,Xk,Xl,Xm,Xn,Xo,Xp,Xq,Xr,Xs,Xt,Xu,Xv,Xw,Xx,Xy,Xz,XA,XB,XC,XD,XE,XF,XG,XH,XI,XJ,XK,XL,XM,XN,XO,XP,XQ,XR,XS,XT,XU,XV,XW,XX,XY,XZ,Y0,Y1,Y2,Y3,Y4,Y5,Y6,Y7,Y8,Y9,Ya,Yb,Yc,Yd,Ye,Yf,Yg,Yh,Yi,Yj,Yk,Yl,Ym,Yn,Yo,Yp,Yq,Yr,Ys,Yt,Yu,Yv,Yw,Yx,Yy,Yz,YA,YB,YC,YD,YE,YF,YG,YH,YI,YJ,YK,YL,YM,YN,YO,YP,YQ,YR,YS,YT,YU,YV,YW,YX,YY,YZ,reduceIte,reduceCtorEq,ite_true,ite_false,if_true,if_false,Z0,Z1,Z2,Z3,Z4,Z5,and_true,true_and,and_self,true_imp_iff,false_imp_iff,eq_self,not_true_eq_false,not_false_eq_true,ne_eq,decide_true,decide_false,Z6,Z7,Z8,Z9,Za,Zb,Zc,Zd,Ze,Zf,Zg,Zh,Zi,Zj,Zk,Zl,Zm,Zn,Zo,Zp,Zq,Zr,Zs,Zt,Zu,Zv,Zw,Try.underlying3,Try.cs3,Try.bt3,Try.pa3,Try.zr3,Try.underlying4,Try.cs4,Try.bt4,Try.pa4,Try.ty4,Try.zr4,Try.underlying5,Try.cs5,Try.bt5,Try.pa5,Try.zr5,Try.underlying52,Try.cs52,Try.bt52,Try.pa52,Try.ty52,Try.sl52,Try.zr52]
    constructor
    · intro hlt
      have hlt' : i < a.length := by simpa using hlt
      refine awp_draws [] Try.mixed (by kernel_rfl) ?_
      simp -implicitDefEqProofs only [Q0,Q1,Q2,Q3,Q4,Q5,Q6,Q7,Q8,Q9,Qa,Qb,Qc,Qd,Qe,Qf,Qg,Qh,Qi,Qj,Qk,Ql,Qm,Qn,Qo,Qp,Qq,Qr,Qs,Qt,Qu,Qv,Qw,Qx,Qy,Qz,QA,QB,QC,QD,QE,QF,QG,QH,QI,QJ,QK,QL,QM,QN,QO,QP,QQ,QR,QS,QT,QU,QV,QW,QX,QY,QZ,X0,X1,X2,X3,X4,X5,X6,X7,X8,X9,Xa,Xb,Xc,Xd,Xe,Xf,Xg,Xh,Xi,Xj,Xk,Xl,Xm,Xn,Xo,Xp,Xq,Xr,Xs,Xt,Xu,Xv,Xw,Xx,Xy,Xz,XA,XB,XC,XD,XE,XF,XG,XH,XI,XJ,XK,XL,XM,XN,XO,XP,XQ,XR,XS,XT,XU,XV,XW,XX,XY,XZ,Y0,Y1,Y2,Y3,Y4,Y5,Y6,Y7,Y8,Y9,Ya,Yb,Yc,Yd,Ye,Yf,Yg,Yh,Yi,Yj,Yk,Yl,Ym,Yn,Yo,Yp,Yq,Yr,Ys,Yt,Yu,Yv,Yw,Yx,Yy,Yz,YA,YB,YC,YD,YE,YF,YG,YH,YI,YJ,YK,YL,YM,YN,YO,YP,YQ,YR,YS,YT,YU,YV,YW,YX,YY,YZ,reduceIte,reduceCtorEq,ite_true,ite_false,if_true,if_false,Z0,Z1,Z2,Z3,Z4,Z5,and_true,true_and,and_self,true_imp_iff,false_imp_iff,eq_self,not_true_eq_false,not_false_eq_true,ne_eq,decide_true,decide_false,Z6,Z7,Z8,Z9,Za,Zb,Zc,Zd,Ze,Zf,Zg,Zh,Zi,Zj,Zk,Zl,Zm,Zn,Zo,Zp,Zq,Zr,Zs,Zt,Zu,Zv,Zw,Try.underlying3,Try.cs3,Try.bt3,Try.pa3,Try.zr3,Try.underlying4,Try.cs4,Try.bt4,Try.pa4,Try.ty4,Try.zr4,Try.underlying5,Try.cs5,Try.bt5,Try.pa5,Try.zr5,Try.underlying52,Try.cs52,Try.bt52,Try.pa52,Try.ty52,Try.sl52,Try.zr52]
      obtain ⟨q1, q2⟩ := same_round hl hlt' hp
      refine ⟨by omega, by omega, fun h => ?_, fun h => ⟨i + 1, ?_, ⟨by omega, q2 (by simpa using h)⟩, by omega⟩⟩
      · have := q1 (by simpa using h); simp [this]
      · rw [wrap_i64 (by omega) (by omega)]; simp
    · intro hge
      have := same_end hl (by simp at hge; omega) hp
      simp [this]

theorem ref_few (l : List Int) (m : Int) (σ : Store) (hm : 0 ≤ m) (hm' : m < 1000000) : ACalls Try.prog 37 [.ints .u8 l, .int .i64 m] σ (FreshI σ .u8 (l.take m.toNat)) := by
  refine ACalls.fresh ?_
  refine acalls_of_vc (fn := Try.f37) Try.call37 Try.func37 rfl (by kernel_rfl) (by simp [Try.ntmps37]) ?_; simp -implicitDefEqProofs only [Try.ntmps37,Try.results37,Q0,Q1,Q2,Q3,Q4,Q5,Q6,Q7,Q8,Q9,Qa,Qb,Qc,Qd,Qe,Qf,Qg,Qh,Qi,Qj,Qk,Ql,Qm,Qn,Qo,Qp,Qq,Qr,Qs,Qt,Qu,Qv,Qw,Qx,Qy,Qz,QA,QB,QC,QD,QE,QF,QG,QH,QI,QJ,QK,QL,QM,QN,QO,QP,QQ,QR,QS,QT,QU,QV,QW,QX,QY,QZ,X0,X1,X2,X3,X4,X5,X6,X7,X8,X9,Xa,Xb,Xc,Xd,Xe,Xf,Xg,Xh,Xi,Xj,Xk,Xl,Xm,Xn,Xo,Xp,Xq,Xr,Xs,Xt,Xu,Xv,Xw,Xx,Xy,Xz,XA,XB,XC,XD,XE,XF,XG,XH,XI,XJ,XK,XL,XM,XN,XO,XP,XQ,XR,XS,XT,XU,XV,XW,XX,XY,XZ,Y0,Y1,Y2,Y3,Y4,Y5,Y6,Y7,Y8,Y9,Ya,Yb,Yc,Yd,Ye,Yf,Yg,Yh,Yi,Yj,Yk,Yl,Ym,Yn,Yo,Yp,Yq,Yr,Ys,Yt,Yu,Yv,Yw,Yx,Yy,Yz,YA,YB,YC,YD,YE,YF,YG,YH,YI,YJ,YK,YL,YM,YN,YO,YP,YQ,YR,YS,YT,YU,YV,YW,YX,YY,YZ,reduceIte,reduceCtorEq,ite_true,ite_false,if_true,if_false,Z0,Z1,Z2,Z3,Z4,Z5,and_true,true_and,and_self,true_imp_iff,false_imp_iff,eq_self,not_true_eq_false,not_false_eq_true,ne_eq,decide_true,decide_false,Z6,Z7,Z8,Z9,Za,Zb,Zc,Zd,Ze,Zf,Zg,Zh,Zi,Zj,Zk,Zl,Zm,Zn,Zo,Zp,Zq,Zr,Zs,Zt,Zu,Zv,Zw,Try.underlying3,Try.cs3,Try.bt3,Try.pa3,Try.zr3,Try.underlying5,Try.cs5,Try.bt5,Try.pa5,Try.zr5,Try.underlying52,Try.cs52,Try.bt52,Try.pa52,Try.ty52,Try.sl52,Try.zr52]
  have hn : (min (l.length : Int) m).toNat = min l.length m.toNat := by omega
  have ht : l.take (min l.length m.toNat) = l.take m.toNat := by rw [List.take_eq_take_iff]; omega
  rw [hn, Nat.sub_zero, ht]
  refine ⟨by omega, append_buf Try.sl52 (by simp [Try.bt5]) (.refl _) .nil (.inl rfl) (by simp only [appFits, Try.bt5, List.length_take, List.length_nil]; omega) fun r2 s2 hx2 hb2 => ?_⟩
  simp -implicitDefEqProofs only [Q0,Q1,Q2,Q3,Q4,Q5,Q6,Q7,Q8,Q9,Qa,Qb,Qc,Qd,Qe,Qf,Qg,Qh,Qi,Qj,Qk,Ql,Qm,Qn,Qo,Qp,Qq,Qr,Qs,Qt,Qu,Qv,Qw,Qx,Qy,Qz,QA,QB,QC,QD,QE,QF,QG,QH,QI,QJ,QK,QL,QM,QN,QO,QP,QQ,QR,QS,QT,QU,QV,QW,QX,QY,QZ,X0,X1,X2,X3,X4,X5,X6,X7,X8,X9,Xa,Xb,Xc,Xd,Xe,Xf,Xg,Xh,Xi,Xj,Xk,Xl,Xm,Xn,Xo,Xp,Xq,Xr,Xs,Xt,Xu,Xv,Xw,Xx,Xy,Xz,XA,XB,XC,XD,XE,XF,XG,XH,XI,XJ,XK,XL,XM,XN,XO,XP,XQ,XR,XS,XT,XU,XV,XW,XX,XY,XZ,Y0,Y1,Y2,Y3,Y4,Y5,Y6,Y7,Y8,Y9,Ya,Yb,Yc,Yd,Ye,Yf,Yg,Yh,Yi,Yj,Yk,Yl,Ym,Yn,Yo,Yp,Yq,Yr,Ys,Yt,Yu,Yv,Yw,Yx,Yy,Yz,YA,YB,YC,YD,YE,YF,YG,YH,YI,YJ,YK,YL,YM,YN,YO,YP,YQ,YR,YS,YT,YU,YV,YW,YX,YY,YZ,reduceIte,reduceCtorEq,ite_true,ite_false,if_true,if_false,Z0,Z1,Z2,Z3,Z4,Z5,and_true,true_and,and_self,true_imp_iff,false_imp_iff,eq_self,not_true_eq_false,not_false_eq_true,ne_eq,decide_true,decide_false,Z6,Z7,Z8,Z9,Za,Zb,Zc,Zd,Ze,Zf,Zg,Zh,Zi,Zj,Zk,Zl,Zm,Zn,Zo,Zp,Zq,Zr,Zs,Zt,Zu,Zv,Zw,Try.underlying3,Try.cs3,Try.bt3,Try.pa3,Try.zr3,Try.underlying5,Try.cs5,Try.bt5,Try.pa5,Try.zr5,Try.underlying52,Try.cs52,Try.bt52,Try.pa52,Try.ty52,Try.sl52,Try.zr52]
  exact ⟨hx2, by simpa using hb2⟩

def mixR (s w : Int) : Int := ixor .u64 (IntKind.u64.wrap (ixor .u64 s w * 11400714819323198485)) (IntKind.u64.wrap ((IntKind.u64.wrap (ixor .u64 s w * 11400714819323198485)).tdiv 4294967296))

def mixI (s w : Int) : Int := ixor .u64 (IntKind.u64.wrap (ixor .u64 s w * 11400714819323198485)) (ishr .u64 (IntKind.u64.wrap (ixor .u64 s w * 11400714819323198485)) 32)

/-- Little-endian. -/
def leI : List Int → Int
  | [] => 0
  | x :: xs => 256 * leI xs + x

theorem leI_bound : ∀ (l : List Int), U8s l → 0 ≤ leI l ∧ leI l < 256 ^ l.length
  | [], _ => by simp [leI]
  | x :: xs, h => by
    have h1 := leI_bound xs fun y hy => h y (List.mem_cons_of_mem _ hy)
    have h2 := h x (by simp)
    simp only [leI, List.length_cons, Int.pow_succ]
    omega

def wordAt (l : List Int) (j : Nat) : Int := leI ((l.drop (8 * j)).take 8)

def wordsI (l : List Int) : List Int := (List.range ((l.length + 7) / 8)).map (wordAt l)

theorem leI_step (l : List Int) {hi d : Nat} (hd : d < hi) (hh : hi ≤ l.length) : leI ((l.drop (hi - (d + 1))).take (d + 1)) = 256 * leI ((l.drop (hi - d)).take d) + l.getD (hi - (d + 1)) 0 := by
  have hlt : hi - (d + 1) < l.length := by omega
  rw [List.drop_eq_getElem_cons hlt, List.take_succ_cons, leI, getD_get hlt]
  have : hi - (d + 1) + 1 = hi - d := by omega
  rw [this]

theorem U8s_part {l : List Int} (h : U8s l) (a n : Nat) : U8s ((l.drop a).take n) := fun x hx => h x (List.mem_of_mem_drop (List.mem_of_mem_take hx))

theorem leI_small {l : List Int} (h : U8s l) (hl : l.length ≤ 8) : 0 ≤ leI l ∧ leI l < 18446744073709551616 := by
  obtain ⟨h1, h2⟩ := leI_bound l h
  refine ⟨h1, Int.lt_of_lt_of_le h2 ?_⟩
  have h3 := Nat.pow_le_pow_right (n := 256) (by omega) hl
  have h4 : ((256 ^ l.length : Nat) : Int) = (256 : Int) ^ l.length := by simp [Int.natCast_pow]
  rw [← h4]
  omega

theorem wordsI_length (l : List Int) : (wordsI l).length = (l.length + 7) / 8 := by simp [wordsI]

/-- The reference's sum. -/
def sumR (a l : List Int) : Int :=
  mixR (l.foldl (fun s x => mixR s (IntKind.u64.wrap x)) (mixR (mixR ((wordsI a).foldl mixR 0) (IntKind.u64.wrap a.length)) (IntKind.u64.wrap l.length))) 0

def bytesR (a b : List Int) : Int := sumR a ((wordsI b).map IntKind.i64.wrap ++ [(b.length : Int)])

def pairR (x y : Int) : Int := sumR [112, 97, 105, 114] [IntKind.i64.wrap x, IntKind.i64.wrap y]
end Go.Proofs
