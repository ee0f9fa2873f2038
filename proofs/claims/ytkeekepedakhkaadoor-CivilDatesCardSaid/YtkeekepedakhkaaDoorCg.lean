/-
  Months and years: plain laws; CivilMonths, CivilYears: contracts.
-/
import Derived.Test.YtkeekepedakhkaaDoorCf
namespace Go.Proofs
open Go.Pa
open Go.Pa renaming vc_seq → Q0, vc_block → Q1, vc_exit → Q2, vc_ret → Q3, vc_skip → Q4, vc_region → Q5, vc_draw → Q6, vc_loop → Q7, vc_range → Q8, vc_cond → Q9, condV_true → Qa, condV_false → Qb, condV_bool → Qc, seqK_normal → Qd, seqK_ret → Qe, seqK_exit → Qf, blkK_normal → Qg, blkK_ret → Qh, blkK_exit → Qi, loopK_ret → Qj, loopK_exit → Qk, loopK_normal → Ql, vcOps_nil → Qm, vcOps_cons → Qn, vcOps_guardM → Qo, guardM_some → Qp, guardV_und → Qq, guardV_same → Qr, guardV_tf → Qs, guardV_ft → Qt, guardV_bool → Qu, vcOp_out → Qv, outV_val → Qw, outV_need → Qx, outV_no → Qy, opK_run → Qz, opK_none → QA, vcS → QB, evA → QC, evBin → QD, nilA → QE, nilOf → QF, intOp → QG, strOp → QH, evUn → QI, evConv → QJ, evField → QK, evFieldAddr → QL, evIndexAddr → QM, evIndex → QN, bnd → QO, evSlice → QP, evLen → QQ, evPick → QR, evExtract → QS, evNilCheck → QT, evMin → QU, evMax → QV, evLoadI → QW, cO_int → QX, cO_bool → QY, cO_str → QZ, cO_nils → X0, cO_emp → X1, cO_ints → X2, cO_rows → X3, cO_mvec → X4, cO_ptr → X5, cO_eptr → X6, cO_iptr → X7, cO_nilp → X8, cO_fn → X9, cO_nilf → Xa, cO_mp → Xb, cO_nilm → Xc, cO_glob → Xd, cO_agg → Xe, partsOne → Xg, intsOf → Xh, rowsAV → Xi, evBuildSlice → Xj, evBuild → Xk, fillA → Xl, splice → Xm, evBuiltin → Xn, vcE_nil → Xo, vcE_cons → Xp, vcE_guardM → Xq, guardME_some → Xr, guardD_und → Xs, guardD_same → Xt, guardD_tf → Xu, guardD_ft → Xv, guardD_bool → Xw, dK_run → Xx, dK_none → Xy, dOp_call → Xz, callA_fn → XA, dOp → XB, outA_val → XC, outA_need → XD, cl → XE, vcLoad → XF, vcStore → XG, vcMake → XH, evO_tmp → XI, evO_int → XJ, evO_bool → XK, evO_nils → XL, evO_nilp → XM, evO_nilf → XN, evO_nilm → XO, evO_str → XP, evO_func → XQ, evO_glob → XR, convA → XS, evIndexArr → XT, lookA_cons → XU, get_cons → XV, sub_cons → XW, sub_nil → XX, retK_ret → XY, retK_normal → XZ, retA → Y0, ressA → Y1, resA → Y2, envOf → Y3, vcR_skip → Y7, vcR_seq → Y8, vcR_block → Y9, vcR_exit → Ya, vcR_ret → Yb, vcR_region → Yc, vcR_draw → Yd, vcR_cond → Ye, condR_true → Yf, condR_false → Yg, condR_bool → Yh, seqR_normal → Yi, seqR_ret → Yj, seqR_exit → Yk, asgEnv → Yl, parEnv → Ym, dstAt → Z5, sto_assoc → Z6, sto_len → Z7, sto_at → Z8, sto_at0 → Z9, sto_set → Za, sto_set0 → Zb
open Go.Pa.AV renaming cell → Xf
open Go.Pa.Env renaming put → Y4
open List renaming set_cons_zero → Y5, set_cons_succ → Y6, foldl_cons → Yn, foldl_nil → Yo, map_cons → Yp, map_nil → Yq, toList_toArray → Yr, getElem?_cons_zero → Ys, getElem?_cons_succ → Yt, nil_append → Yx, append_nil → Yy, cons_append → Yz, singleton_append → YA, length_cons → YB, length_nil → YC, all_cons → YD, all_nil → YE, take_succ_cons → YF, take_zero → YG, take_nil → YH, drop_zero → YI, drop_succ_cons → YJ, drop_nil → YK, contains_nil → YL, contains_cons → YM
open Option renaming bind_some → Yu, map_some → Yv, map_none → Yw
open Bool renaming or_false → YN, false_or → YO, or_true → YP, true_or → YQ, false_eq_true → YZ, not_true → Z0, not_false → Z1, and_true → Z2, true_and → Z3, and_self → Z4
open Nat renaming reduceEqDiff → YR, reduceAdd → YS, reduceSub → YT, reduceMul → YU, reduceLT → YV, reduceLeDiff → YW, reduceBNe → YX, reduceBEq → YY, zero_add → Ze, add_zero → Zf
open UInt8 renaming reduceToNat → Zc
open Int renaming cast_ofNat_Int → Zd, reduceToNat → Zg, reduceLT → Zh, reduceLE → Zi, reduceNeg → Zj, reduceEq → Zk, reduceNe → Zl
set_option linter.unusedSimpArgs false
set_option maxRecDepth 20000
set_option maxHeartbeats 2000000

/-- The first day of a month that is counted from the year 0 on. -/
def firI (t : Int) : Int := befI (t / 12) - 693595 + cumI (t / 12) (t % 12).toNat
def lenM (t : Int) : Int := lenI (t / 12) (t % 12 + 1)

theorem fir_step {t : Int} (h : 12 ≤ t) : firI (t + 1) = firI t + lenM t := by
  unfold firI lenM
  by_cases h11 : t % 12 < 11
  · have e1 : (t + 1) / 12 = t / 12 := by omega
    have e2 : ((t + 1) % 12).toNat = (t % 12).toNat + 1 := by omega
    have e3 : (((t % 12).toNat : Nat) : Int) = t % 12 := by omega
    rw [e1, e2, cum_step, e3]
    omega
  · have e1 : (t + 1) / 12 = t / 12 + 1 := by omega
    have e2 : ((t + 1) % 12).toNat = 0 := by omega
    have e3 : (t % 12).toNat = 11 := by omega
    have e4 : t % 12 + 1 = ((11 : Nat) : Int) + 1 := by omega
    have h1 : cumI (t / 12) 12 = cumI (t / 12) 11 + lenI (t / 12) (((11 : Nat) : Int) + 1) := cum_step (t / 12) 11
    have h2 := cum12 (t / 12)
    rw [e1, e2, e3, e4, bef_step (by omega)]
    have h0 : cumI (t / 12 + 1) 0 = 0 := rfl
    rw [h0]
    omega

theorem lenM_bounds (t : Int) : 28 ≤ lenM t ∧ lenM t ≤ 31 := len_bounds _ _

theorem fir_le {t : Int} (h : 12 ≤ t) (k : Nat) : firI t + 28 * k ≤ firI (t + k) ∧ firI (t + k) ≤ firI t + 31 * k := by
  induction k with
  | zero => simp
  | succ k ih =>
    have h1 := fir_step (t := t + k) (by omega)
    have h2 := lenM_bounds (t + k)
    have e : t + ((k + 1 : Nat) : Int) = t + k + 1 := by omega
    rw [e]
    omega

theorem fir_lt {t u : Int} (h : 12 ≤ t) (hu : t < u) : firI t + lenM t + 28 * (u - t - 1) ≤ firI u := by
  have h1 := fir_step h
  have h2 := (fir_le (t := t + 1) (by omega) (u - t - 1).toNat).1
  have e : t + 1 + ((u - t - 1).toNat : Int) = u := by omega
  rw [e] at h2
  omega

def Dt.t (x : Dt) : Int := 12 * x.y + x.m - 1
theorem num_fir {x : Dt} (h : VDt x) : numD x = firI x.t + x.d - 1 ∧ 12 ≤ x.t ∧ 1 ≤ x.d ∧ x.d ≤ lenM x.t := by
  obtain ⟨⟨h1, h2, h3, h4⟩, h5⟩ := h
  unfold numD numI firI lenM Dt.t
  have e1 : (12 * x.y + x.m - 1) / 12 = x.y := by omega
  have e2 : (12 * x.y + x.m - 1) % 12 = x.m - 1 := by omega
  have e3 : (x.m - 1).toNat = x.m.toNat - 1 := by omega
  have e4 : x.m - 1 + 1 = x.m := by omega
  rw [e1, e2, e3, e4]
  refine ⟨by omega, by omega, h3, h4⟩

theorem add_fir {x : Dt} (h : VDt x) {k : Int} (hk : 0 ≤ k) : VDt (addD x k) ∧ numD (addD x k) = firI (x.t + k) + min x.d (lenM (x.t + k)) - 1 := by
  have hv : VDt (addD x k) := by
    obtain ⟨⟨h1, h2, h3, h4⟩, h5⟩ := h
    have hl := len_bounds ((12 * x.y + x.m - 1 + k) / 12) ((12 * x.y + x.m - 1 + k) % 12 + 1)
    refine ⟨⟨?_, ?_, ?_, ?_⟩, ?_⟩ <;> simp only [addD] <;> omega
  have h1 := (num_fir hv).1
  have e : (addD x k).t = x.t + k := by simp only [addD, Dt.t]; omega
  rw [e] at h1
  exact ⟨hv, h1⟩

theorem add_low {x : Dt} (h : VDt x) {k : Int} (hk : 0 ≤ k) : numD x + 28 * k ≤ numD (addD x k) ∧ numD (addD x k) ≤ numD x + 31 * k := by
  obtain ⟨h1, h2, h3, h4⟩ := num_fir h
  have h5 := (add_fir h hk).2
  have h6 := lenM_bounds (x.t + k)
  have h7 := fir_le h2 k.toNat
  rw [Int.toNat_of_nonneg hk] at h7
  rcases Int.lt_or_le 0 k with h0 | h0
  · have h8 := fir_lt h2 (show x.t < x.t + k by omega)
    omega
  · have : k = 0 := by omega
    subst this
    simp only [Int.add_zero] at *
    omega

theorem add_more {x : Dt} (h : VDt x) {k j : Int} (hk : 0 ≤ k) (hj : 0 ≤ j) : numD (addD x k) ≤ numD (addD x (k + j)) := by
  obtain ⟨h1, h2, h3, h4⟩ := num_fir h
  have h5 := (add_fir h hk).2
  have h6 := (add_fir h (show 0 ≤ k + j by omega)).2
  have h7 := lenM_bounds (x.t + k)
  have h8 := lenM_bounds (x.t + (k + j))
  rcases Int.lt_or_le 0 j with h0 | h0
  · have h9 := fir_lt (show 12 ≤ x.t + k by omega) (show x.t + k < x.t + (k + j) by omega)
    omega
  · have : j = 0 := by omega
    subst this
    simp only [Int.add_zero]
    omega

theorem add_later {x y : Dt} (h : VDt x) (h' : VDt y) (hlt : numD x < numD y) {k : Int} (hk : 0 ≤ k) : numD (addD x k) ≤ numD (addD y k) := by
  obtain ⟨h1, h2, h3, h4⟩ := num_fir h
  obtain ⟨g1, g2, g3, g4⟩ := num_fir h'
  have h5 := (add_fir h hk).2
  have h6 := (add_fir h' hk).2
  have h7 := lenM_bounds (x.t + k)
  have h8 := lenM_bounds (y.t + k)
  rcases Int.lt_or_le x.t y.t with h0 | h0
  · have h9 := fir_lt (show 12 ≤ x.t + k by omega) (show x.t + k < y.t + k by omega)
    omega
  · rcases Int.lt_or_le y.t x.t with h9 | h9
    · have := fir_lt g2 h9
      omega
    · have e : x.t = y.t := by omega
      have e1 : firI x.t = firI y.t := by rw [e]
      have e2 : firI (x.t + k) = firI (y.t + k) := by rw [e]
      have e3 : lenM (x.t + k) = lenM (y.t + k) := by rw [e]
      omega

theorem add_twice {x : Dt} (h : VDt x) (hd : x.d ≤ 28) {k j : Int} (hk : 0 ≤ k) : addD (addD x k) j = addD x (k + j) := by
  have hl := len_bounds ((12 * x.y + x.m - 1 + k) / 12) ((12 * x.y + x.m - 1 + k) % 12 + 1)
  have e1 : 12 * ((12 * x.y + x.m - 1 + k) / 12) + ((12 * x.y + x.m - 1 + k) % 12 + 1) - 1 + j = 12 * x.y + x.m - 1 + (k + j) := by omega
  have e2 : min x.d (lenI ((12 * x.y + x.m - 1 + k) / 12) ((12 * x.y + x.m - 1 + k) % 12 + 1)) = x.d := by omega
  simp only [addD]
  rw [e1, e2]

theorem addI_ok {n k : Int} (h0 : 0 ≤ n) (h1 : n ≤ 131072) (k0 : 0 ≤ k) (k1 : k ≤ 12000) (h : numD (addD (dateI n) k) ≤ 131072) : addI n k = (numD (addD (dateI n) k), 0) := by
  unfold addI
  rw [if_pos ⟨h0, h1⟩, if_pos ⟨k0, k1⟩, if_pos h]
theorem addI_far {n k : Int} (h0 : 0 ≤ n) (h1 : n ≤ 131072) (k0 : 0 ≤ k) (k1 : k ≤ 12000) (h : ¬ numD (addD (dateI n) k) ≤ 131072) : addI n k = (0, 5) := by
  unfold addI
  rw [if_pos ⟨h0, h1⟩, if_pos ⟨k0, k1⟩, if_neg h]

theorem law_CivilMonths (l : List Int) (hl : ∀ x ∈ l, Okk .i64 x) (_ : l.length ≤ 9223372036854775807) (a : Int) (ha : Okk .i64 a) (b : Int) (hb : Okk .i64 b) :
    ACalls Tryd.prog 5 [.ints .i64 l, .int .i64 a, .int .i64 b] [] (fun r _ => r = .bool true) := by
  have hdl := daysL_len l 12
  have hdk := daysL_ok hl 12
  have aa := aroundI_bound (m := 400) ha (by omega)
  have ab := aroundI_bound (m := 400) hb (by omega)
  refine acalls_of_vc (fn := Tryd.f5) Tryd.call5 Tryd.func5 rfl (by kernel_rfl) (by simp [Tryd.ntmps5]) ?_; simp -implicitDefEqProofs only [Tryd.ntmps5,Tryd.results5,Q0,Q1,Q2,Q3,Q4,Q5,Q6,Q7,Q8,Q9,Qa,Qb,Qc,Qd,Qe,Qf,Qg,Qh,Qi,Qj,Qk,Ql,Qm,Qn,Qo,Qp,Qq,Qr,Qs,Qt,Qu,Qv,Qw,Qx,Qy,Qz,QA,QB,QC,QD,QE,QF,QG,QH,QI,QJ,QK,QL,QM,QN,QO,QP,QQ,QR,QS,QT,QU,QV,QW,QX,QY,QZ,X0,X1,X2,X3,X4,X5,X6,X7,X8,X9,Xa,Xb,Xc,Xd,Xe,Xf,Xg,Xh,Xi,Xj,Xk,Xl,Xm,Xn,Xo,Xp,Xq,Xr,Xs,Xt,Xu,Xv,Xw,Xx,Xy,Xz,XA,XB,XC,XD,XE,XF,XG,XH,XI,XJ,XK,XL,XM,XN,XO,XP,XQ,XR,XS,XT,XU,XV,XW,XX,XY,XZ,Y0,Y1,Y2,Y3,Y4,Y5,Y6,Y7,Y8,Y9,Ya,Yb,Yc,Yd,Ye,Yf,Yg,Yh,Yi,Yj,Yk,Yl,Ym,Yn,Yo,Yp,Yq,Yr,Ys,Yt,Yu,Yv,Yw,Yx,Yy,Yz,YA,YB,YC,YD,YE,YF,YG,YH,YI,YJ,YK,YL,YM,YN,YO,YP,YQ,YR,YS,YT,YU,YV,YW,YX,YY,reduceIte,reduceCtorEq,ite_true,ite_false,if_true,if_false,YZ,Z0,Z1,Z2,Z3,Z4,and_true,true_and,and_self,true_imp_iff,false_imp_iff,eq_self,not_true_eq_false,not_false_eq_true,ne_eq,decide_true,decide_false,Z5,Z6,Z7,Z8,Z9,Za,Zb,Zc,Zd,Ze,Zf,Zg,Zh,Zi,Zj,Zk,Zl,Tryd.underlying3,Tryd.cs3,Tryd.bt3,Tryd.pa3,Tryd.zr3,Tryd.underlying4,Tryd.cs4,Tryd.bt4,Tryd.pa4,Tryd.ty4,Tryd.zr4,Tryd.underlying22,Tryd.cs22,Tryd.bt22,Tryd.pa22,Tryd.ty22,Tryd.sl22,Tryd.zr22,Tryd.underlying24,Tryd.cs24,Tryd.bt24,Tryd.pa24,Tryd.ty24,Tryd.zr24,Tryd.pl24,Tryd.eq24,Tryd.fd24_0,Tryd.fd24_1,Tryd.fd24_2,Tryd.underlying27,Tryd.cs27,Tryd.bt27,Tryd.pa27,Tryd.zr27]
  refine acalls_then (ACalls.freshFrozen (l_days l _)) ?_
  simp -implicitDefEqProofs only [Q0,Q1,Q2,Q3,Q4,Q5,Q6,Q7,Q8,Q9,Qa,Qb,Qc,Qd,Qe,Qf,Qg,Qh,Qi,Qj,Qk,Ql,Qm,Qn,Qo,Qp,Qq,Qr,Qs,Qt,Qu,Qv,Qw,Qx,Qy,Qz,QA,QB,QC,QD,QE,QF,QG,QH,QI,QJ,QK,QL,QM,QN,QO,QP,QQ,QR,QS,QT,QU,QV,QW,QX,QY,QZ,X0,X1,X2,X3,X4,X5,X6,X7,X8,X9,Xa,Xb,Xc,Xd,Xe,Xf,Xg,Xh,Xi,Xj,Xk,Xl,Xm,Xn,Xo,Xp,Xq,Xr,Xs,Xt,Xu,Xv,Xw,Xx,Xy,Xz,XA,XB,XC,XD,XE,XF,XG,XH,XI,XJ,XK,XL,XM,XN,XO,XP,XQ,XR,XS,XT,XU,XV,XW,XX,XY,XZ,Y0,Y1,Y2,Y3,Y4,Y5,Y6,Y7,Y8,Y9,Ya,Yb,Yc,Yd,Ye,Yf,Yg,Yh,Yi,Yj,Yk,Yl,Ym,Yn,Yo,Yp,Yq,Yr,Ys,Yt,Yu,Yv,Yw,Yx,Yy,Yz,YA,YB,YC,YD,YE,YF,YG,YH,YI,YJ,YK,YL,YM,YN,YO,YP,YQ,YR,YS,YT,YU,YV,YW,YX,YY,reduceIte,reduceCtorEq,ite_true,ite_false,if_true,if_false,YZ,Z0,Z1,Z2,Z3,Z4,and_true,true_and,and_self,true_imp_iff,false_imp_iff,eq_self,not_true_eq_false,not_false_eq_true,ne_eq,decide_true,decide_false,Z5,Z6,Z7,Z8,Z9,Za,Zb,Zc,Zd,Ze,Zf,Zg,Zh,Zi,Zj,Zk,Zl,Tryd.underlying3,Tryd.cs3,Tryd.bt3,Tryd.pa3,Tryd.zr3,Tryd.underlying4,Tryd.cs4,Tryd.bt4,Tryd.pa4,Tryd.ty4,Tryd.zr4,Tryd.underlying22,Tryd.cs22,Tryd.bt22,Tryd.pa22,Tryd.ty22,Tryd.sl22,Tryd.zr22,Tryd.underlying24,Tryd.cs24,Tryd.bt24,Tryd.pa24,Tryd.ty24,Tryd.zr24,Tryd.pl24,Tryd.eq24,Tryd.fd24_0,Tryd.fd24_1,Tryd.fd24_2,Tryd.underlying27,Tryd.cs27,Tryd.bt27,Tryd.pa27,Tryd.zr27]
  refine acalls_then (around a 400 _ (by omega)) ?_
  simp -implicitDefEqProofs only [Q0,Q1,Q2,Q3,Q4,Q5,Q6,Q7,Q8,Q9,Qa,Qb,Qc,Qd,Qe,Qf,Qg,Qh,Qi,Qj,Qk,Ql,Qm,Qn,Qo,Qp,Qq,Qr,Qs,Qt,Qu,Qv,Qw,Qx,Qy,Qz,QA,QB,QC,QD,QE,QF,QG,QH,QI,QJ,QK,QL,QM,QN,QO,QP,QQ,QR,QS,QT,QU,QV,QW,QX,QY,QZ,X0,X1,X2,X3,X4,X5,X6,X7,X8,X9,Xa,Xb,Xc,Xd,Xe,Xf,Xg,Xh,Xi,Xj,Xk,Xl,Xm,Xn,Xo,Xp,Xq,Xr,Xs,Xt,Xu,Xv,Xw,Xx,Xy,Xz,XA,XB,XC,XD,XE,XF,XG,XH,XI,XJ,XK,XL,XM,XN,XO,XP,XQ,XR,XS,XT,XU,XV,XW,XX,XY,XZ,Y0,Y1,Y2,Y3,Y4,Y5,Y6,Y7,Y8,Y9,Ya,Yb,Yc,Yd,Ye,Yf,Yg,Yh,Yi,Yj,Yk,Yl,Ym,Yn,Yo,Yp,Yq,Yr,Ys,Yt,Yu,Yv,Yw,Yx,Yy,Yz,YA,YB,YC,YD,YE,YF,YG,YH,YI,YJ,YK,YL,YM,YN,YO,YP,YQ,YR,YS,YT,YU,YV,YW,YX,YY,reduceIte,reduceCtorEq,ite_true,ite_false,if_true,if_false,YZ,Z0,Z1,Z2,Z3,Z4,and_true,true_and,and_self,true_imp_iff,false_imp_iff,eq_self,not_true_eq_false,not_false_eq_true,ne_eq,decide_true,decide_false,Z5,Z6,Z7,Z8,Z9,Za,Zb,Zc,Zd,Ze,Zf,Zg,Zh,Zi,Zj,Zk,Zl,Tryd.underlying3,Tryd.cs3,Tryd.bt3,Tryd.pa3,Tryd.zr3,Tryd.underlying4,Tryd.cs4,Tryd.bt4,Tryd.pa4,Tryd.ty4,Tryd.zr4,Tryd.underlying22,Tryd.cs22,Tryd.bt22,Tryd.pa22,Tryd.ty22,Tryd.sl22,Tryd.zr22,Tryd.underlying24,Tryd.cs24,Tryd.bt24,Tryd.pa24,Tryd.ty24,Tryd.zr24,Tryd.pl24,Tryd.eq24,Tryd.fd24_0,Tryd.fd24_1,Tryd.fd24_2,Tryd.underlying27,Tryd.cs27,Tryd.bt27,Tryd.pa27,Tryd.zr27]
  refine acalls_then (around b 400 _ (by omega)) ?_
  simp -implicitDefEqProofs only [Q0,Q1,Q2,Q3,Q4,Q5,Q6,Q7,Q8,Q9,Qa,Qb,Qc,Qd,Qe,Qf,Qg,Qh,Qi,Qj,Qk,Ql,Qm,Qn,Qo,Qp,Qq,Qr,Qs,Qt,Qu,Qv,Qw,Qx,Qy,Qz,QA,QB,QC,QD,QE,QF,QG,QH,QI,QJ,QK,QL,QM,QN,QO,QP,QQ,QR,QS,QT,QU,QV,QW,QX,QY,QZ,X0,X1,X2,X3,X4,X5,X6,X7,X8,X9,Xa,Xb,Xc,Xd,Xe,Xf,Xg,Xh,Xi,Xj,Xk,Xl,Xm,Xn,Xo,Xp,Xq,Xr,Xs,Xt,Xu,Xv,Xw,Xx,Xy,Xz,XA,XB,XC,XD,XE,XF,XG,XH,XI,XJ,XK,XL,XM,XN,XO,XP,XQ,XR,XS,XT,XU,XV,XW,XX,XY,XZ,Y0,Y1,Y2,Y3,Y4,Y5,Y6,Y7,Y8,Y9,Ya,Yb,Yc,Yd,Ye,Yf,Yg,Yh,Yi,Yj,Yk,Yl,Ym,Yn,Yo,Yp,Yq,Yr,Ys,Yt,Yu,Yv,Yw,Yx,Yy,Yz,YA,YB,YC,YD,YE,YF,YG,YH,YI,YJ,YK,YL,YM,YN,YO,YP,YQ,YR,YS,YT,YU,YV,YW,YX,YY,reduceIte,reduceCtorEq,ite_true,ite_false,if_true,if_false,YZ,Z0,Z1,Z2,Z3,Z4,and_true,true_and,and_self,true_imp_iff,false_imp_iff,eq_self,not_true_eq_false,not_false_eq_true,ne_eq,decide_true,decide_false,Z5,Z6,Z7,Z8,Z9,Za,Zb,Zc,Zd,Ze,Zf,Zg,Zh,Zi,Zj,Zk,Zl,Tryd.underlying3,Tryd.cs3,Tryd.bt3,Tryd.pa3,Tryd.zr3,Tryd.underlying4,Tryd.cs4,Tryd.bt4,Tryd.pa4,Tryd.ty4,Tryd.zr4,Tryd.underlying22,Tryd.cs22,Tryd.bt22,Tryd.pa22,Tryd.ty22,Tryd.sl22,Tryd.zr22,Tryd.underlying24,Tryd.cs24,Tryd.bt24,Tryd.pa24,Tryd.ty24,Tryd.zr24,Tryd.pl24,Tryd.eq24,Tryd.fd24_0,Tryd.fd24_1,Tryd.fd24_2,Tryd.underlying27,Tryd.cs27,Tryd.bt27,Tryd.pa27,Tryd.zr27]
  obtain ⟨all, hall⟩ : ∃ all, all = daysL l 12 := ⟨_, rfl⟩
  rw [← hall] at hdl hdk ⊢
  have hlen : all.length ≤ 16 := by omega
  clear hall hdl
  obtain ⟨m, hm⟩ : ∃ m, m = aroundI a 400 := ⟨_, rfl⟩
  obtain ⟨k, hk⟩ : ∃ k, k = aroundI b 400 := ⟨_, rfl⟩
  rw [← hm] at aa ⊢
  rw [← hk] at ab ⊢
  clear hm hk
  refine awp_loop (fun i : Nat => [(10, .int .i64 i), (7, .ints .i64 all), (8, .int .i64 m), (9, .int .i64 k)]) (fun i s => i ≤ all.length) (fun i => all.length - i) 0 (by kernel_rfl) (by simp [sub_cons, sub_nil, get_cons]) (by omega) ?_
  rintro i s hi
  have wi : IntKind.i64.wrap ((i : Int) + 1) = ((i + 1 : Nat) : Int) := by rw [wrap_i64 (by omega) (by omega)]; rfl
  by_cases hlt : i < all.length
  · have d1 : decide ((i : Int) < (all.length : Int)) = true := decide_eq_true (by omega)
    have hget : all.getD ((i : Int).toNat) 0 = all[i] := by rw [Int.toNat_natCast, getD_get hlt]
    have hn := hdk _ (List.getElem_mem hlt)
    generalize hgx : all[i] = n at *
    have hib : 0 ≤ (i : Int) ∧ (i : Int) < (all.length : Int) := by omega
    obtain ⟨hv, hnum⟩ := dateI_spec hn.1
    have w1 : IntKind.i64.wrap (m + k) = m + k := wrap_i64 (by omega) (by omega)
    have w2 : IntKind.i64.wrap (28 * m) = 28 * m := wrap_i64 (by omega) (by omega)
    have w3 : IntKind.i64.wrap (n + 28 * m) = n + 28 * m := wrap_i64 (by omega) (by omega)
    have w4 : IntKind.i64.wrap (31 * m) = 31 * m := wrap_i64 (by omega) (by omega)
    have w5 : IntKind.i64.wrap (n + 31 * m) = n + 31 * m := wrap_i64 (by omega) (by omega)
    have w6 : IntKind.i64.wrap (n - 1) = n - 1 := wrap_i64 (by omega) (by omega)
    have c1 := fun σ => c_add n m (i64_okk (by omega) (by omega)) σ
    have c2 := fun σ => c_add n (m + k) (i64_okk (by omega) (by omega)) σ
    have hmore := add_more hv (show 0 ≤ m by omega) (show 0 ≤ k by omega)
    have hlow := add_low hv (show 0 ≤ m by omega)
    rw [hnum] at hlow
    by_cases hb2 : numD (addD (dateI n) (m + k)) ≤ 131072
    · have hb1 : numD (addD (dateI n) m) ≤ 131072 := by omega
      have ha1 := addI_ok hn.1 hn.2 (show 0 ≤ m by omega) (by omega) hb1
      have ha2 := addI_ok hn.1 hn.2 (show 0 ≤ m + k by omega) (by omega) hb2
      have c3 := fun σ => c_add (numD (addD (dateI n) m)) k (i64_okk (by omega) (by omega)) σ
      have ha3 : (dateI n).d ≤ 28 → addI (numD (addD (dateI n) m)) k = (numD (addD (dateI n) (m + k)), 0) := by
        intro h28
        have hx : dateI (numD (addD (dateI n) m)) = addD (dateI n) m := dateI_num (add_fir hv (by omega)).1
        have hy := add_twice hv h28 (k := m) (j := k) (by omega)
        have hz := addI_ok (n := numD (addD (dateI n) m)) (k := k) (by omega) hb1 (by omega) (by omega)
        rw [hx, hy] at hz
        exact hz hb2
      have c4 := fun σ => c_date n σ
      unfold dateV at c4
      rw [if_pos hn] at c4
      rw [ha1] at c1
      rw [ha2] at c2
      have hbef : 0 < n → addI (n - 1) m = (numD (addD (dateI (n - 1)) m), 0) ∧ numD (addD (dateI (n - 1)) m) ≤ numD (addD (dateI n) m) := by
        intro h0
        obtain ⟨hv', hnum'⟩ := dateI_spec (show 0 ≤ n - 1 by omega)
        have := add_later hv' hv (by omega) (show 0 ≤ m by omega)
        exact ⟨addI_ok (by omega) (by omega) (by omega) (by omega) (by omega), this⟩
      have c5 := fun σ => c_add (n - 1) m (i64_okk (by omega) (by omega)) σ
      clear ha1 ha2
      generalize addI (n - 1) m = av at hbef c5
      generalize addI (numD (addD (dateI n) m)) k = bv at ha3 c3
      generalize numD (addD (dateI n) m) = one at *
      generalize numD (addD (dateI n) (m + k)) = both at *
      generalize numD (addD (dateI (n - 1)) m) = bef at *
      generalize dateI n = x at *
      obtain ⟨xy, xm, xd⟩ := x
      simp only [Dt.av, Dt.cs] at c4
      simp only at ha3
      obtain ⟨b1, b2⟩ := bv
      obtain ⟨a1, a2⟩ := av
      simp only [Prod.mk.injEq] at ha3 hbef
      have t1 : decide (one < n + 28 * m) = false := decide_eq_false (by omega)
      have t2 : decide (n + 31 * m < one) = false := decide_eq_false (by omega)
      have t3 : decide (both < one) = false := decide_eq_false (by omega)
      simp -implicitDefEqProofs only [d1,hget,Q0,Q1,Q2,Q3,Q4,Q5,Q6,Q7,Q8,Q9,Qa,Qb,Qc,Qd,Qe,Qf,Qg,Qh,Qi,Qj,Qk,Ql,Qm,Qn,Qo,Qp,Qq,Qr,Qs,Qt,Qu,Qv,Qw,Qx,Qy,Qz,QA,QB,QC,QD,QE,QF,QG,QH,QI,QJ,QK,QL,QM,QN,QO,QP,QQ,QR,QS,QT,QU,QV,QW,QX,QY,QZ,X0,X1,X2,X3,X4,X5,X6,X7,X8,X9,Xa,Xb,Xc,Xd,Xe,Xf,Xg,Xh,Xi,Xj,Xk,Xl,Xm,Xn,Xo,Xp,Xq,Xr,Xs,Xt,Xu,Xv,Xw,Xx,Xy,Xz,XA,XB,XC,XD,XE,XF,XG,XH,XI,XJ,XK,XL,XM,XN,XO,XP,XQ,XR,XS,XT,XU,XV,XW,XX,XY,XZ,Y0,Y1,Y2,Y3,Y4,Y5,Y6,Y7,Y8,Y9,Ya,Yb,Yc,Yd,Ye,Yf,Yg,Yh,Yi,Yj,Yk,Yl,Ym,Yn,Yo,Yp,Yq,Yr,Ys,Yt,Yu,Yv,Yw,Yx,Yy,Yz,YA,YB,YC,YD,YE,YF,YG,YH,YI,YJ,YK,YL,YM,YN,YO,YP,YQ,YR,YS,YT,YU,YV,YW,YX,YY,reduceIte,reduceCtorEq,ite_true,ite_false,if_true,if_false,YZ,Z0,Z1,Z2,Z3,Z4,and_true,true_and,and_self,true_imp_iff,false_imp_iff,eq_self,not_true_eq_false,not_false_eq_true,ne_eq,decide_true,decide_false,Z5,Z6,Z7,Z8,Z9,Za,Zb,Zc,Zd,Ze,Zf,Zg,Zh,Zi,Zj,Zk,Zl,Tryd.underlying3,Tryd.cs3,Tryd.bt3,Tryd.pa3,Tryd.zr3,Tryd.underlying4,Tryd.cs4,Tryd.bt4,Tryd.pa4,Tryd.ty4,Tryd.zr4,Tryd.underlying22,Tryd.cs22,Tryd.bt22,Tryd.pa22,Tryd.ty22,Tryd.sl22,Tryd.zr22,Tryd.underlying24,Tryd.cs24,Tryd.bt24,Tryd.pa24,Tryd.ty24,Tryd.zr24,Tryd.pl24,Tryd.eq24,Tryd.fd24_0,Tryd.fd24_1,Tryd.fd24_2,Tryd.underlying27,Tryd.cs27,Tryd.bt27,Tryd.pa27,Tryd.zr27]
      refine ⟨by omega, ?_⟩
      refine acalls_then (c1 _) ?_
      simp -implicitDefEqProofs only [w1,hget,Q0,Q1,Q2,Q3,Q4,Q5,Q6,Q7,Q8,Q9,Qa,Qb,Qc,Qd,Qe,Qf,Qg,Qh,Qi,Qj,Qk,Ql,Qm,Qn,Qo,Qp,Qq,Qr,Qs,Qt,Qu,Qv,Qw,Qx,Qy,Qz,QA,QB,QC,QD,QE,QF,QG,QH,QI,QJ,QK,QL,QM,QN,QO,QP,QQ,QR,QS,QT,QU,QV,QW,QX,QY,QZ,X0,X1,X2,X3,X4,X5,X6,X7,X8,X9,Xa,Xb,Xc,Xd,Xe,Xf,Xg,Xh,Xi,Xj,Xk,Xl,Xm,Xn,Xo,Xp,Xq,Xr,Xs,Xt,Xu,Xv,Xw,Xx,Xy,Xz,XA,XB,XC,XD,XE,XF,XG,XH,XI,XJ,XK,XL,XM,XN,XO,XP,XQ,XR,XS,XT,XU,XV,XW,XX,XY,XZ,Y0,Y1,Y2,Y3,Y4,Y5,Y6,Y7,Y8,Y9,Ya,Yb,Yc,Yd,Ye,Yf,Yg,Yh,Yi,Yj,Yk,Yl,Ym,Yn,Yo,Yp,Yq,Yr,Ys,Yt,Yu,Yv,Yw,Yx,Yy,Yz,YA,YB,YC,YD,YE,YF,YG,YH,YI,YJ,YK,YL,YM,YN,YO,YP,YQ,YR,YS,YT,YU,YV,YW,YX,YY,reduceIte,reduceCtorEq,ite_true,ite_false,if_true,if_false,YZ,Z0,Z1,Z2,Z3,Z4,and_true,true_and,and_self,true_imp_iff,false_imp_iff,eq_self,not_true_eq_false,not_false_eq_true,ne_eq,decide_true,decide_false,Z5,Z6,Z7,Z8,Z9,Za,Zb,Zc,Zd,Ze,Zf,Zg,Zh,Zi,Zj,Zk,Zl,Tryd.underlying3,Tryd.cs3,Tryd.bt3,Tryd.pa3,Tryd.zr3,Tryd.underlying4,Tryd.cs4,Tryd.bt4,Tryd.pa4,Tryd.ty4,Tryd.zr4,Tryd.underlying22,Tryd.cs22,Tryd.bt22,Tryd.pa22,Tryd.ty22,Tryd.sl22,Tryd.zr22,Tryd.underlying24,Tryd.cs24,Tryd.bt24,Tryd.pa24,Tryd.ty24,Tryd.zr24,Tryd.pl24,Tryd.eq24,Tryd.fd24_0,Tryd.fd24_1,Tryd.fd24_2,Tryd.underlying27,Tryd.cs27,Tryd.bt27,Tryd.pa27,Tryd.zr27]
      refine ⟨by omega, ?_⟩
      refine acalls_then (c2 _) ?_
      simp -implicitDefEqProofs only [Q0,Q1,Q2,Q3,Q4,Q5,Q6,Q7,Q8,Q9,Qa,Qb,Qc,Qd,Qe,Qf,Qg,Qh,Qi,Qj,Qk,Ql,Qm,Qn,Qo,Qp,Qq,Qr,Qs,Qt,Qu,Qv,Qw,Qx,Qy,Qz,QA,QB,QC,QD,QE,QF,QG,QH,QI,QJ,QK,QL,QM,QN,QO,QP,QQ,QR,QS,QT,QU,QV,QW,QX,QY,QZ,X0,X1,X2,X3,X4,X5,X6,X7,X8,X9,Xa,Xb,Xc,Xd,Xe,Xf,Xg,Xh,Xi,Xj,Xk,Xl,Xm,Xn,Xo,Xp,Xq,Xr,Xs,Xt,Xu,Xv,Xw,Xx,Xy,Xz,XA,XB,XC,XD,XE,XF,XG,XH,XI,XJ,XK,XL,XM,XN,XO,XP,XQ,XR,XS,XT,XU,XV,XW,XX,XY,XZ,Y0,Y1,Y2,Y3,Y4,Y5,Y6,Y7,Y8,Y9,Ya,Yb,Yc,Yd,Ye,Yf,Yg,Yh,Yi,Yj,Yk,Yl,Ym,Yn,Yo,Yp,Yq,Yr,Ys,Yt,Yu,Yv,Yw,Yx,Yy,Yz,YA,YB,YC,YD,YE,YF,YG,YH,YI,YJ,YK,YL,YM,YN,YO,YP,YQ,YR,YS,YT,YU,YV,YW,YX,YY,reduceIte,reduceCtorEq,ite_true,ite_false,if_true,if_false,YZ,Z0,Z1,Z2,Z3,Z4,and_true,true_and,and_self,true_imp_iff,false_imp_iff,eq_self,not_true_eq_false,not_false_eq_true,ne_eq,decide_true,decide_false,Z5,Z6,Z7,Z8,Z9,Za,Zb,Zc,Zd,Ze,Zf,Zg,Zh,Zi,Zj,Zk,Zl,Tryd.underlying3,Tryd.cs3,Tryd.bt3,Tryd.pa3,Tryd.zr3,Tryd.underlying4,Tryd.cs4,Tryd.bt4,Tryd.pa4,Tryd.ty4,Tryd.zr4,Tryd.underlying22,Tryd.cs22,Tryd.bt22,Tryd.pa22,Tryd.ty22,Tryd.sl22,Tryd.zr22,Tryd.underlying24,Tryd.cs24,Tryd.bt24,Tryd.pa24,Tryd.ty24,Tryd.zr24,Tryd.pl24,Tryd.eq24,Tryd.fd24_0,Tryd.fd24_1,Tryd.fd24_2,Tryd.underlying27,Tryd.cs27,Tryd.bt27,Tryd.pa27,Tryd.zr27]
      refine acalls_then (c3 _) ?_
      simp -implicitDefEqProofs only [hget,Q0,Q1,Q2,Q3,Q4,Q5,Q6,Q7,Q8,Q9,Qa,Qb,Qc,Qd,Qe,Qf,Qg,Qh,Qi,Qj,Qk,Ql,Qm,Qn,Qo,Qp,Qq,Qr,Qs,Qt,Qu,Qv,Qw,Qx,Qy,Qz,QA,QB,QC,QD,QE,QF,QG,QH,QI,QJ,QK,QL,QM,QN,QO,QP,QQ,QR,QS,QT,QU,QV,QW,QX,QY,QZ,X0,X1,X2,X3,X4,X5,X6,X7,X8,X9,Xa,Xb,Xc,Xd,Xe,Xf,Xg,Xh,Xi,Xj,Xk,Xl,Xm,Xn,Xo,Xp,Xq,Xr,Xs,Xt,Xu,Xv,Xw,Xx,Xy,Xz,XA,XB,XC,XD,XE,XF,XG,XH,XI,XJ,XK,XL,XM,XN,XO,XP,XQ,XR,XS,XT,XU,XV,XW,XX,XY,XZ,Y0,Y1,Y2,Y3,Y4,Y5,Y6,Y7,Y8,Y9,Ya,Yb,Yc,Yd,Ye,Yf,Yg,Yh,Yi,Yj,Yk,Yl,Ym,Yn,Yo,Yp,Yq,Yr,Ys,Yt,Yu,Yv,Yw,Yx,Yy,Yz,YA,YB,YC,YD,YE,YF,YG,YH,YI,YJ,YK,YL,YM,YN,YO,YP,YQ,YR,YS,YT,YU,YV,YW,YX,YY,reduceIte,reduceCtorEq,ite_true,ite_false,if_true,if_false,YZ,Z0,Z1,Z2,Z3,Z4,and_true,true_and,and_self,true_imp_iff,false_imp_iff,eq_self,not_true_eq_false,not_false_eq_true,ne_eq,decide_true,decide_false,Z5,Z6,Z7,Z8,Z9,Za,Zb,Zc,Zd,Ze,Zf,Zg,Zh,Zi,Zj,Zk,Zl,Tryd.underlying3,Tryd.cs3,Tryd.bt3,Tryd.pa3,Tryd.zr3,Tryd.underlying4,Tryd.cs4,Tryd.bt4,Tryd.pa4,Tryd.ty4,Tryd.zr4,Tryd.underlying22,Tryd.cs22,Tryd.bt22,Tryd.pa22,Tryd.ty22,Tryd.sl22,Tryd.zr22,Tryd.underlying24,Tryd.cs24,Tryd.bt24,Tryd.pa24,Tryd.ty24,Tryd.zr24,Tryd.pl24,Tryd.eq24,Tryd.fd24_0,Tryd.fd24_1,Tryd.fd24_2,Tryd.underlying27,Tryd.cs27,Tryd.bt27,Tryd.pa27,Tryd.zr27]
      refine ⟨by omega, ?_⟩
      refine acalls_then (c4 _) ?_
      by_cases h28 : xd ≤ 28
      · have d28 : decide (xd ≤ 28) = true := decide_eq_true h28
        obtain ⟨rfl, rfl⟩ := ha3 h28
        have q1 : decide (b1 = b1) = true := decide_eq_true rfl
        simp -implicitDefEqProofs only [d28,q1,w2,w3,w4,w5,w6,t1,t2,t3,hget,Q0,Q1,Q2,Q3,Q4,Q5,Q6,Q7,Q8,Q9,Qa,Qb,Qc,Qd,Qe,Qf,Qg,Qh,Qi,Qj,Qk,Ql,Qm,Qn,Qo,Qp,Qq,Qr,Qs,Qt,Qu,Qv,Qw,Qx,Qy,Qz,QA,QB,QC,QD,QE,QF,QG,QH,QI,QJ,QK,QL,QM,QN,QO,QP,QQ,QR,QS,QT,QU,QV,QW,QX,QY,QZ,X0,X1,X2,X3,X4,X5,X6,X7,X8,X9,Xa,Xb,Xc,Xd,Xe,Xf,Xg,Xh,Xi,Xj,Xk,Xl,Xm,Xn,Xo,Xp,Xq,Xr,Xs,Xt,Xu,Xv,Xw,Xx,Xy,Xz,XA,XB,XC,XD,XE,XF,XG,XH,XI,XJ,XK,XL,XM,XN,XO,XP,XQ,XR,XS,XT,XU,XV,XW,XX,XY,XZ,Y0,Y1,Y2,Y3,Y4,Y5,Y6,Y7,Y8,Y9,Ya,Yb,Yc,Yd,Ye,Yf,Yg,Yh,Yi,Yj,Yk,Yl,Ym,Yn,Yo,Yp,Yq,Yr,Ys,Yt,Yu,Yv,Yw,Yx,Yy,Yz,YA,YB,YC,YD,YE,YF,YG,YH,YI,YJ,YK,YL,YM,YN,YO,YP,YQ,YR,YS,YT,YU,YV,YW,YX,YY,reduceIte,reduceCtorEq,ite_true,ite_false,if_true,if_false,YZ,Z0,Z1,Z2,Z3,Z4,and_true,true_and,and_self,true_imp_iff,false_imp_iff,eq_self,not_true_eq_false,not_false_eq_true,ne_eq,decide_true,decide_false,Z5,Z6,Z7,Z8,Z9,Za,Zb,Zc,Zd,Ze,Zf,Zg,Zh,Zi,Zj,Zk,Zl,Tryd.underlying3,Tryd.cs3,Tryd.bt3,Tryd.pa3,Tryd.zr3,Tryd.underlying4,Tryd.cs4,Tryd.bt4,Tryd.pa4,Tryd.ty4,Tryd.zr4,Tryd.underlying22,Tryd.cs22,Tryd.bt22,Tryd.pa22,Tryd.ty22,Tryd.sl22,Tryd.zr22,Tryd.underlying24,Tryd.cs24,Tryd.bt24,Tryd.pa24,Tryd.ty24,Tryd.zr24,Tryd.pl24,Tryd.eq24,Tryd.fd24_0,Tryd.fd24_1,Tryd.fd24_2,Tryd.underlying27,Tryd.cs27,Tryd.bt27,Tryd.pa27,Tryd.zr27]
        refine ⟨by omega, by omega, by omega, ?_⟩
        by_cases h0 : 0 < n
        · have d0 : decide (0 < n) = true := decide_eq_true h0
          obtain ⟨⟨rfl, rfl⟩, hle⟩ := hbef h0
          have t4 : decide (one < a1) = false := decide_eq_false (by omega)
          simp -implicitDefEqProofs only [d0,hget,w6,Q0,Q1,Q2,Q3,Q4,Q5,Q6,Q7,Q8,Q9,Qa,Qb,Qc,Qd,Qe,Qf,Qg,Qh,Qi,Qj,Qk,Ql,Qm,Qn,Qo,Qp,Qq,Qr,Qs,Qt,Qu,Qv,Qw,Qx,Qy,Qz,QA,QB,QC,QD,QE,QF,QG,QH,QI,QJ,QK,QL,QM,QN,QO,QP,QQ,QR,QS,QT,QU,QV,QW,QX,QY,QZ,X0,X1,X2,X3,X4,X5,X6,X7,X8,X9,Xa,Xb,Xc,Xd,Xe,Xf,Xg,Xh,Xi,Xj,Xk,Xl,Xm,Xn,Xo,Xp,Xq,Xr,Xs,Xt,Xu,Xv,Xw,Xx,Xy,Xz,XA,XB,XC,XD,XE,XF,XG,XH,XI,XJ,XK,XL,XM,XN,XO,XP,XQ,XR,XS,XT,XU,XV,XW,XX,XY,XZ,Y0,Y1,Y2,Y3,Y4,Y5,Y6,Y7,Y8,Y9,Ya,Yb,Yc,Yd,Ye,Yf,Yg,Yh,Yi,Yj,Yk,Yl,Ym,Yn,Yo,Yp,Yq,Yr,Ys,Yt,Yu,Yv,Yw,Yx,Yy,Yz,YA,YB,YC,YD,YE,YF,YG,YH,YI,YJ,YK,YL,YM,YN,YO,YP,YQ,YR,YS,YT,YU,YV,YW,YX,YY,reduceIte,reduceCtorEq,ite_true,ite_false,if_true,if_false,YZ,Z0,Z1,Z2,Z3,Z4,and_true,true_and,and_self,true_imp_iff,false_imp_iff,eq_self,not_true_eq_false,not_false_eq_true,ne_eq,decide_true,decide_false,Z5,Z6,Z7,Z8,Z9,Za,Zb,Zc,Zd,Ze,Zf,Zg,Zh,Zi,Zj,Zk,Zl,Tryd.underlying3,Tryd.cs3,Tryd.bt3,Tryd.pa3,Tryd.zr3,Tryd.underlying4,Tryd.cs4,Tryd.bt4,Tryd.pa4,Tryd.ty4,Tryd.zr4,Tryd.underlying22,Tryd.cs22,Tryd.bt22,Tryd.pa22,Tryd.ty22,Tryd.sl22,Tryd.zr22,Tryd.underlying24,Tryd.cs24,Tryd.bt24,Tryd.pa24,Tryd.ty24,Tryd.zr24,Tryd.pl24,Tryd.eq24,Tryd.fd24_0,Tryd.fd24_1,Tryd.fd24_2,Tryd.underlying27,Tryd.cs27,Tryd.bt27,Tryd.pa27,Tryd.zr27]
          refine ⟨by omega, ?_⟩
          refine acalls_then (c5 _) ?_
          simp -implicitDefEqProofs only [t4,wi,Q0,Q1,Q2,Q3,Q4,Q5,Q6,Q7,Q8,Q9,Qa,Qb,Qc,Qd,Qe,Qf,Qg,Qh,Qi,Qj,Qk,Ql,Qm,Qn,Qo,Qp,Qq,Qr,Qs,Qt,Qu,Qv,Qw,Qx,Qy,Qz,QA,QB,QC,QD,QE,QF,QG,QH,QI,QJ,QK,QL,QM,QN,QO,QP,QQ,QR,QS,QT,QU,QV,QW,QX,QY,QZ,X0,X1,X2,X3,X4,X5,X6,X7,X8,X9,Xa,Xb,Xc,Xd,Xe,Xf,Xg,Xh,Xi,Xj,Xk,Xl,Xm,Xn,Xo,Xp,Xq,Xr,Xs,Xt,Xu,Xv,Xw,Xx,Xy,Xz,XA,XB,XC,XD,XE,XF,XG,XH,XI,XJ,XK,XL,XM,XN,XO,XP,XQ,XR,XS,XT,XU,XV,XW,XX,XY,XZ,Y0,Y1,Y2,Y3,Y4,Y5,Y6,Y7,Y8,Y9,Ya,Yb,Yc,Yd,Ye,Yf,Yg,Yh,Yi,Yj,Yk,Yl,Ym,Yn,Yo,Yp,Yq,Yr,Ys,Yt,Yu,Yv,Yw,Yx,Yy,Yz,YA,YB,YC,YD,YE,YF,YG,YH,YI,YJ,YK,YL,YM,YN,YO,YP,YQ,YR,YS,YT,YU,YV,YW,YX,YY,reduceIte,reduceCtorEq,ite_true,ite_false,if_true,if_false,YZ,Z0,Z1,Z2,Z3,Z4,and_true,true_and,and_self,true_imp_iff,false_imp_iff,eq_self,not_true_eq_false,not_false_eq_true,ne_eq,decide_true,decide_false,Z5,Z6,Z7,Z8,Z9,Za,Zb,Zc,Zd,Ze,Zf,Zg,Zh,Zi,Zj,Zk,Zl,Tryd.underlying3,Tryd.cs3,Tryd.bt3,Tryd.pa3,Tryd.zr3,Tryd.underlying4,Tryd.cs4,Tryd.bt4,Tryd.pa4,Tryd.ty4,Tryd.zr4,Tryd.underlying22,Tryd.cs22,Tryd.bt22,Tryd.pa22,Tryd.ty22,Tryd.sl22,Tryd.zr22,Tryd.underlying24,Tryd.cs24,Tryd.bt24,Tryd.pa24,Tryd.ty24,Tryd.zr24,Tryd.pl24,Tryd.eq24,Tryd.fd24_0,Tryd.fd24_1,Tryd.fd24_2,Tryd.underlying27,Tryd.cs27,Tryd.bt27,Tryd.pa27,Tryd.zr27]
          exact ⟨i + 1, rfl, by omega, by omega⟩
        · have d0 : decide (0 < n) = false := decide_eq_false h0
          simp -implicitDefEqProofs only [d0,wi,Q0,Q1,Q2,Q3,Q4,Q5,Q6,Q7,Q8,Q9,Qa,Qb,Qc,Qd,Qe,Qf,Qg,Qh,Qi,Qj,Qk,Ql,Qm,Qn,Qo,Qp,Qq,Qr,Qs,Qt,Qu,Qv,Qw,Qx,Qy,Qz,QA,QB,QC,QD,QE,QF,QG,QH,QI,QJ,QK,QL,QM,QN,QO,QP,QQ,QR,QS,QT,QU,QV,QW,QX,QY,QZ,X0,X1,X2,X3,X4,X5,X6,X7,X8,X9,Xa,Xb,Xc,Xd,Xe,Xf,Xg,Xh,Xi,Xj,Xk,Xl,Xm,Xn,Xo,Xp,Xq,Xr,Xs,Xt,Xu,Xv,Xw,Xx,Xy,Xz,XA,XB,XC,XD,XE,XF,XG,XH,XI,XJ,XK,XL,XM,XN,XO,XP,XQ,XR,XS,XT,XU,XV,XW,XX,XY,XZ,Y0,Y1,Y2,Y3,Y4,Y5,Y6,Y7,Y8,Y9,Ya,Yb,Yc,Yd,Ye,Yf,Yg,Yh,Yi,Yj,Yk,Yl,Ym,Yn,Yo,Yp,Yq,Yr,Ys,Yt,Yu,Yv,Yw,Yx,Yy,Yz,YA,YB,YC,YD,YE,YF,YG,YH,YI,YJ,YK,YL,YM,YN,YO,YP,YQ,YR,YS,YT,YU,YV,YW,YX,YY,reduceIte,reduceCtorEq,ite_true,ite_false,if_true,if_false,YZ,Z0,Z1,Z2,Z3,Z4,and_true,true_and,and_self,true_imp_iff,false_imp_iff,eq_self,not_true_eq_false,not_false_eq_true,ne_eq,decide_true,decide_false,Z5,Z6,Z7,Z8,Z9,Za,Zb,Zc,Zd,Ze,Zf,Zg,Zh,Zi,Zj,Zk,Zl,Tryd.underlying3,Tryd.cs3,Tryd.bt3,Tryd.pa3,Tryd.zr3,Tryd.underlying4,Tryd.cs4,Tryd.bt4,Tryd.pa4,Tryd.ty4,Tryd.zr4,Tryd.underlying22,Tryd.cs22,Tryd.bt22,Tryd.pa22,Tryd.ty22,Tryd.sl22,Tryd.zr22,Tryd.underlying24,Tryd.cs24,Tryd.bt24,Tryd.pa24,Tryd.ty24,Tryd.zr24,Tryd.pl24,Tryd.eq24,Tryd.fd24_0,Tryd.fd24_1,Tryd.fd24_2,Tryd.underlying27,Tryd.cs27,Tryd.bt27,Tryd.pa27,Tryd.zr27]
          exact ⟨i + 1, rfl, by omega, by omega⟩
      · have d28 : decide (xd ≤ 28) = false := decide_eq_false h28
        simp -implicitDefEqProofs only [d28,w2,w3,w4,w5,w6,t1,t2,t3,hget,Q0,Q1,Q2,Q3,Q4,Q5,Q6,Q7,Q8,Q9,Qa,Qb,Qc,Qd,Qe,Qf,Qg,Qh,Qi,Qj,Qk,Ql,Qm,Qn,Qo,Qp,Qq,Qr,Qs,Qt,Qu,Qv,Qw,Qx,Qy,Qz,QA,QB,QC,QD,QE,QF,QG,QH,QI,QJ,QK,QL,QM,QN,QO,QP,QQ,QR,QS,QT,QU,QV,QW,QX,QY,QZ,X0,X1,X2,X3,X4,X5,X6,X7,X8,X9,Xa,Xb,Xc,Xd,Xe,Xf,Xg,Xh,Xi,Xj,Xk,Xl,Xm,Xn,Xo,Xp,Xq,Xr,Xs,Xt,Xu,Xv,Xw,Xx,Xy,Xz,XA,XB,XC,XD,XE,XF,XG,XH,XI,XJ,XK,XL,XM,XN,XO,XP,XQ,XR,XS,XT,XU,XV,XW,XX,XY,XZ,Y0,Y1,Y2,Y3,Y4,Y5,Y6,Y7,Y8,Y9,Ya,Yb,Yc,Yd,Ye,Yf,Yg,Yh,Yi,Yj,Yk,Yl,Ym,Yn,Yo,Yp,Yq,Yr,Ys,Yt,Yu,Yv,Yw,Yx,Yy,Yz,YA,YB,YC,YD,YE,YF,YG,YH,YI,YJ,YK,YL,YM,YN,YO,YP,YQ,YR,YS,YT,YU,YV,YW,YX,YY,reduceIte,reduceCtorEq,ite_true,ite_false,if_true,if_false,YZ,Z0,Z1,Z2,Z3,Z4,and_true,true_and,and_self,true_imp_iff,false_imp_iff,eq_self,not_true_eq_false,not_false_eq_true,ne_eq,decide_true,decide_false,Z5,Z6,Z7,Z8,Z9,Za,Zb,Zc,Zd,Ze,Zf,Zg,Zh,Zi,Zj,Zk,Zl,Tryd.underlying3,Tryd.cs3,Tryd.bt3,Tryd.pa3,Tryd.zr3,Tryd.underlying4,Tryd.cs4,Tryd.bt4,Tryd.pa4,Tryd.ty4,Tryd.zr4,Tryd.underlying22,Tryd.cs22,Tryd.bt22,Tryd.pa22,Tryd.ty22,Tryd.sl22,Tryd.zr22,Tryd.underlying24,Tryd.cs24,Tryd.bt24,Tryd.pa24,Tryd.ty24,Tryd.zr24,Tryd.pl24,Tryd.eq24,Tryd.fd24_0,Tryd.fd24_1,Tryd.fd24_2,Tryd.underlying27,Tryd.cs27,Tryd.bt27,Tryd.pa27,Tryd.zr27]
        refine ⟨by omega, by omega, by omega, ?_⟩
        by_cases h0 : 0 < n
        · have d0 : decide (0 < n) = true := decide_eq_true h0
          obtain ⟨⟨rfl, rfl⟩, hle⟩ := hbef h0
          have t4 : decide (one < a1) = false := decide_eq_false (by omega)
          simp -implicitDefEqProofs only [d0,hget,w6,Q0,Q1,Q2,Q3,Q4,Q5,Q6,Q7,Q8,Q9,Qa,Qb,Qc,Qd,Qe,Qf,Qg,Qh,Qi,Qj,Qk,Ql,Qm,Qn,Qo,Qp,Qq,Qr,Qs,Qt,Qu,Qv,Qw,Qx,Qy,Qz,QA,QB,QC,QD,QE,QF,QG,QH,QI,QJ,QK,QL,QM,QN,QO,QP,QQ,QR,QS,QT,QU,QV,QW,QX,QY,QZ,X0,X1,X2,X3,X4,X5,X6,X7,X8,X9,Xa,Xb,Xc,Xd,Xe,Xf,Xg,Xh,Xi,Xj,Xk,Xl,Xm,Xn,Xo,Xp,Xq,Xr,Xs,Xt,Xu,Xv,Xw,Xx,Xy,Xz,XA,XB,XC,XD,XE,XF,XG,XH,XI,XJ,XK,XL,XM,XN,XO,XP,XQ,XR,XS,XT,XU,XV,XW,XX,XY,XZ,Y0,Y1,Y2,Y3,Y4,Y5,Y6,Y7,Y8,Y9,Ya,Yb,Yc,Yd,Ye,Yf,Yg,Yh,Yi,Yj,Yk,Yl,Ym,Yn,Yo,Yp,Yq,Yr,Ys,Yt,Yu,Yv,Yw,Yx,Yy,Yz,YA,YB,YC,YD,YE,YF,YG,YH,YI,YJ,YK,YL,YM,YN,YO,YP,YQ,YR,YS,YT,YU,YV,YW,YX,YY,reduceIte,reduceCtorEq,ite_true,ite_false,if_true,if_false,YZ,Z0,Z1,Z2,Z3,Z4,and_true,true_and,and_self,true_imp_iff,false_imp_iff,eq_self,not_true_eq_false,not_false_eq_true,ne_eq,decide_true,decide_false,Z5,Z6,Z7,Z8,Z9,Za,Zb,Zc,Zd,Ze,Zf,Zg,Zh,Zi,Zj,Zk,Zl,Tryd.underlying3,Tryd.cs3,Tryd.bt3,Tryd.pa3,Tryd.zr3,Tryd.underlying4,Tryd.cs4,Tryd.bt4,Tryd.pa4,Tryd.ty4,Tryd.zr4,Tryd.underlying22,Tryd.cs22,Tryd.bt22,Tryd.pa22,Tryd.ty22,Tryd.sl22,Tryd.zr22,Tryd.underlying24,Tryd.cs24,Tryd.bt24,Tryd.pa24,Tryd.ty24,Tryd.zr24,Tryd.pl24,Tryd.eq24,Tryd.fd24_0,Tryd.fd24_1,Tryd.fd24_2,Tryd.underlying27,Tryd.cs27,Tryd.bt27,Tryd.pa27,Tryd.zr27]
          refine ⟨by omega, ?_⟩
          refine acalls_then (c5 _) ?_
          simp -implicitDefEqProofs only [t4,wi,Q0,Q1,Q2,Q3,Q4,Q5,Q6,Q7,Q8,Q9,Qa,Qb,Qc,Qd,Qe,Qf,Qg,Qh,Qi,Qj,Qk,Ql,Qm,Qn,Qo,Qp,Qq,Qr,Qs,Qt,Qu,Qv,Qw,Qx,Qy,Qz,QA,QB,QC,QD,QE,QF,QG,QH,QI,QJ,QK,QL,QM,QN,QO,QP,QQ,QR,QS,QT,QU,QV,QW,QX,QY,QZ,X0,X1,X2,X3,X4,X5,X6,X7,X8,X9,Xa,Xb,Xc,Xd,Xe,Xf,Xg,Xh,Xi,Xj,Xk,Xl,Xm,Xn,Xo,Xp,Xq,Xr,Xs,Xt,Xu,Xv,Xw,Xx,Xy,Xz,XA,XB,XC,XD,XE,XF,XG,XH,XI,XJ,XK,XL,XM,XN,XO,XP,XQ,XR,XS,XT,XU,XV,XW,XX,XY,XZ,Y0,Y1,Y2,Y3,Y4,Y5,Y6,Y7,Y8,Y9,Ya,Yb,Yc,Yd,Ye,Yf,Yg,Yh,Yi,Yj,Yk,Yl,Ym,Yn,Yo,Yp,Yq,Yr,Ys,Yt,Yu,Yv,Yw,Yx,Yy,Yz,YA,YB,YC,YD,YE,YF,YG,YH,YI,YJ,YK,YL,YM,YN,YO,YP,YQ,YR,YS,YT,YU,YV,YW,YX,YY,reduceIte,reduceCtorEq,ite_true,ite_false,if_true,if_false,YZ,Z0,Z1,Z2,Z3,Z4,and_true,true_and,and_self,true_imp_iff,false_imp_iff,eq_self,not_true_eq_false,not_false_eq_true,ne_eq,decide_true,decide_false,Z5,Z6,Z7,Z8,Z9,Za,Zb,Zc,Zd,Ze,Zf,Zg,Zh,Zi,Zj,Zk,Zl,Tryd.underlying3,Tryd.cs3,Tryd.bt3,Tryd.pa3,Tryd.zr3,Tryd.underlying4,Tryd.cs4,Tryd.bt4,Tryd.pa4,Tryd.ty4,Tryd.zr4,Tryd.underlying22,Tryd.cs22,Tryd.bt22,Tryd.pa22,Tryd.ty22,Tryd.sl22,Tryd.zr22,Tryd.underlying24,Tryd.cs24,Tryd.bt24,Tryd.pa24,Tryd.ty24,Tryd.zr24,Tryd.pl24,Tryd.eq24,Tryd.fd24_0,Tryd.fd24_1,Tryd.fd24_2,Tryd.underlying27,Tryd.cs27,Tryd.bt27,Tryd.pa27,Tryd.zr27]
          exact ⟨i + 1, rfl, by omega, by omega⟩
        · have d0 : decide (0 < n) = false := decide_eq_false h0
          simp -implicitDefEqProofs only [d0,wi,Q0,Q1,Q2,Q3,Q4,Q5,Q6,Q7,Q8,Q9,Qa,Qb,Qc,Qd,Qe,Qf,Qg,Qh,Qi,Qj,Qk,Ql,Qm,Qn,Qo,Qp,Qq,Qr,Qs,Qt,Qu,Qv,Qw,Qx,Qy,Qz,QA,QB,QC,QD,QE,QF,QG,QH,QI,QJ,QK,QL,QM,QN,QO,QP,QQ,QR,QS,QT,QU,QV,QW,QX,QY,QZ,X0,X1,X2,X3,X4,X5,X6,X7,X8,X9,Xa,Xb,Xc,Xd,Xe,Xf,Xg,Xh,Xi,Xj,Xk,Xl,Xm,Xn,Xo,Xp,Xq,Xr,Xs,Xt,Xu,Xv,Xw,Xx,Xy,Xz,XA,XB,XC,XD,XE,XF,XG,XH,XI,XJ,XK,XL,XM,XN,XO,XP,XQ,XR,XS,XT,XU,XV,XW,XX,XY,XZ,Y0,Y1,Y2,Y3,Y4,Y5,Y6,Y7,Y8,Y9,Ya,Yb,Yc,Yd,Ye,Yf,Yg,Yh,Yi,Yj,Yk,Yl,Ym,Yn,Yo,Yp,Yq,Yr,Ys,Yt,Yu,Yv,Yw,Yx,Yy,Yz,YA,YB,YC,YD,YE,YF,YG,YH,YI,YJ,YK,YL,YM,YN,YO,YP,YQ,YR,YS,YT,YU,YV,YW,YX,YY,reduceIte,reduceCtorEq,ite_true,ite_false,if_true,if_false,YZ,Z0,Z1,Z2,Z3,Z4,and_true,true_and,and_self,true_imp_iff,false_imp_iff,eq_self,not_true_eq_false,not_false_eq_true,ne_eq,decide_true,decide_false,Z5,Z6,Z7,Z8,Z9,Za,Zb,Zc,Zd,Ze,Zf,Zg,Zh,Zi,Zj,Zk,Zl,Tryd.underlying3,Tryd.cs3,Tryd.bt3,Tryd.pa3,Tryd.zr3,Tryd.underlying4,Tryd.cs4,Tryd.bt4,Tryd.pa4,Tryd.ty4,Tryd.zr4,Tryd.underlying22,Tryd.cs22,Tryd.bt22,Tryd.pa22,Tryd.ty22,Tryd.sl22,Tryd.zr22,Tryd.underlying24,Tryd.cs24,Tryd.bt24,Tryd.pa24,Tryd.ty24,Tryd.zr24,Tryd.pl24,Tryd.eq24,Tryd.fd24_0,Tryd.fd24_1,Tryd.fd24_2,Tryd.underlying27,Tryd.cs27,Tryd.bt27,Tryd.pa27,Tryd.zr27]
          exact ⟨i + 1, rfl, by omega, by omega⟩
    · have ha2 := addI_far hn.1 hn.2 (show 0 ≤ m + k by omega) (by omega) hb2
      rw [ha2] at c2
      by_cases hb1 : numD (addD (dateI n) m) ≤ 131072
      · have ha1 := addI_ok hn.1 hn.2 (show 0 ≤ m by omega) (by omega) hb1
        rw [ha1] at c1
        simp -implicitDefEqProofs only [d1,hget,Q0,Q1,Q2,Q3,Q4,Q5,Q6,Q7,Q8,Q9,Qa,Qb,Qc,Qd,Qe,Qf,Qg,Qh,Qi,Qj,Qk,Ql,Qm,Qn,Qo,Qp,Qq,Qr,Qs,Qt,Qu,Qv,Qw,Qx,Qy,Qz,QA,QB,QC,QD,QE,QF,QG,QH,QI,QJ,QK,QL,QM,QN,QO,QP,QQ,QR,QS,QT,QU,QV,QW,QX,QY,QZ,X0,X1,X2,X3,X4,X5,X6,X7,X8,X9,Xa,Xb,Xc,Xd,Xe,Xf,Xg,Xh,Xi,Xj,Xk,Xl,Xm,Xn,Xo,Xp,Xq,Xr,Xs,Xt,Xu,Xv,Xw,Xx,Xy,Xz,XA,XB,XC,XD,XE,XF,XG,XH,XI,XJ,XK,XL,XM,XN,XO,XP,XQ,XR,XS,XT,XU,XV,XW,XX,XY,XZ,Y0,Y1,Y2,Y3,Y4,Y5,Y6,Y7,Y8,Y9,Ya,Yb,Yc,Yd,Ye,Yf,Yg,Yh,Yi,Yj,Yk,Yl,Ym,Yn,Yo,Yp,Yq,Yr,Ys,Yt,Yu,Yv,Yw,Yx,Yy,Yz,YA,YB,YC,YD,YE,YF,YG,YH,YI,YJ,YK,YL,YM,YN,YO,YP,YQ,YR,YS,YT,YU,YV,YW,YX,YY,reduceIte,reduceCtorEq,ite_true,ite_false,if_true,if_false,YZ,Z0,Z1,Z2,Z3,Z4,and_true,true_and,and_self,true_imp_iff,false_imp_iff,eq_self,not_true_eq_false,not_false_eq_true,ne_eq,decide_true,decide_false,Z5,Z6,Z7,Z8,Z9,Za,Zb,Zc,Zd,Ze,Zf,Zg,Zh,Zi,Zj,Zk,Zl,Tryd.underlying3,Tryd.cs3,Tryd.bt3,Tryd.pa3,Tryd.zr3,Tryd.underlying4,Tryd.cs4,Tryd.bt4,Tryd.pa4,Tryd.ty4,Tryd.zr4,Tryd.underlying22,Tryd.cs22,Tryd.bt22,Tryd.pa22,Tryd.ty22,Tryd.sl22,Tryd.zr22,Tryd.underlying24,Tryd.cs24,Tryd.bt24,Tryd.pa24,Tryd.ty24,Tryd.zr24,Tryd.pl24,Tryd.eq24,Tryd.fd24_0,Tryd.fd24_1,Tryd.fd24_2,Tryd.underlying27,Tryd.cs27,Tryd.bt27,Tryd.pa27,Tryd.zr27]
        refine ⟨by omega, ?_⟩
        refine acalls_then (c1 _) ?_
        simp -implicitDefEqProofs only [w1,hget,Q0,Q1,Q2,Q3,Q4,Q5,Q6,Q7,Q8,Q9,Qa,Qb,Qc,Qd,Qe,Qf,Qg,Qh,Qi,Qj,Qk,Ql,Qm,Qn,Qo,Qp,Qq,Qr,Qs,Qt,Qu,Qv,Qw,Qx,Qy,Qz,QA,QB,QC,QD,QE,QF,QG,QH,QI,QJ,QK,QL,QM,QN,QO,QP,QQ,QR,QS,QT,QU,QV,QW,QX,QY,QZ,X0,X1,X2,X3,X4,X5,X6,X7,X8,X9,Xa,Xb,Xc,Xd,Xe,Xf,Xg,Xh,Xi,Xj,Xk,Xl,Xm,Xn,Xo,Xp,Xq,Xr,Xs,Xt,Xu,Xv,Xw,Xx,Xy,Xz,XA,XB,XC,XD,XE,XF,XG,XH,XI,XJ,XK,XL,XM,XN,XO,XP,XQ,XR,XS,XT,XU,XV,XW,XX,XY,XZ,Y0,Y1,Y2,Y3,Y4,Y5,Y6,Y7,Y8,Y9,Ya,Yb,Yc,Yd,Ye,Yf,Yg,Yh,Yi,Yj,Yk,Yl,Ym,Yn,Yo,Yp,Yq,Yr,Ys,Yt,Yu,Yv,Yw,Yx,Yy,Yz,YA,YB,YC,YD,YE,YF,YG,YH,YI,YJ,YK,YL,YM,YN,YO,YP,YQ,YR,YS,YT,YU,YV,YW,YX,YY,reduceIte,reduceCtorEq,ite_true,ite_false,if_true,if_false,YZ,Z0,Z1,Z2,Z3,Z4,and_true,true_and,and_self,true_imp_iff,false_imp_iff,eq_self,not_true_eq_false,not_false_eq_true,ne_eq,decide_true,decide_false,Z5,Z6,Z7,Z8,Z9,Za,Zb,Zc,Zd,Ze,Zf,Zg,Zh,Zi,Zj,Zk,Zl,Tryd.underlying3,Tryd.cs3,Tryd.bt3,Tryd.pa3,Tryd.zr3,Tryd.underlying4,Tryd.cs4,Tryd.bt4,Tryd.pa4,Tryd.ty4,Tryd.zr4,Tryd.underlying22,Tryd.cs22,Tryd.bt22,Tryd.pa22,Tryd.ty22,Tryd.sl22,Tryd.zr22,Tryd.underlying24,Tryd.cs24,Tryd.bt24,Tryd.pa24,Tryd.ty24,Tryd.zr24,Tryd.pl24,Tryd.eq24,Tryd.fd24_0,Tryd.fd24_1,Tryd.fd24_2,Tryd.underlying27,Tryd.cs27,Tryd.bt27,Tryd.pa27,Tryd.zr27]
        refine ⟨by omega, ?_⟩
        refine acalls_then (c2 _) ?_
        simp -implicitDefEqProofs only [wi,Q0,Q1,Q2,Q3,Q4,Q5,Q6,Q7,Q8,Q9,Qa,Qb,Qc,Qd,Qe,Qf,Qg,Qh,Qi,Qj,Qk,Ql,Qm,Qn,Qo,Qp,Qq,Qr,Qs,Qt,Qu,Qv,Qw,Qx,Qy,Qz,QA,QB,QC,QD,QE,QF,QG,QH,QI,QJ,QK,QL,QM,QN,QO,QP,QQ,QR,QS,QT,QU,QV,QW,QX,QY,QZ,X0,X1,X2,X3,X4,X5,X6,X7,X8,X9,Xa,Xb,Xc,Xd,Xe,Xf,Xg,Xh,Xi,Xj,Xk,Xl,Xm,Xn,Xo,Xp,Xq,Xr,Xs,Xt,Xu,Xv,Xw,Xx,Xy,Xz,XA,XB,XC,XD,XE,XF,XG,XH,XI,XJ,XK,XL,XM,XN,XO,XP,XQ,XR,XS,XT,XU,XV,XW,XX,XY,XZ,Y0,Y1,Y2,Y3,Y4,Y5,Y6,Y7,Y8,Y9,Ya,Yb,Yc,Yd,Ye,Yf,Yg,Yh,Yi,Yj,Yk,Yl,Ym,Yn,Yo,Yp,Yq,Yr,Ys,Yt,Yu,Yv,Yw,Yx,Yy,Yz,YA,YB,YC,YD,YE,YF,YG,YH,YI,YJ,YK,YL,YM,YN,YO,YP,YQ,YR,YS,YT,YU,YV,YW,YX,YY,reduceIte,reduceCtorEq,ite_true,ite_false,if_true,if_false,YZ,Z0,Z1,Z2,Z3,Z4,and_true,true_and,and_self,true_imp_iff,false_imp_iff,eq_self,not_true_eq_false,not_false_eq_true,ne_eq,decide_true,decide_false,Z5,Z6,Z7,Z8,Z9,Za,Zb,Zc,Zd,Ze,Zf,Zg,Zh,Zi,Zj,Zk,Zl,Tryd.underlying3,Tryd.cs3,Tryd.bt3,Tryd.pa3,Tryd.zr3,Tryd.underlying4,Tryd.cs4,Tryd.bt4,Tryd.pa4,Tryd.ty4,Tryd.zr4,Tryd.underlying22,Tryd.cs22,Tryd.bt22,Tryd.pa22,Tryd.ty22,Tryd.sl22,Tryd.zr22,Tryd.underlying24,Tryd.cs24,Tryd.bt24,Tryd.pa24,Tryd.ty24,Tryd.zr24,Tryd.pl24,Tryd.eq24,Tryd.fd24_0,Tryd.fd24_1,Tryd.fd24_2,Tryd.underlying27,Tryd.cs27,Tryd.bt27,Tryd.pa27,Tryd.zr27]
        exact ⟨i + 1, rfl, by omega, by omega⟩
      · have ha1 := addI_far hn.1 hn.2 (show 0 ≤ m by omega) (by omega) hb1
        rw [ha1] at c1
        simp -implicitDefEqProofs only [d1,hget,Q0,Q1,Q2,Q3,Q4,Q5,Q6,Q7,Q8,Q9,Qa,Qb,Qc,Qd,Qe,Qf,Qg,Qh,Qi,Qj,Qk,Ql,Qm,Qn,Qo,Qp,Qq,Qr,Qs,Qt,Qu,Qv,Qw,Qx,Qy,Qz,QA,QB,QC,QD,QE,QF,QG,QH,QI,QJ,QK,QL,QM,QN,QO,QP,QQ,QR,QS,QT,QU,QV,QW,QX,QY,QZ,X0,X1,X2,X3,X4,X5,X6,X7,X8,X9,Xa,Xb,Xc,Xd,Xe,Xf,Xg,Xh,Xi,Xj,Xk,Xl,Xm,Xn,Xo,Xp,Xq,Xr,Xs,Xt,Xu,Xv,Xw,Xx,Xy,Xz,XA,XB,XC,XD,XE,XF,XG,XH,XI,XJ,XK,XL,XM,XN,XO,XP,XQ,XR,XS,XT,XU,XV,XW,XX,XY,XZ,Y0,Y1,Y2,Y3,Y4,Y5,Y6,Y7,Y8,Y9,Ya,Yb,Yc,Yd,Ye,Yf,Yg,Yh,Yi,Yj,Yk,Yl,Ym,Yn,Yo,Yp,Yq,Yr,Ys,Yt,Yu,Yv,Yw,Yx,Yy,Yz,YA,YB,YC,YD,YE,YF,YG,YH,YI,YJ,YK,YL,YM,YN,YO,YP,YQ,YR,YS,YT,YU,YV,YW,YX,YY,reduceIte,reduceCtorEq,ite_true,ite_false,if_true,if_false,YZ,Z0,Z1,Z2,Z3,Z4,and_true,true_and,and_self,true_imp_iff,false_imp_iff,eq_self,not_true_eq_false,not_false_eq_true,ne_eq,decide_true,decide_false,Z5,Z6,Z7,Z8,Z9,Za,Zb,Zc,Zd,Ze,Zf,Zg,Zh,Zi,Zj,Zk,Zl,Tryd.underlying3,Tryd.cs3,Tryd.bt3,Tryd.pa3,Tryd.zr3,Tryd.underlying4,Tryd.cs4,Tryd.bt4,Tryd.pa4,Tryd.ty4,Tryd.zr4,Tryd.underlying22,Tryd.cs22,Tryd.bt22,Tryd.pa22,Tryd.ty22,Tryd.sl22,Tryd.zr22,Tryd.underlying24,Tryd.cs24,Tryd.bt24,Tryd.pa24,Tryd.ty24,Tryd.zr24,Tryd.pl24,Tryd.eq24,Tryd.fd24_0,Tryd.fd24_1,Tryd.fd24_2,Tryd.underlying27,Tryd.cs27,Tryd.bt27,Tryd.pa27,Tryd.zr27]
        refine ⟨by omega, ?_⟩
        refine acalls_then (c1 _) ?_
        simp -implicitDefEqProofs only [w1,hget,Q0,Q1,Q2,Q3,Q4,Q5,Q6,Q7,Q8,Q9,Qa,Qb,Qc,Qd,Qe,Qf,Qg,Qh,Qi,Qj,Qk,Ql,Qm,Qn,Qo,Qp,Qq,Qr,Qs,Qt,Qu,Qv,Qw,Qx,Qy,Qz,QA,QB,QC,QD,QE,QF,QG,QH,QI,QJ,QK,QL,QM,QN,QO,QP,QQ,QR,QS,QT,QU,QV,QW,QX,QY,QZ,X0,X1,X2,X3,X4,X5,X6,X7,X8,X9,Xa,Xb,Xc,Xd,Xe,Xf,Xg,Xh,Xi,Xj,Xk,Xl,Xm,Xn,Xo,Xp,Xq,Xr,Xs,Xt,Xu,Xv,Xw,Xx,Xy,Xz,XA,XB,XC,XD,XE,XF,XG,XH,XI,XJ,XK,XL,XM,XN,XO,XP,XQ,XR,XS,XT,XU,XV,XW,XX,XY,XZ,Y0,Y1,Y2,Y3,Y4,Y5,Y6,Y7,Y8,Y9,Ya,Yb,Yc,Yd,Ye,Yf,Yg,Yh,Yi,Yj,Yk,Yl,Ym,Yn,Yo,Yp,Yq,Yr,Ys,Yt,Yu,Yv,Yw,Yx,Yy,Yz,YA,YB,YC,YD,YE,YF,YG,YH,YI,YJ,YK,YL,YM,YN,YO,YP,YQ,YR,YS,YT,YU,YV,YW,YX,YY,reduceIte,reduceCtorEq,ite_true,ite_false,if_true,if_false,YZ,Z0,Z1,Z2,Z3,Z4,and_true,true_and,and_self,true_imp_iff,false_imp_iff,eq_self,not_true_eq_false,not_false_eq_true,ne_eq,decide_true,decide_false,Z5,Z6,Z7,Z8,Z9,Za,Zb,Zc,Zd,Ze,Zf,Zg,Zh,Zi,Zj,Zk,Zl,Tryd.underlying3,Tryd.cs3,Tryd.bt3,Tryd.pa3,Tryd.zr3,Tryd.underlying4,Tryd.cs4,Tryd.bt4,Tryd.pa4,Tryd.ty4,Tryd.zr4,Tryd.underlying22,Tryd.cs22,Tryd.bt22,Tryd.pa22,Tryd.ty22,Tryd.sl22,Tryd.zr22,Tryd.underlying24,Tryd.cs24,Tryd.bt24,Tryd.pa24,Tryd.ty24,Tryd.zr24,Tryd.pl24,Tryd.eq24,Tryd.fd24_0,Tryd.fd24_1,Tryd.fd24_2,Tryd.underlying27,Tryd.cs27,Tryd.bt27,Tryd.pa27,Tryd.zr27]
        refine ⟨by omega, ?_⟩
        refine acalls_then (c2 _) ?_
        simp -implicitDefEqProofs only [wi,Q0,Q1,Q2,Q3,Q4,Q5,Q6,Q7,Q8,Q9,Qa,Qb,Qc,Qd,Qe,Qf,Qg,Qh,Qi,Qj,Qk,Ql,Qm,Qn,Qo,Qp,Qq,Qr,Qs,Qt,Qu,Qv,Qw,Qx,Qy,Qz,QA,QB,QC,QD,QE,QF,QG,QH,QI,QJ,QK,QL,QM,QN,QO,QP,QQ,QR,QS,QT,QU,QV,QW,QX,QY,QZ,X0,X1,X2,X3,X4,X5,X6,X7,X8,X9,Xa,Xb,Xc,Xd,Xe,Xf,Xg,Xh,Xi,Xj,Xk,Xl,Xm,Xn,Xo,Xp,Xq,Xr,Xs,Xt,Xu,Xv,Xw,Xx,Xy,Xz,XA,XB,XC,XD,XE,XF,XG,XH,XI,XJ,XK,XL,XM,XN,XO,XP,XQ,XR,XS,XT,XU,XV,XW,XX,XY,XZ,Y0,Y1,Y2,Y3,Y4,Y5,Y6,Y7,Y8,Y9,Ya,Yb,Yc,Yd,Ye,Yf,Yg,Yh,Yi,Yj,Yk,Yl,Ym,Yn,Yo,Yp,Yq,Yr,Ys,Yt,Yu,Yv,Yw,Yx,Yy,Yz,YA,YB,YC,YD,YE,YF,YG,YH,YI,YJ,YK,YL,YM,YN,YO,YP,YQ,YR,YS,YT,YU,YV,YW,YX,YY,reduceIte,reduceCtorEq,ite_true,ite_false,if_true,if_false,YZ,Z0,Z1,Z2,Z3,Z4,and_true,true_and,and_self,true_imp_iff,false_imp_iff,eq_self,not_true_eq_false,not_false_eq_true,ne_eq,decide_true,decide_false,Z5,Z6,Z7,Z8,Z9,Za,Zb,Zc,Zd,Ze,Zf,Zg,Zh,Zi,Zj,Zk,Zl,Tryd.underlying3,Tryd.cs3,Tryd.bt3,Tryd.pa3,Tryd.zr3,Tryd.underlying4,Tryd.cs4,Tryd.bt4,Tryd.pa4,Tryd.ty4,Tryd.zr4,Tryd.underlying22,Tryd.cs22,Tryd.bt22,Tryd.pa22,Tryd.ty22,Tryd.sl22,Tryd.zr22,Tryd.underlying24,Tryd.cs24,Tryd.bt24,Tryd.pa24,Tryd.ty24,Tryd.zr24,Tryd.pl24,Tryd.eq24,Tryd.fd24_0,Tryd.fd24_1,Tryd.fd24_2,Tryd.underlying27,Tryd.cs27,Tryd.bt27,Tryd.pa27,Tryd.zr27]
        exact ⟨i + 1, rfl, by omega, by omega⟩
  · have d1 : decide ((i : Int) < (all.length : Int)) = false := decide_eq_false (by omega)
    simp -implicitDefEqProofs only [d1,Q0,Q1,Q2,Q3,Q4,Q5,Q6,Q7,Q8,Q9,Qa,Qb,Qc,Qd,Qe,Qf,Qg,Qh,Qi,Qj,Qk,Ql,Qm,Qn,Qo,Qp,Qq,Qr,Qs,Qt,Qu,Qv,Qw,Qx,Qy,Qz,QA,QB,QC,QD,QE,QF,QG,QH,QI,QJ,QK,QL,QM,QN,QO,QP,QQ,QR,QS,QT,QU,QV,QW,QX,QY,QZ,X0,X1,X2,X3,X4,X5,X6,X7,X8,X9,Xa,Xb,Xc,Xd,Xe,Xf,Xg,Xh,Xi,Xj,Xk,Xl,Xm,Xn,Xo,Xp,Xq,Xr,Xs,Xt,Xu,Xv,Xw,Xx,Xy,Xz,XA,XB,XC,XD,XE,XF,XG,XH,XI,XJ,XK,XL,XM,XN,XO,XP,XQ,XR,XS,XT,XU,XV,XW,XX,XY,XZ,Y0,Y1,Y2,Y3,Y4,Y5,Y6,Y7,Y8,Y9,Ya,Yb,Yc,Yd,Ye,Yf,Yg,Yh,Yi,Yj,Yk,Yl,Ym,Yn,Yo,Yp,Yq,Yr,Ys,Yt,Yu,Yv,Yw,Yx,Yy,Yz,YA,YB,YC,YD,YE,YF,YG,YH,YI,YJ,YK,YL,YM,YN,YO,YP,YQ,YR,YS,YT,YU,YV,YW,YX,YY,reduceIte,reduceCtorEq,ite_true,ite_false,if_true,if_false,YZ,Z0,Z1,Z2,Z3,Z4,and_true,true_and,and_self,true_imp_iff,false_imp_iff,eq_self,not_true_eq_false,not_false_eq_true,ne_eq,decide_true,decide_false,Z5,Z6,Z7,Z8,Z9,Za,Zb,Zc,Zd,Ze,Zf,Zg,Zh,Zi,Zj,Zk,Zl,Tryd.underlying3,Tryd.cs3,Tryd.bt3,Tryd.pa3,Tryd.zr3,Tryd.underlying4,Tryd.cs4,Tryd.bt4,Tryd.pa4,Tryd.ty4,Tryd.zr4,Tryd.underlying22,Tryd.cs22,Tryd.bt22,Tryd.pa22,Tryd.ty22,Tryd.sl22,Tryd.zr22,Tryd.underlying24,Tryd.cs24,Tryd.bt24,Tryd.pa24,Tryd.ty24,Tryd.zr24,Tryd.pl24,Tryd.eq24,Tryd.fd24_0,Tryd.fd24_1,Tryd.fd24_2,Tryd.underlying27,Tryd.cs27,Tryd.bt27,Tryd.pa27,Tryd.zr27]
    refine acalls_then (lives13 _) ?_
    simp -implicitDefEqProofs only [Q0,Q1,Q2,Q3,Q4,Q5,Q6,Q7,Q8,Q9,Qa,Qb,Qc,Qd,Qe,Qf,Qg,Qh,Qi,Qj,Qk,Ql,Qm,Qn,Qo,Qp,Qq,Qr,Qs,Qt,Qu,Qv,Qw,Qx,Qy,Qz,QA,QB,QC,QD,QE,QF,QG,QH,QI,QJ,QK,QL,QM,QN,QO,QP,QQ,QR,QS,QT,QU,QV,QW,QX,QY,QZ,X0,X1,X2,X3,X4,X5,X6,X7,X8,X9,Xa,Xb,Xc,Xd,Xe,Xf,Xg,Xh,Xi,Xj,Xk,Xl,Xm,Xn,Xo,Xp,Xq,Xr,Xs,Xt,Xu,Xv,Xw,Xx,Xy,Xz,XA,XB,XC,XD,XE,XF,XG,XH,XI,XJ,XK,XL,XM,XN,XO,XP,XQ,XR,XS,XT,XU,XV,XW,XX,XY,XZ,Y0,Y1,Y2,Y3,Y4,Y5,Y6,Y7,Y8,Y9,Ya,Yb,Yc,Yd,Ye,Yf,Yg,Yh,Yi,Yj,Yk,Yl,Ym,Yn,Yo,Yp,Yq,Yr,Ys,Yt,Yu,Yv,Yw,Yx,Yy,Yz,YA,YB,YC,YD,YE,YF,YG,YH,YI,YJ,YK,YL,YM,YN,YO,YP,YQ,YR,YS,YT,YU,YV,YW,YX,YY,reduceIte,reduceCtorEq,ite_true,ite_false,if_true,if_false,YZ,Z0,Z1,Z2,Z3,Z4,and_true,true_and,and_self,true_imp_iff,false_imp_iff,eq_self,not_true_eq_false,not_false_eq_true,ne_eq,decide_true,decide_false,Z5,Z6,Z7,Z8,Z9,Za,Zb,Zc,Zd,Ze,Zf,Zg,Zh,Zi,Zj,Zk,Zl,Tryd.underlying3,Tryd.cs3,Tryd.bt3,Tryd.pa3,Tryd.zr3,Tryd.underlying4,Tryd.cs4,Tryd.bt4,Tryd.pa4,Tryd.ty4,Tryd.zr4,Tryd.underlying22,Tryd.cs22,Tryd.bt22,Tryd.pa22,Tryd.ty22,Tryd.sl22,Tryd.zr22,Tryd.underlying24,Tryd.cs24,Tryd.bt24,Tryd.pa24,Tryd.ty24,Tryd.zr24,Tryd.pl24,Tryd.eq24,Tryd.fd24_0,Tryd.fd24_1,Tryd.fd24_2,Tryd.underlying27,Tryd.cs27,Tryd.bt27,Tryd.pa27,Tryd.zr27]

end Go.Proofs
