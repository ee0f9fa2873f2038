/-
  The Reader of the reference: methods.
-/
import Derived.Test.YtfjokhidiohiiaaWg
namespace Go.Proofs
open Go.Pa
open Go.Pa renaming vc_seq → Q0, vc_block → Q1, vc_exit → Q2, vc_ret → Q3, vc_skip → Q4, vc_region → Q5, vc_draw → Q6, vc_loop → Q7, vc_range → Q8, vc_cond → Q9, condV_true → Qa, condV_false → Qb, condV_bool → Qc, seqK_normal → Qd, seqK_ret → Qe, seqK_exit → Qf, blkK_normal → Qg, blkK_ret → Qh, blkK_exit → Qi, loopK_ret → Qj, loopK_exit → Qk, loopK_normal → Ql, vcOps_nil → Qm, vcOps_cons → Qn, vcOps_guardM → Qo, guardM_some → Qp, guardV_und → Qq, guardV_same → Qr, guardV_tf → Qs, guardV_ft → Qt, guardV_bool → Qu, vcOp_out → Qv, outV_val → Qw, outV_need → Qx, outV_no → Qy, opK_run → Qz, opK_none → QA, vcS → QB, evA → QC, evBin → QD, nilA → QE, nilOf → QF, intOp → QG, strOp → QH, evUn → QI, evConv → QJ, evField → QK, evFieldAddr → QL, evIndexAddr → QM, evIndex → QN, bnd → QO, evSlice → QP, evLen → QQ, evPick → QR, evExtract → QS, evNilCheck → QT, evMin → QU, evMax → QV, evLoadI → QW, cO_int → QX, cO_bool → QY, cO_str → QZ, cO_nils → X0, cO_emp → X1, cO_ints → X2, cO_rows → X3, cO_mvec → X4, cO_ptr → X5, cO_eptr → X6, cO_iptr → X7, cO_nilp → X8, cO_fn → X9, cO_nilf → Xa, cO_mp → Xb, cO_nilm → Xc, cO_glob → Xd, cO_agg → Xe, partsOne → Xg, intsOf → Xh, rowsAV → Xi, evBuildSlice → Xj, evBuild → Xk, fillA → Xl, splice → Xm, evBuiltin → Xn, vcE_nil → Xo, vcE_cons → Xp, vcE_guardM → Xq, guardME_some → Xr, guardD_und → Xs, guardD_same → Xt, guardD_tf → Xu, guardD_ft → Xv, guardD_bool → Xw, dK_run → Xx, dK_none → Xy, dOp_call → Xz, callA_fn → XA, dOp → XB, outA_val → XC, outA_need → XD, cl → XE, vcLoad → XF, vcStore → XG, vcMake → XH, evO_tmp → XI, evO_int → XJ, evO_bool → XK, evO_nils → XL, evO_nilp → XM, evO_nilf → XN, evO_nilm → XO, evO_str → XP, evO_func → XQ, evO_glob → XR, convA → XS, evIndexArr → XT, lookA_cons → XU, get_cons → XV, sub_cons → XW, sub_nil → XX, retK_ret → XY, retK_normal → XZ, retA → Y0, ressA → Y1, resA → Y2, envOf → Y3, vcR_skip → Y7, vcR_seq → Y8, vcR_block → Y9, vcR_exit → Ya, vcR_ret → Yb, vcR_region → Yc, vcR_draw → Yd, vcR_cond → Ye, condR_true → Yf, condR_false → Yg, condR_bool → Yh, seqR_normal → Yi, seqR_ret → Yj, seqR_exit → Yk, asgEnv → Yl, parEnv → Ym, dstAt → Z5, sto_assoc → Z6, sto_len → Z7, sto_at → Z8, sto_at0 → Z9, sto_set → Za, sto_set0 → Zb
open Go.Pa.AV renaming cell → Xf
open Go.Pa.Env renaming put → Y4
open List renaming set_cons_zero → Y5, set_cons_succ → Y6, foldl_cons → Yn, foldl_nil → Yo, map_cons → Yp, map_nil → Yq, toList_toArray → Yr, getElem?_cons_zero → Ys, getElem?_cons_succ → Yt, nil_append → Yx, append_nil → Yy, cons_append → Yz, singleton_append → YA, length_cons → YB, length_nil → YC, all_cons → YD, all_nil → YE, take_succ_cons → YF, take_zero → YG, take_nil → YH, drop_zero → YI, drop_succ_cons → YJ, drop_nil → YK, contains_nil → YL, contains_cons → YM
open Option renaming bind_some → Yu, map_some → Yv, map_none → Yw
open Bool renaming or_false → YN, false_or → YO, or_true → YP, true_or → YQ, false_eq_true → YZ, not_true → Z0, not_false → Z1, and_true → Z2, true_and → Z3, and_self → Z4
open Nat renaming reduceEqDiff → YR, reduceAdd → YS, reduceSub → YT, reduceMul → YU, reduceLT → YV, reduceLeDiff → YW, reduceBNe → YX, reduceBEq → YY, zero_add → Ze, add_zero → Zf
open UInt8 renaming reduceToNat → Zc
open Int renaming cast_ofNat_Int → Zd, reduceToNat → Zg, reduceLT → Zh, reduceLE → Zi, reduceNeg → Zj, reduceEq → Zk, reduceNe → Zl
set_option linter.unusedSimpArgs false
set_option maxRecDepth 20000
set_option maxHeartbeats 2000000

theorem uintM_step (f i n : Nat) (c : Int) (l : List Int) : uintM (f + 1) i n (c :: l) = if (i = 9 ∧ 1 < c) ∨ (0 < i ∧ c = 0) then (0, .er 2) else if c < 128 then (n + c.toNat * 128 ^ i, .ok l) else uintM f (i + 1) (n + (c - 128).toNat * 128 ^ i) l := rfl

theorem rr_uint (st : St) {s : Store} {id : Nat} {o : AObj} (h : s[id]? = some o) (ho : RdO st o) :
    ACalls Try.prog 50 [.ptr id 0] s (RdC s id (.int .u64 (uintT st).1) (uintT st).2) := by
  have hid := (List.getElem?_eq_some_iff.1 h).1
  obtain ⟨T, hT⟩ : ∃ T, T = uintT st := ⟨_, rfl⟩
  rw [← hT]
  cases st with
  | er e =>
    have hre := ho
    obtain ⟨h0, l, hl, rfl⟩ := ho
    simp only [rdO] at h
    have d : decide (e = 0) = false := decide_eq_false h0
    refine acalls_of_vc (fn := Try.f50) Try.call50 Try.func50 rfl (by kernel_rfl) (by simp [Try.ntmps50]) ?_; simp -implicitDefEqProofs only [Try.ntmps50,Try.results50,Q0,Q1,Q2,Q3,Q4,Q5,Q6,Q7,Q8,Q9,Qa,Qb,Qc,Qd,Qe,Qf,Qg,Qh,Qi,Qj,Qk,Ql,Qm,Qn,Qo,Qp,Qq,Qr,Qs,Qt,Qu,Qv,Qw,Qx,Qy,Qz,QA,QB,QC,QD,QE,QF,QG,QH,QI,QJ,QK,QL,QM,QN,QO,QP,QQ,QR,QS,QT,QU,QV,QW,QX,QY,QZ,X0,X1,X2,X3,X4,X5,X6,X7,X8,X9,Xa,Xb,Xc,Xd,Xe,Xf,Xg,Xh,Xi,Xj,Xk,Xl,Xm,Xn,Xo,Xp,Xq,Xr,Xs,Xt,Xu,Xv,Xw,Xx,Xy,Xz,XA,XB,XC,XD,XE,XF,XG,XH,XI,XJ,XK,XL,XM,XN,XO,XP,XQ,XR,XS,XT,XU,XV,XW,XX,XY,XZ,Y0,Y1,Y2,Y3,Y4,Y5,Y6,Y7,Y8,Y9,Ya,Yb,Yc,Yd,Ye,Yf,Yg,Yh,Yi,Yj,Yk,Yl,Ym,Yn,Yo,Yp,Yq,Yr,Ys,Yt,Yu,Yv,Yw,Yx,Yy,Yz,YA,YB,YC,YD,YE,YF,YG,YH,YI,YJ,YK,YL,YM,YN,YO,YP,YQ,YR,YS,YT,YU,YV,YW,YX,YY,reduceIte,reduceCtorEq,ite_true,ite_false,if_true,if_false,YZ,Z0,Z1,Z2,Z3,Z4,and_true,true_and,and_self,true_imp_iff,false_imp_iff,eq_self,not_true_eq_false,not_false_eq_true,ne_eq,decide_true,decide_false,Z5,Z6,Z7,Z8,Z9,Za,Zb,Zc,Zd,Ze,Zf,Zg,Zh,Zi,Zj,Zk,Zl,Try.underlying3,Try.cs3,Try.bt3,Try.pa3,Try.zr3,Try.underlying4,Try.cs4,Try.bt4,Try.pa4,Try.ty4,Try.zr4,Try.underlying5,Try.cs5,Try.bt5,Try.pa5,Try.zr5,Try.underlying22,Try.cs22,Try.bt22,Try.pa22,Try.zr22,Try.underlying24,Try.cs24,Try.bt24,Try.pa24,Try.ty24,Try.sl24,Try.zr24,Try.underlying41,Try.cs41,Try.bt41,Try.pa41,Try.ty41,Try.zr41,Try.underlying42,Try.cs42,Try.bt42,Try.pa42,Try.zr42,Try.underlying44,Try.cs44,Try.bt44,Try.pa44,Try.ty44,Try.zr44,Try.pl44,Try.fd44_0,Try.fd44_1]
    refine awp_loop (fun _ : Unit => [(0, .ptr id 0)]) (fun _ s' => s' = s) (fun _ => 0) () (by kernel_rfl) (by simp [sub_cons, sub_nil, get_cons]) rfl ?_
    rintro _ _ rfl
    simp -implicitDefEqProofs only [h,d,Q0,Q1,Q2,Q3,Q4,Q5,Q6,Q7,Q8,Q9,Qa,Qb,Qc,Qd,Qe,Qf,Qg,Qh,Qi,Qj,Qk,Ql,Qm,Qn,Qo,Qp,Qq,Qr,Qs,Qt,Qu,Qv,Qw,Qx,Qy,Qz,QA,QB,QC,QD,QE,QF,QG,QH,QI,QJ,QK,QL,QM,QN,QO,QP,QQ,QR,QS,QT,QU,QV,QW,QX,QY,QZ,X0,X1,X2,X3,X4,X5,X6,X7,X8,X9,Xa,Xb,Xc,Xd,Xe,Xf,Xg,Xh,Xi,Xj,Xk,Xl,Xm,Xn,Xo,Xp,Xq,Xr,Xs,Xt,Xu,Xv,Xw,Xx,Xy,Xz,XA,XB,XC,XD,XE,XF,XG,XH,XI,XJ,XK,XL,XM,XN,XO,XP,XQ,XR,XS,XT,XU,XV,XW,XX,XY,XZ,Y0,Y1,Y2,Y3,Y4,Y5,Y6,Y7,Y8,Y9,Ya,Yb,Yc,Yd,Ye,Yf,Yg,Yh,Yi,Yj,Yk,Yl,Ym,Yn,Yo,Yp,Yq,Yr,Ys,Yt,Yu,Yv,Yw,Yx,Yy,Yz,YA,YB,YC,YD,YE,YF,YG,YH,YI,YJ,YK,YL,YM,YN,YO,YP,YQ,YR,YS,YT,YU,YV,YW,YX,YY,reduceIte,reduceCtorEq,ite_true,ite_false,if_true,if_false,YZ,Z0,Z1,Z2,Z3,Z4,and_true,true_and,and_self,true_imp_iff,false_imp_iff,eq_self,not_true_eq_false,not_false_eq_true,ne_eq,decide_true,decide_false,Z5,Z6,Z7,Z8,Z9,Za,Zb,Zc,Zd,Ze,Zf,Zg,Zh,Zi,Zj,Zk,Zl,Try.underlying3,Try.cs3,Try.bt3,Try.pa3,Try.zr3,Try.underlying4,Try.cs4,Try.bt4,Try.pa4,Try.ty4,Try.zr4,Try.underlying5,Try.cs5,Try.bt5,Try.pa5,Try.zr5,Try.underlying22,Try.cs22,Try.bt22,Try.pa22,Try.zr22,Try.underlying24,Try.cs24,Try.bt24,Try.pa24,Try.ty24,Try.sl24,Try.zr24,Try.underlying41,Try.cs41,Try.bt41,Try.pa41,Try.ty41,Try.zr41,Try.underlying42,Try.cs42,Try.bt42,Try.pa42,Try.zr42,Try.underlying44,Try.cs44,Try.bt44,Try.pa44,Try.ty44,Try.zr44,Try.pl44,Try.fd44_0,Try.fd44_1]
    subst hT
    exact ⟨rfl, _, (sto_same h).symm, hre⟩
  | ok l =>
    obtain ⟨rfl, hl, hu⟩ := ho
    simp only [rdO] at h
    have d0 : decide ((0 : Int) = 0) = true := rfl
    refine acalls_of_vc (fn := Try.f50) Try.call50 Try.func50 rfl (by kernel_rfl) (by simp [Try.ntmps50]) ?_; simp -implicitDefEqProofs only [Try.ntmps50,Try.results50,Q0,Q1,Q2,Q3,Q4,Q5,Q6,Q7,Q8,Q9,Qa,Qb,Qc,Qd,Qe,Qf,Qg,Qh,Qi,Qj,Qk,Ql,Qm,Qn,Qo,Qp,Qq,Qr,Qs,Qt,Qu,Qv,Qw,Qx,Qy,Qz,QA,QB,QC,QD,QE,QF,QG,QH,QI,QJ,QK,QL,QM,QN,QO,QP,QQ,QR,QS,QT,QU,QV,QW,QX,QY,QZ,X0,X1,X2,X3,X4,X5,X6,X7,X8,X9,Xa,Xb,Xc,Xd,Xe,Xf,Xg,Xh,Xi,Xj,Xk,Xl,Xm,Xn,Xo,Xp,Xq,Xr,Xs,Xt,Xu,Xv,Xw,Xx,Xy,Xz,XA,XB,XC,XD,XE,XF,XG,XH,XI,XJ,XK,XL,XM,XN,XO,XP,XQ,XR,XS,XT,XU,XV,XW,XX,XY,XZ,Y0,Y1,Y2,Y3,Y4,Y5,Y6,Y7,Y8,Y9,Ya,Yb,Yc,Yd,Ye,Yf,Yg,Yh,Yi,Yj,Yk,Yl,Ym,Yn,Yo,Yp,Yq,Yr,Ys,Yt,Yu,Yv,Yw,Yx,Yy,Yz,YA,YB,YC,YD,YE,YF,YG,YH,YI,YJ,YK,YL,YM,YN,YO,YP,YQ,YR,YS,YT,YU,YV,YW,YX,YY,reduceIte,reduceCtorEq,ite_true,ite_false,if_true,if_false,YZ,Z0,Z1,Z2,Z3,Z4,and_true,true_and,and_self,true_imp_iff,false_imp_iff,eq_self,not_true_eq_false,not_false_eq_true,ne_eq,decide_true,decide_false,Z5,Z6,Z7,Z8,Z9,Za,Zb,Zc,Zd,Ze,Zf,Zg,Zh,Zi,Zj,Zk,Zl,Try.underlying3,Try.cs3,Try.bt3,Try.pa3,Try.zr3,Try.underlying4,Try.cs4,Try.bt4,Try.pa4,Try.ty4,Try.zr4,Try.underlying5,Try.cs5,Try.bt5,Try.pa5,Try.zr5,Try.underlying22,Try.cs22,Try.bt22,Try.pa22,Try.zr22,Try.underlying24,Try.cs24,Try.bt24,Try.pa24,Try.ty24,Try.sl24,Try.zr24,Try.underlying41,Try.cs41,Try.bt41,Try.pa41,Try.ty41,Try.zr41,Try.underlying42,Try.cs42,Try.bt42,Try.pa42,Try.zr42,Try.underlying44,Try.cs44,Try.bt44,Try.pa44,Try.ty44,Try.zr44,Try.pl44,Try.fd44_0,Try.fd44_1]
    refine awp_loop (fun p : Nat × Nat => [(5, .int .i64 p.1), (3, .int .u64 p.2), (4, .int .u64 ((128 ^ p.1 : Nat) : Int)), (0, .ptr id 0)]) (fun p s' => s' = s ∧ p.1 ≤ 9 ∧ p.2 < 128 ^ p.1 ∧ T = uintM (10 - p.1) p.1 p.2 (l.drop p.1)) (fun p => 10 - p.1) (0, 0) (by kernel_rfl) (by simp [sub_cons, sub_nil, get_cons]) ⟨rfl, by simp, by simp, hT⟩ ?_
    rintro ⟨i, n⟩ s1 ⟨rfl, hi, hn, hT2⟩
    simp only at hi hn hT2
    by_cases hil : i < l.length
    · obtain ⟨c, hc⟩ : ∃ c, c = l[i] := ⟨_, rfl⟩
      have hcu := hu c (by rw [hc]; exact List.getElem_mem hil)
      have hget : l.getD ((i : Int)).toNat 0 = c := by rw [Int.toNat_natCast, getD_get hil, hc]
      rw [List.drop_eq_getElem_cons hil, ← hc, show 10 - i = (9 - i) + 1 by omega, uintM_step] at hT2
      have hTe : (i = 9 ∧ 1 < c) ∨ (0 < i ∧ c = 0) → T = (0, .er 2) := fun q => by rw [if_pos q] at hT2; exact hT2
      obtain ⟨d, hd⟩ : ∃ d : Nat, c.tmod 128 = (d : Int) ∧ (c < 128 → d = c.toNat) ∧ (¬ c < 128 → d = (c - 128).toNat) ∧ d < 128 := by
        refine ⟨(c % 128).toNat, ?_, ?_, ?_, ?_⟩
        · rw [Int.tmod_eq_emod_of_nonneg hcu.1]; omega
        · omega
        · omega
        · omega
      have hTs : ¬ ((i = 9 ∧ 1 < c) ∨ (0 < i ∧ c = 0)) → c < 128 → T = (n + d * 128 ^ i, .ok (l.drop (i + 1))) := fun q q' => by rw [if_neg q, if_pos q'] at hT2; rw [hd.2.1 q']; exact hT2
      have hTc : ¬ ((i = 9 ∧ 1 < c) ∨ (0 < i ∧ c = 0)) → ¬ c < 128 → T = uintM (10 - (i + 1)) (i + 1) (n + d * 128 ^ i) (l.drop (i + 1)) := fun q q' => by rw [if_neg q, if_neg q'] at hT2; rw [hd.2.2.1 q', show 10 - (i + 1) = 9 - i by omega]; exact hT2
      clear hT2
      have hp9 := pow128 hi
      have hfit : (i = 9 → d ≤ 1) → n + d * 128 ^ i < 18446744073709551616 := by
        intro h9
        by_cases h : i = 9
        · have hm : d ≤ 1 := h9 h
          have := Nat.mul_le_mul_right (128 ^ i) hm
          subst h
          omega
        · have h4 : (128 : Nat) ^ (i + 1) ≤ 128 ^ 9 := Nat.pow_le_pow_right (by omega) (by omega)
          have hm : d ≤ 127 := by omega
          have h5 := Nat.mul_le_mul_right (128 ^ i) hm
          have h6 : (128 : Nat) ^ (i + 1) = 128 * 128 ^ i := by rw [Nat.pow_succ, Nat.mul_comm]
          omega
      have edrop : List.take ((l.length : Int).toNat - ((i + 1 : Nat) : Int).toNat) (List.drop ((i + 1 : Nat) : Int).toNat l) = l.drop (i + 1) := by
        rw [Int.toNat_natCast, Int.toNat_natCast]; exact List.take_of_length_le (by simp)
      have dge : decide ((l.length : Int) ≤ (i : Int)) = false := decide_eq_false (by omega)
      have w0 : IntKind.u64.wrap (d : Int) = (d : Int) := wrap_u64 (by omega) (by omega)
      have wi : IntKind.i64.wrap ((i : Int) + 1) = ((i + 1 : Nat) : Int) := by rw [wrap_i64 (by omega) (by omega)]; rfl
      by_cases hbad : (i = 9 ∧ 1 < c) ∨ (0 < i ∧ c = 0)
      · have hT3 := hTe hbad
        subst hT3
        repeat' (first | simp -implicitDefEqProofs only [h,d0,dge,hget,Q0,Q1,Q2,Q3,Q4,Q5,Q6,Q7,Q8,Q9,Qa,Qb,Qd,Qe,Qf,Qg,Qh,Qi,Qj,Qk,Ql,Qm,Qn,Qo,Qp,Qq,Qr,Qs,Qt,Qv,Qw,Qx,Qy,Qz,QA,QB,QC,QD,QE,QF,QG,QH,QI,QJ,QK,QL,QM,QN,QO,QP,QQ,QR,QS,QT,QU,QV,QW,QX,QY,QZ,X0,X1,X2,X3,X4,X5,X6,X7,X8,X9,Xa,Xb,Xc,Xd,Xe,Xf,Xg,Xh,Xi,Xj,Xk,Xl,Xm,Xn,Xo,Xp,Xq,Xr,Xs,Xt,Xu,Xv,Xx,Xy,Xz,XA,XB,XC,XD,XE,XF,XG,XH,XI,XJ,XK,XL,XM,XN,XO,XP,XQ,XR,XS,XT,XU,XV,XW,XX,XY,XZ,Y0,Y1,Y2,Y3,Y4,Y5,Y6,Y7,Y8,Y9,Ya,Yb,Yc,Yd,Ye,Yf,Yg,Yi,Yj,Yk,Yl,Ym,Yn,Yo,Yp,Yq,Yr,Ys,Yt,Yu,Yv,Yw,Yx,Yy,Yz,YA,YB,YC,YD,YE,YF,YG,YH,YI,YJ,YK,YL,YM,YN,YO,YP,YQ,YR,YS,YT,YU,YV,YW,YX,YY,reduceIte,reduceCtorEq,ite_true,ite_false,if_true,if_false,YZ,Z0,Z1,Z2,Z3,Z4,and_true,true_and,and_self,true_imp_iff,false_imp_iff,eq_self,not_true_eq_false,not_false_eq_true,ne_eq,decide_true,decide_false,Z5,Z6,Z7,Z8,Z9,Za,Zb,Zc,Zd,Ze,Zf,Zg,Zh,Zi,Zj,Zk,Zl,Try.underlying3,Try.cs3,Try.bt3,Try.pa3,Try.zr3,Try.underlying4,Try.cs4,Try.bt4,Try.pa4,Try.ty4,Try.zr4,Try.underlying5,Try.cs5,Try.bt5,Try.pa5,Try.zr5,Try.underlying22,Try.cs22,Try.bt22,Try.pa22,Try.zr22,Try.underlying24,Try.cs24,Try.bt24,Try.pa24,Try.ty24,Try.sl24,Try.zr24,Try.underlying41,Try.cs41,Try.bt41,Try.pa41,Try.ty41,Try.zr41,Try.underlying42,Try.cs42,Try.bt42,Try.pa42,Try.zr42,Try.underlying44,Try.cs44,Try.bt44,Try.pa44,Try.ty44,Try.zr44,Try.pl44,Try.fd44_0,Try.fd44_1] | ((first | refine guardV_split (fun hwk => ?_) (fun hwk => ?_) | refine guardD_split (fun hwk => ?_) (fun hwk => ?_) | refine condV_split (fun hwk => ?_) (fun hwk => ?_) | refine condR_split (fun hwk => ?_) (fun hwk => ?_)) <;> (first | replace hwk := of_decide_eq_true hwk | replace hwk := of_decide_eq_false hwk | replace hwk := ndt hwk | replace hwk := ndf hwk | skip) <;> (first | (exfalso; omega) | skip)) | (refine And.intro ?_ ?_; omega))
        all_goals exact ⟨rfl, _, rfl, by decide, l, hl, rfl⟩
      · have hlt := hfit (fun e => by omega)
        have w1 : IntKind.u64.wrap ((d : Int) * ((128 ^ i : Nat) : Int)) = ((d * 128 ^ i : Nat) : Int) := by rw [← Int.natCast_mul]; exact wrap_u64 (by omega) (by omega)
        have w2 : IntKind.u64.wrap ((n : Int) + ((d * 128 ^ i : Nat) : Int)) = ((n + d * 128 ^ i : Nat) : Int) := by rw [← Int.natCast_add]; exact wrap_u64 (by omega) (by omega)
        by_cases hcs : c < 128
        · have hT3 := hTs hbad hcs
          subst hT3
          have dc : decide (c < 128) = true := decide_eq_true hcs
          repeat' (first | simp -implicitDefEqProofs only [h,d0,dge,hget,hd.1,w0,w1,w2,dc,wi,Q0,Q1,Q2,Q3,Q4,Q5,Q6,Q7,Q8,Q9,Qa,Qb,Qd,Qe,Qf,Qg,Qh,Qi,Qj,Qk,Ql,Qm,Qn,Qo,Qp,Qq,Qr,Qs,Qt,Qv,Qw,Qx,Qy,Qz,QA,QB,QC,QD,QE,QF,QG,QH,QI,QJ,QK,QL,QM,QN,QO,QP,QQ,QR,QS,QT,QU,QV,QW,QX,QY,QZ,X0,X1,X2,X3,X4,X5,X6,X7,X8,X9,Xa,Xb,Xc,Xd,Xe,Xf,Xg,Xh,Xi,Xj,Xk,Xl,Xm,Xn,Xo,Xp,Xq,Xr,Xs,Xt,Xu,Xv,Xx,Xy,Xz,XA,XB,XC,XD,XE,XF,XG,XH,XI,XJ,XK,XL,XM,XN,XO,XP,XQ,XR,XS,XT,XU,XV,XW,XX,XY,XZ,Y0,Y1,Y2,Y3,Y4,Y5,Y6,Y7,Y8,Y9,Ya,Yb,Yc,Yd,Ye,Yf,Yg,Yi,Yj,Yk,Yl,Ym,Yn,Yo,Yp,Yq,Yr,Ys,Yt,Yu,Yv,Yw,Yx,Yy,Yz,YA,YB,YC,YD,YE,YF,YG,YH,YI,YJ,YK,YL,YM,YN,YO,YP,YQ,YR,YS,YT,YU,YV,YW,YX,YY,reduceIte,reduceCtorEq,ite_true,ite_false,if_true,if_false,YZ,Z0,Z1,Z2,Z3,Z4,and_true,true_and,and_self,true_imp_iff,false_imp_iff,eq_self,not_true_eq_false,not_false_eq_true,ne_eq,decide_true,decide_false,Z5,Z6,Z7,Z8,Z9,Za,Zb,Zc,Zd,Ze,Zf,Zg,Zh,Zi,Zj,Zk,Zl,Try.underlying3,Try.cs3,Try.bt3,Try.pa3,Try.zr3,Try.underlying4,Try.cs4,Try.bt4,Try.pa4,Try.ty4,Try.zr4,Try.underlying5,Try.cs5,Try.bt5,Try.pa5,Try.zr5,Try.underlying22,Try.cs22,Try.bt22,Try.pa22,Try.zr22,Try.underlying24,Try.cs24,Try.bt24,Try.pa24,Try.ty24,Try.sl24,Try.zr24,Try.underlying41,Try.cs41,Try.bt41,Try.pa41,Try.ty41,Try.zr41,Try.underlying42,Try.cs42,Try.bt42,Try.pa42,Try.zr42,Try.underlying44,Try.cs44,Try.bt44,Try.pa44,Try.ty44,Try.zr44,Try.pl44,Try.fd44_0,Try.fd44_1] | ((first | refine guardV_split (fun hwk => ?_) (fun hwk => ?_) | refine guardD_split (fun hwk => ?_) (fun hwk => ?_) | refine condV_split (fun hwk => ?_) (fun hwk => ?_) | refine condR_split (fun hwk => ?_) (fun hwk => ?_)) <;> (first | replace hwk := of_decide_eq_true hwk | replace hwk := of_decide_eq_false hwk | replace hwk := ndt hwk | replace hwk := ndf hwk | skip) <;> (first | (exfalso; omega) | skip)) | (refine And.intro ?_ ?_; omega))
          all_goals exact ⟨rfl, rdO (l.drop (i + 1)) 0, by rw [edrop]; rfl, rfl, by simp; omega, fun x hx => hu x (List.mem_of_mem_drop hx)⟩
        · have hT3 := hTc hbad hcs
          have dc : decide (c < 128) = false := decide_eq_false hcs
          have w3 : IntKind.u64.wrap (((128 ^ i : Nat) : Int) * 128) = ((128 ^ (i + 1) : Nat) : Int) := by
            have h4 : (128 : Nat) ^ (i + 1) ≤ 128 ^ 9 := Nat.pow_le_pow_right (by omega) (by omega)
            rw [Nat.pow_succ] at h4 ⊢
            exact wrap_u64 (by omega) (by omega)
          repeat' (first | simp -implicitDefEqProofs only [h,d0,dge,hget,hd.1,w0,w1,w2,dc,wi,w3,Q0,Q1,Q2,Q3,Q4,Q5,Q6,Q7,Q8,Q9,Qa,Qb,Qd,Qe,Qf,Qg,Qh,Qi,Qj,Qk,Ql,Qm,Qn,Qo,Qp,Qq,Qr,Qs,Qt,Qv,Qw,Qx,Qy,Qz,QA,QB,QC,QD,QE,QF,QG,QH,QI,QJ,QK,QL,QM,QN,QO,QP,QQ,QR,QS,QT,QU,QV,QW,QX,QY,QZ,X0,X1,X2,X3,X4,X5,X6,X7,X8,X9,Xa,Xb,Xc,Xd,Xe,Xf,Xg,Xh,Xi,Xj,Xk,Xl,Xm,Xn,Xo,Xp,Xq,Xr,Xs,Xt,Xu,Xv,Xx,Xy,Xz,XA,XB,XC,XD,XE,XF,XG,XH,XI,XJ,XK,XL,XM,XN,XO,XP,XQ,XR,XS,XT,XU,XV,XW,XX,XY,XZ,Y0,Y1,Y2,Y3,Y4,Y5,Y6,Y7,Y8,Y9,Ya,Yb,Yc,Yd,Ye,Yf,Yg,Yi,Yj,Yk,Yl,Ym,Yn,Yo,Yp,Yq,Yr,Ys,Yt,Yu,Yv,Yw,Yx,Yy,Yz,YA,YB,YC,YD,YE,YF,YG,YH,YI,YJ,YK,YL,YM,YN,YO,YP,YQ,YR,YS,YT,YU,YV,YW,YX,YY,reduceIte,reduceCtorEq,ite_true,ite_false,if_true,if_false,YZ,Z0,Z1,Z2,Z3,Z4,and_true,true_and,and_self,true_imp_iff,false_imp_iff,eq_self,not_true_eq_false,not_false_eq_true,ne_eq,decide_true,decide_false,Z5,Z6,Z7,Z8,Z9,Za,Zb,Zc,Zd,Ze,Zf,Zg,Zh,Zi,Zj,Zk,Zl,Try.underlying3,Try.cs3,Try.bt3,Try.pa3,Try.zr3,Try.underlying4,Try.cs4,Try.bt4,Try.pa4,Try.ty4,Try.zr4,Try.underlying5,Try.cs5,Try.bt5,Try.pa5,Try.zr5,Try.underlying22,Try.cs22,Try.bt22,Try.pa22,Try.zr22,Try.underlying24,Try.cs24,Try.bt24,Try.pa24,Try.ty24,Try.sl24,Try.zr24,Try.underlying41,Try.cs41,Try.bt41,Try.pa41,Try.ty41,Try.zr41,Try.underlying42,Try.cs42,Try.bt42,Try.pa42,Try.zr42,Try.underlying44,Try.cs44,Try.bt44,Try.pa44,Try.ty44,Try.zr44,Try.pl44,Try.fd44_0,Try.fd44_1] | ((first | refine guardV_split (fun hwk => ?_) (fun hwk => ?_) | refine guardD_split (fun hwk => ?_) (fun hwk => ?_) | refine condV_split (fun hwk => ?_) (fun hwk => ?_) | refine condR_split (fun hwk => ?_) (fun hwk => ?_)) <;> (first | replace hwk := of_decide_eq_true hwk | replace hwk := of_decide_eq_false hwk | replace hwk := ndt hwk | replace hwk := ndf hwk | skip) <;> (first | (exfalso; omega) | skip)) | (refine And.intro ?_ ?_; omega))
          all_goals refine ⟨(i + 1, n + d * 128 ^ i), ⟨rfl, rfl, rfl⟩, ⟨by simp only; omega, ?_, hT3⟩, by simp only; omega⟩
          all_goals
            have hm : d ≤ 127 := by omega
            have h5 := Nat.mul_le_mul_right (128 ^ i) hm
            simp only [Nat.pow_succ]
            omega
    · have dge : decide ((l.length : Int) ≤ (i : Int)) = true := decide_eq_true (by omega)
      rw [List.drop_of_length_le (by omega), show 10 - i = (9 - i) + 1 by omega] at hT2
      replace hT2 : T = (0, .er 3) := hT2
      subst hT2
      simp -implicitDefEqProofs only [h,d0,dge,Q0,Q1,Q2,Q3,Q4,Q5,Q6,Q7,Q8,Q9,Qa,Qb,Qc,Qd,Qe,Qf,Qg,Qh,Qi,Qj,Qk,Ql,Qm,Qn,Qo,Qp,Qq,Qr,Qs,Qt,Qu,Qv,Qw,Qx,Qy,Qz,QA,QB,QC,QD,QE,QF,QG,QH,QI,QJ,QK,QL,QM,QN,QO,QP,QQ,QR,QS,QT,QU,QV,QW,QX,QY,QZ,X0,X1,X2,X3,X4,X5,X6,X7,X8,X9,Xa,Xb,Xc,Xd,Xe,Xf,Xg,Xh,Xi,Xj,Xk,Xl,Xm,Xn,Xo,Xp,Xq,Xr,Xs,Xt,Xu,Xv,Xw,Xx,Xy,Xz,XA,XB,XC,XD,XE,XF,XG,XH,XI,XJ,XK,XL,XM,XN,XO,XP,XQ,XR,XS,XT,XU,XV,XW,XX,XY,XZ,Y0,Y1,Y2,Y3,Y4,Y5,Y6,Y7,Y8,Y9,Ya,Yb,Yc,Yd,Ye,Yf,Yg,Yh,Yi,Yj,Yk,Yl,Ym,Yn,Yo,Yp,Yq,Yr,Ys,Yt,Yu,Yv,Yw,Yx,Yy,Yz,YA,YB,YC,YD,YE,YF,YG,YH,YI,YJ,YK,YL,YM,YN,YO,YP,YQ,YR,YS,YT,YU,YV,YW,YX,YY,reduceIte,reduceCtorEq,ite_true,ite_false,if_true,if_false,YZ,Z0,Z1,Z2,Z3,Z4,and_true,true_and,and_self,true_imp_iff,false_imp_iff,eq_self,not_true_eq_false,not_false_eq_true,ne_eq,decide_true,decide_false,Z5,Z6,Z7,Z8,Z9,Za,Zb,Zc,Zd,Ze,Zf,Zg,Zh,Zi,Zj,Zk,Zl,Try.underlying3,Try.cs3,Try.bt3,Try.pa3,Try.zr3,Try.underlying4,Try.cs4,Try.bt4,Try.pa4,Try.ty4,Try.zr4,Try.underlying5,Try.cs5,Try.bt5,Try.pa5,Try.zr5,Try.underlying22,Try.cs22,Try.bt22,Try.pa22,Try.zr22,Try.underlying24,Try.cs24,Try.bt24,Try.pa24,Try.ty24,Try.sl24,Try.zr24,Try.underlying41,Try.cs41,Try.bt41,Try.pa41,Try.ty41,Try.zr41,Try.underlying42,Try.cs42,Try.bt42,Try.pa42,Try.zr42,Try.underlying44,Try.cs44,Try.bt44,Try.pa44,Try.ty44,Try.zr44,Try.pl44,Try.fd44_0,Try.fd44_1]
      exact ⟨rfl, _, rfl, by decide, l, hl, rfl⟩

end Go.Proofs
