/-
  Heads as bytes: what is written.
-/
import Derived.Test.YtnkealmacacipaaWg
import Derived.Test.YtnkealmacacipaaGg
namespace Go.Proofs
open Go.Pa
open Go.Pa renaming vc_seq → Q0, vc_block → Q1, vc_exit → Q2, vc_ret → Q3, vc_skip → Q4, vc_region → Q5, vc_draw → Q6, vc_loop → Q7, vc_range → Q8, vc_cond → Q9, condV_true → Qa, condV_false → Qb, condV_bool → Qc, seqK_normal → Qd, seqK_ret → Qe, seqK_exit → Qf, blkK_normal → Qg, blkK_ret → Qh, blkK_exit → Qi, loopK_ret → Qj, loopK_exit → Qk, loopK_normal → Ql, vcOps_nil → Qm, vcOps_cons → Qn, vcOps_guardM → Qo, guardM_some → Qp, guardV_und → Qq, guardV_same → Qr, guardV_tf → Qs, guardV_ft → Qt, guardV_bool → Qu, vcOp_out → Qv, outV_val → Qw, outV_need → Qx, outV_no → Qy, opK_run → Qz, opK_none → QA, vcS → QB, evA → QC, evBin → QD, nilA → QE, nilOf → QF, intOp → QG, strOp → QH, evUn → QI, evConv → QJ, evField → QK, evFieldAddr → QL, evIndexAddr → QM, evIndex → QN, bnd → QO, evSlice → QP, evLen → QQ, evPick → QR, evExtract → QS, evNilCheck → QT, evMin → QU, evMax → QV, evLoadI → QW, cO_int → QX, cO_bool → QY, cO_str → QZ, cO_nils → X0, cO_emp → X1, cO_ints → X2, cO_rows → X3, cO_mvec → X4, cO_ptr → X5, cO_eptr → X6, cO_iptr → X7, cO_nilp → X8, cO_fn → X9, cO_nilf → Xa, cO_mp → Xb, cO_nilm → Xc, cO_glob → Xd, cO_agg → Xe, partsOne → Xg, intsOf → Xh, rowsAV → Xi, evBuildSlice → Xj, evBuild → Xk, fillA → Xl, splice → Xm, evBuiltin → Xn, vcE_nil → Xo, vcE_cons → Xp, vcE_guardM → Xq, guardME_some → Xr, guardD_und → Xs, guardD_same → Xt, guardD_tf → Xu, guardD_ft → Xv, guardD_bool → Xw, dK_run → Xx, dK_none → Xy, dOp_call → Xz, callA_fn → XA, dOp → XB, outA_val → XC, outA_need → XD, cl → XE, vcLoad → XF, vcStore → XG, vcMake → XH, evO_tmp → XI, evO_int → XJ, evO_bool → XK, evO_nils → XL, evO_nilp → XM, evO_nilf → XN, evO_nilm → XO, evO_str → XP, evO_func → XQ, evO_glob → XR, convA → XS, evIndexArr → XT, lookA_cons → XU, get_cons → XV, sub_cons → XW, sub_nil → XX, retK_ret → XY, retK_normal → XZ, retA → Y0, ressA → Y1, resA → Y2, envOf → Y3, vcR_skip → Y7, vcR_seq → Y8, vcR_block → Y9, vcR_exit → Ya, vcR_ret → Yb, vcR_region → Yc, vcR_draw → Yd, vcR_cond → Ye, condR_true → Yf, condR_false → Yg, condR_bool → Yh, seqR_normal → Yi, seqR_ret → Yj, seqR_exit → Yk, asgEnv → Yl, parEnv → Ym, dstAt → Z5, sto_assoc → Z6, sto_len → Z7, sto_at → Z8, sto_at0 → Z9, sto_set → Za, sto_set0 → Zb
open Go.Pa.AV renaming cell → Xf
open Go.Pa.Env renaming put → Y4
open List renaming set_cons_zero → Y5, set_cons_succ → Y6, foldl_cons → Yn, foldl_nil → Yo, map_cons → Yp, map_nil → Yq, toList_toArray → Yr, getElem?_cons_zero → Ys, getElem?_cons_succ → Yt, nil_append → Yx, append_nil → Yy, cons_append → Yz, singleton_append → YA, length_cons → YB, length_nil → YC, all_cons → YD, all_nil → YE, take_succ_cons → YF, take_zero → YG, take_nil → YH, drop_zero → YI, drop_succ_cons → YJ, drop_nil → YK, contains_nil → YL, contains_cons → YM
open Option renaming bind_some → Yu, map_some → Yv, map_none → Yw
open Bool renaming or_false → YN, false_or → YO, or_true → YP, true_or → YQ, false_eq_true → YZ, not_true → Z0, not_false → Z1, and_true → Z2, true_and → Z3, and_self → Z4
open Nat renaming reduceEqDiff → YR, reduceAdd → YS, reduceSub → YT, reduceMul → YU, reduceLT → YV, reduceLeDiff → YW, reduceBNe → YX, reduceBEq → YY, zero_add → Ze, add_zero → Zf
open UInt8 renaming reduceToNat → Zc
open Int renaming cast_ofNat_Int → Zd, reduceToNat → Zg, reduceLT → Zh, reduceLE → Zi, reduceNeg → Zj, reduceEq → Zk, reduceNe → Zl
set_option linter.unusedSimpArgs false
set_option maxRecDepth 20000
set_option maxHeartbeats 4000000

theorem WrS.start (s : Store) : WrS (s ++ [.box [.nils]]) s.length [] (s ++ [.box [.nils]]) :=
  ⟨by simp, Nat.le_refl _, fun _ _ _ h => h, .nils, by simp, .inl ⟨.inl rfl, rfl⟩⟩

theorem WrS.base {s s' : Store} {l : List Int} (h : WrS (s ++ [.box [.nils]]) s.length l s') : Ext s s' := by
  intro i x hx
  have hi := (List.getElem?_eq_some_iff.1 hx).1
  exact h.2.2.1 i x (by omega) (by rw [List.getElem?_append_left hi]; exact hx)

theorem BufI.down {s : Store} {n m : Nat} {r : AV} {k : IntKind} {l : List Int} (h : BufI s n r k l) (hm : m ≤ n) : BufI s m r k l := by
  rcases h with h | ⟨j, h1, h2, h3⟩
  · exact .inl h
  · exact .inr ⟨j, h1, h2, by omega⟩

theorem BufI.grow {s s' : Store} {n : Nat} {r : AV} {k : IntKind} {l : List Int} (h : BufI s n r k l) (hx : Ext s s') : BufI s' n r k l := by
  rcases h with h | ⟨j, h1, h2, h3⟩
  · exact .inl h
  · exact .inr ⟨j, h1, hx _ _ h2, h3⟩

theorem re_uint (n : Nat) (hn : n < 18446744073709551616) (σ : Store) : ACalls Try.prog 46 [.int .u64 n] σ (FreshI σ .u8 (uintE n)) := by
  have hnl := (uintE_len hn).2
  refine ACalls.fresh ?_
  refine acalls_of_vc (fn := Try.f46) Try.call46 Try.func46 rfl (by kernel_rfl) (by simp [Try.ntmps46]) ?_; simp -implicitDefEqProofs only [Try.ntmps46,Try.results46,Q0,Q1,Q2,Q3,Q4,Q5,Q6,Q7,Q8,Q9,Qa,Qb,Qc,Qd,Qe,Qf,Qg,Qh,Qi,Qj,Qk,Ql,Qm,Qn,Qo,Qp,Qq,Qr,Qs,Qt,Qu,Qv,Qw,Qx,Qy,Qz,QA,QB,QC,QD,QE,QF,QG,QH,QI,QJ,QK,QL,QM,QN,QO,QP,QQ,QR,QS,QT,QU,QV,QW,QX,QY,QZ,X0,X1,X2,X3,X4,X5,X6,X7,X8,X9,Xa,Xb,Xc,Xd,Xe,Xf,Xg,Xh,Xi,Xj,Xk,Xl,Xm,Xn,Xo,Xp,Xq,Xr,Xs,Xt,Xu,Xv,Xw,Xx,Xy,Xz,XA,XB,XC,XD,XE,XF,XG,XH,XI,XJ,XK,XL,XM,XN,XO,XP,XQ,XR,XS,XT,XU,XV,XW,XX,XY,XZ,Y0,Y1,Y2,Y3,Y4,Y5,Y6,Y7,Y8,Y9,Ya,Yb,Yc,Yd,Ye,Yf,Yg,Yh,Yi,Yj,Yk,Yl,Ym,Yn,Yo,Yp,Yq,Yr,Ys,Yt,Yu,Yv,Yw,Yx,Yy,Yz,YA,YB,YC,YD,YE,YF,YG,YH,YI,YJ,YK,YL,YM,YN,YO,YP,YQ,YR,YS,YT,YU,YV,YW,YX,YY,reduceIte,reduceCtorEq,ite_true,ite_false,if_true,if_false,YZ,Z0,Z1,Z2,Z3,Z4,and_true,true_and,and_self,true_imp_iff,false_imp_iff,eq_self,not_true_eq_false,not_false_eq_true,ne_eq,decide_true,decide_false,Z5,Z6,Z7,Z8,Z9,Za,Zb,Zc,Zd,Ze,Zf,Zg,Zh,Zi,Zj,Zk,Zl,Try.underlying4,Try.cs4,Try.bt4,Try.pa4,Try.ty4,Try.zr4,Try.underlying5,Try.cs5,Try.bt5,Try.pa5,Try.zr5,Try.underlying22,Try.cs22,Try.bt22,Try.pa22,Try.zr22,Try.underlying46,Try.cs46,Try.bt46,Try.pa46,Try.ty46,Try.sl46,Try.zr46]
  refine awp_loop (fun p : Nat × AV × List Int => [(0, .int .u64 p.1), (3, p.2.1)]) (fun p s' => Ext σ s' ∧ BufI s' σ.length p.2.1 .u8 p.2.2 ∧ p.1 < 18446744073709551616 ∧ p.2.2 ++ uintE p.1 = uintE n) (fun p => p.1) (n, .nils, []) (by kernel_rfl) (by simp [sub_cons, sub_nil, get_cons]) ⟨.refl _, .nil, hn, rfl⟩ ?_
  rintro ⟨k, r, acc⟩ s1 ⟨hx, hb, hk, he⟩
  simp only at hb hk he
  have hal : acc.length ≤ 10 := by
    have := congrArg List.length he
    simp only [List.length_append] at this
    omega
  by_cases hbig : 127 < k
  · have d : decide (127 < (k : Int)) = true := decide_eq_true (by omega)
    have e1 : (k : Int).tmod 128 = ((k % 128 : Nat) : Int) := by rw [Int.tmod_eq_emod_of_nonneg (by omega)]; omega
    have e2 : IntKind.u64.wrap (128 + ((k % 128 : Nat) : Int)) = ((128 + k % 128 : Nat) : Int) := by rw [wrap_u64 (by omega) (by omega)]; rfl
    have e3 : IntKind.u8.wrap ((128 + k % 128 : Nat) : Int) = ((128 + k % 128 : Nat) : Int) := wrap_u8 (by omega) (by omega)
    have e4 : (k : Int).tdiv 128 = ((k / 128 : Nat) : Int) := by rw [Int.tdiv_eq_ediv_of_nonneg (by omega)]; omega
    have e5 : IntKind.u64.wrap ((k / 128 : Nat) : Int) = ((k / 128 : Nat) : Int) := wrap_u64 (by omega) (by omega)
    simp -implicitDefEqProofs only [d,e1,e2,e3,Q0,Q1,Q2,Q3,Q4,Q5,Q6,Q7,Q8,Q9,Qa,Qb,Qc,Qd,Qe,Qf,Qg,Qh,Qi,Qj,Qk,Ql,Qm,Qn,Qo,Qp,Qq,Qr,Qs,Qt,Qu,Qv,Qw,Qx,Qy,Qz,QA,QB,QC,QD,QE,QF,QG,QH,QI,QJ,QK,QL,QM,QN,QO,QP,QQ,QR,QS,QT,QU,QV,QW,QX,QY,QZ,X0,X1,X2,X3,X4,X5,X6,X7,X8,X9,Xa,Xb,Xc,Xd,Xe,Xf,Xg,Xh,Xi,Xj,Xk,Xl,Xm,Xn,Xo,Xp,Xq,Xr,Xs,Xt,Xu,Xv,Xw,Xx,Xy,Xz,XA,XB,XC,XD,XE,XF,XG,XH,XI,XJ,XK,XL,XM,XN,XO,XP,XQ,XR,XS,XT,XU,XV,XW,XX,XY,XZ,Y0,Y1,Y2,Y3,Y4,Y5,Y6,Y7,Y8,Y9,Ya,Yb,Yc,Yd,Ye,Yf,Yg,Yh,Yi,Yj,Yk,Yl,Ym,Yn,Yo,Yp,Yq,Yr,Ys,Yt,Yu,Yv,Yw,Yx,Yy,Yz,YA,YB,YC,YD,YE,YF,YG,YH,YI,YJ,YK,YL,YM,YN,YO,YP,YQ,YR,YS,YT,YU,YV,YW,YX,YY,reduceIte,reduceCtorEq,ite_true,ite_false,if_true,if_false,YZ,Z0,Z1,Z2,Z3,Z4,and_true,true_and,and_self,true_imp_iff,false_imp_iff,eq_self,not_true_eq_false,not_false_eq_true,ne_eq,decide_true,decide_false,Z5,Z6,Z7,Z8,Z9,Za,Zb,Zc,Zd,Ze,Zf,Zg,Zh,Zi,Zj,Zk,Zl,Try.underlying4,Try.cs4,Try.bt4,Try.pa4,Try.ty4,Try.zr4,Try.underlying5,Try.cs5,Try.bt5,Try.pa5,Try.zr5,Try.underlying22,Try.cs22,Try.bt22,Try.pa22,Try.zr22,Try.underlying46,Try.cs46,Try.bt46,Try.pa46,Try.ty46,Try.sl46,Try.zr46]
    refine append_buf (σ := σ) Try.sl46 (by simp [Try.bt5]) hx hb (.inl rfl) (by simp [appFits, Try.bt5]; omega) fun r2 s2 hx2 hb2 => ?_
    simp -implicitDefEqProofs only [e4,e5,Q0,Q1,Q2,Q3,Q4,Q5,Q6,Q7,Q8,Q9,Qa,Qb,Qc,Qd,Qe,Qf,Qg,Qh,Qi,Qj,Qk,Ql,Qm,Qn,Qo,Qp,Qq,Qr,Qs,Qt,Qu,Qv,Qw,Qx,Qy,Qz,QA,QB,QC,QD,QE,QF,QG,QH,QI,QJ,QK,QL,QM,QN,QO,QP,QQ,QR,QS,QT,QU,QV,QW,QX,QY,QZ,X0,X1,X2,X3,X4,X5,X6,X7,X8,X9,Xa,Xb,Xc,Xd,Xe,Xf,Xg,Xh,Xi,Xj,Xk,Xl,Xm,Xn,Xo,Xp,Xq,Xr,Xs,Xt,Xu,Xv,Xw,Xx,Xy,Xz,XA,XB,XC,XD,XE,XF,XG,XH,XI,XJ,XK,XL,XM,XN,XO,XP,XQ,XR,XS,XT,XU,XV,XW,XX,XY,XZ,Y0,Y1,Y2,Y3,Y4,Y5,Y6,Y7,Y8,Y9,Ya,Yb,Yc,Yd,Ye,Yf,Yg,Yh,Yi,Yj,Yk,Yl,Ym,Yn,Yo,Yp,Yq,Yr,Ys,Yt,Yu,Yv,Yw,Yx,Yy,Yz,YA,YB,YC,YD,YE,YF,YG,YH,YI,YJ,YK,YL,YM,YN,YO,YP,YQ,YR,YS,YT,YU,YV,YW,YX,YY,reduceIte,reduceCtorEq,ite_true,ite_false,if_true,if_false,YZ,Z0,Z1,Z2,Z3,Z4,and_true,true_and,and_self,true_imp_iff,false_imp_iff,eq_self,not_true_eq_false,not_false_eq_true,ne_eq,decide_true,decide_false,Z5,Z6,Z7,Z8,Z9,Za,Zb,Zc,Zd,Ze,Zf,Zg,Zh,Zi,Zj,Zk,Zl,Try.underlying4,Try.cs4,Try.bt4,Try.pa4,Try.ty4,Try.zr4,Try.underlying5,Try.cs5,Try.bt5,Try.pa5,Try.zr5,Try.underlying22,Try.cs22,Try.bt22,Try.pa22,Try.zr22,Try.underlying46,Try.cs46,Try.bt46,Try.pa46,Try.ty46,Try.sl46,Try.zr46]
    refine ⟨(k / 128, r2, acc ++ [((128 + k % 128 : Nat) : Int)]), ⟨rfl, rfl⟩, ⟨hx2, hb2, by simp only; omega, ?_⟩, by simp only; omega⟩
    rw [← he, uintE_big (n := k) (by omega)]
    simp
  · have d : decide (127 < (k : Int)) = false := decide_eq_false (by omega)
    have e3 : IntKind.u8.wrap (k : Int) = (k : Int) := wrap_u8 (by omega) (by omega)
    simp -implicitDefEqProofs only [d,e3,Q0,Q1,Q2,Q3,Q4,Q5,Q6,Q7,Q8,Q9,Qa,Qb,Qc,Qd,Qe,Qf,Qg,Qh,Qi,Qj,Qk,Ql,Qm,Qn,Qo,Qp,Qq,Qr,Qs,Qt,Qu,Qv,Qw,Qx,Qy,Qz,QA,QB,QC,QD,QE,QF,QG,QH,QI,QJ,QK,QL,QM,QN,QO,QP,QQ,QR,QS,QT,QU,QV,QW,QX,QY,QZ,X0,X1,X2,X3,X4,X5,X6,X7,X8,X9,Xa,Xb,Xc,Xd,Xe,Xf,Xg,Xh,Xi,Xj,Xk,Xl,Xm,Xn,Xo,Xp,Xq,Xr,Xs,Xt,Xu,Xv,Xw,Xx,Xy,Xz,XA,XB,XC,XD,XE,XF,XG,XH,XI,XJ,XK,XL,XM,XN,XO,XP,XQ,XR,XS,XT,XU,XV,XW,XX,XY,XZ,Y0,Y1,Y2,Y3,Y4,Y5,Y6,Y7,Y8,Y9,Ya,Yb,Yc,Yd,Ye,Yf,Yg,Yh,Yi,Yj,Yk,Yl,Ym,Yn,Yo,Yp,Yq,Yr,Ys,Yt,Yu,Yv,Yw,Yx,Yy,Yz,YA,YB,YC,YD,YE,YF,YG,YH,YI,YJ,YK,YL,YM,YN,YO,YP,YQ,YR,YS,YT,YU,YV,YW,YX,YY,reduceIte,reduceCtorEq,ite_true,ite_false,if_true,if_false,YZ,Z0,Z1,Z2,Z3,Z4,and_true,true_and,and_self,true_imp_iff,false_imp_iff,eq_self,not_true_eq_false,not_false_eq_true,ne_eq,decide_true,decide_false,Z5,Z6,Z7,Z8,Z9,Za,Zb,Zc,Zd,Ze,Zf,Zg,Zh,Zi,Zj,Zk,Zl,Try.underlying4,Try.cs4,Try.bt4,Try.pa4,Try.ty4,Try.zr4,Try.underlying5,Try.cs5,Try.bt5,Try.pa5,Try.zr5,Try.underlying22,Try.cs22,Try.bt22,Try.pa22,Try.zr22,Try.underlying46,Try.cs46,Try.bt46,Try.pa46,Try.ty46,Try.sl46,Try.zr46]
    refine append_buf (σ := σ) Try.sl46 (by simp [Try.bt5]) hx hb (.inl rfl) (by simp [appFits, Try.bt5]; omega) fun r2 s2 hx2 hb2 => ?_
    simp -implicitDefEqProofs only [Q0,Q1,Q2,Q3,Q4,Q5,Q6,Q7,Q8,Q9,Qa,Qb,Qc,Qd,Qe,Qf,Qg,Qh,Qi,Qj,Qk,Ql,Qm,Qn,Qo,Qp,Qq,Qr,Qs,Qt,Qu,Qv,Qw,Qx,Qy,Qz,QA,QB,QC,QD,QE,QF,QG,QH,QI,QJ,QK,QL,QM,QN,QO,QP,QQ,QR,QS,QT,QU,QV,QW,QX,QY,QZ,X0,X1,X2,X3,X4,X5,X6,X7,X8,X9,Xa,Xb,Xc,Xd,Xe,Xf,Xg,Xh,Xi,Xj,Xk,Xl,Xm,Xn,Xo,Xp,Xq,Xr,Xs,Xt,Xu,Xv,Xw,Xx,Xy,Xz,XA,XB,XC,XD,XE,XF,XG,XH,XI,XJ,XK,XL,XM,XN,XO,XP,XQ,XR,XS,XT,XU,XV,XW,XX,XY,XZ,Y0,Y1,Y2,Y3,Y4,Y5,Y6,Y7,Y8,Y9,Ya,Yb,Yc,Yd,Ye,Yf,Yg,Yh,Yi,Yj,Yk,Yl,Ym,Yn,Yo,Yp,Yq,Yr,Ys,Yt,Yu,Yv,Yw,Yx,Yy,Yz,YA,YB,YC,YD,YE,YF,YG,YH,YI,YJ,YK,YL,YM,YN,YO,YP,YQ,YR,YS,YT,YU,YV,YW,YX,YY,reduceIte,reduceCtorEq,ite_true,ite_false,if_true,if_false,YZ,Z0,Z1,Z2,Z3,Z4,and_true,true_and,and_self,true_imp_iff,false_imp_iff,eq_self,not_true_eq_false,not_false_eq_true,ne_eq,decide_true,decide_false,Z5,Z6,Z7,Z8,Z9,Za,Zb,Zc,Zd,Ze,Zf,Zg,Zh,Zi,Zj,Zk,Zl,Try.underlying4,Try.cs4,Try.bt4,Try.pa4,Try.ty4,Try.zr4,Try.underlying5,Try.cs5,Try.bt5,Try.pa5,Try.zr5,Try.underlying22,Try.cs22,Try.bt22,Try.pa22,Try.zr22,Try.underlying46,Try.cs46,Try.bt46,Try.pa46,Try.ty46,Try.sl46,Try.zr46]
    rw [uintE_small (n := k) (by omega)] at he
    rw [he] at hb2
    exact ⟨hx2, hb2⟩

theorem re_zig (n : Int) (hn : In63 n) (σ : Store) : ACalls Try.prog 58 [.int .i64 n] σ (fun r σ' => r = .int .u64 (zigN n) ∧ σ' = σ) := by
  unfold In63 at hn
  unfold zigN
  by_cases h : 0 ≤ n
  · have d : decide (n < 0) = false := decide_eq_false (by omega)
    have e1 : IntKind.u64.wrap n = n := wrap_u64 (by omega) (by omega)
    have e2 : IntKind.u64.wrap (2 * n) = ((2 * n).toNat : Int) := by rw [wrap_u64 (by omega) (by omega)]; omega
    rw [if_pos h]
    refine acalls_of_vc (fn := Try.f58) Try.call58 Try.func58 rfl (by kernel_rfl) (by simp [Try.ntmps58]) ?_; simp -implicitDefEqProofs only [Try.ntmps58,Try.results58,Q0,Q1,Q2,Q3,Q4,Q5,Q6,Q7,Q8,Q9,Qa,Qb,Qc,Qd,Qe,Qf,Qg,Qh,Qi,Qj,Qk,Ql,Qm,Qn,Qo,Qp,Qq,Qr,Qs,Qt,Qu,Qv,Qw,Qx,Qy,Qz,QA,QB,QC,QD,QE,QF,QG,QH,QI,QJ,QK,QL,QM,QN,QO,QP,QQ,QR,QS,QT,QU,QV,QW,QX,QY,QZ,X0,X1,X2,X3,X4,X5,X6,X7,X8,X9,Xa,Xb,Xc,Xd,Xe,Xf,Xg,Xh,Xi,Xj,Xk,Xl,Xm,Xn,Xo,Xp,Xq,Xr,Xs,Xt,Xu,Xv,Xw,Xx,Xy,Xz,XA,XB,XC,XD,XE,XF,XG,XH,XI,XJ,XK,XL,XM,XN,XO,XP,XQ,XR,XS,XT,XU,XV,XW,XX,XY,XZ,Y0,Y1,Y2,Y3,Y4,Y5,Y6,Y7,Y8,Y9,Ya,Yb,Yc,Yd,Ye,Yf,Yg,Yh,Yi,Yj,Yk,Yl,Ym,Yn,Yo,Yp,Yq,Yr,Ys,Yt,Yu,Yv,Yw,Yx,Yy,Yz,YA,YB,YC,YD,YE,YF,YG,YH,YI,YJ,YK,YL,YM,YN,YO,YP,YQ,YR,YS,YT,YU,YV,YW,YX,YY,reduceIte,reduceCtorEq,ite_true,ite_false,if_true,if_false,YZ,Z0,Z1,Z2,Z3,Z4,and_true,true_and,and_self,true_imp_iff,false_imp_iff,eq_self,not_true_eq_false,not_false_eq_true,ne_eq,decide_true,decide_false,Z5,Z6,Z7,Z8,Z9,Za,Zb,Zc,Zd,Ze,Zf,Zg,Zh,Zi,Zj,Zk,Zl,Try.underlying3,Try.cs3,Try.bt3,Try.pa3,Try.zr3,Try.underlying4,Try.cs4,Try.bt4,Try.pa4,Try.ty4,Try.zr4,Try.underlying22,Try.cs22,Try.bt22,Try.pa22,Try.zr22]
    simp -implicitDefEqProofs only [d,e1,e2,Q0,Q1,Q2,Q3,Q4,Q5,Q6,Q7,Q8,Q9,Qa,Qb,Qc,Qd,Qe,Qf,Qg,Qh,Qi,Qj,Qk,Ql,Qm,Qn,Qo,Qp,Qq,Qr,Qs,Qt,Qu,Qv,Qw,Qx,Qy,Qz,QA,QB,QC,QD,QE,QF,QG,QH,QI,QJ,QK,QL,QM,QN,QO,QP,QQ,QR,QS,QT,QU,QV,QW,QX,QY,QZ,X0,X1,X2,X3,X4,X5,X6,X7,X8,X9,Xa,Xb,Xc,Xd,Xe,Xf,Xg,Xh,Xi,Xj,Xk,Xl,Xm,Xn,Xo,Xp,Xq,Xr,Xs,Xt,Xu,Xv,Xw,Xx,Xy,Xz,XA,XB,XC,XD,XE,XF,XG,XH,XI,XJ,XK,XL,XM,XN,XO,XP,XQ,XR,XS,XT,XU,XV,XW,XX,XY,XZ,Y0,Y1,Y2,Y3,Y4,Y5,Y6,Y7,Y8,Y9,Ya,Yb,Yc,Yd,Ye,Yf,Yg,Yh,Yi,Yj,Yk,Yl,Ym,Yn,Yo,Yp,Yq,Yr,Ys,Yt,Yu,Yv,Yw,Yx,Yy,Yz,YA,YB,YC,YD,YE,YF,YG,YH,YI,YJ,YK,YL,YM,YN,YO,YP,YQ,YR,YS,YT,YU,YV,YW,YX,YY,reduceIte,reduceCtorEq,ite_true,ite_false,if_true,if_false,YZ,Z0,Z1,Z2,Z3,Z4,and_true,true_and,and_self,true_imp_iff,false_imp_iff,eq_self,not_true_eq_false,not_false_eq_true,ne_eq,decide_true,decide_false,Z5,Z6,Z7,Z8,Z9,Za,Zb,Zc,Zd,Ze,Zf,Zg,Zh,Zi,Zj,Zk,Zl,Try.underlying3,Try.cs3,Try.bt3,Try.pa3,Try.zr3,Try.underlying4,Try.cs4,Try.bt4,Try.pa4,Try.ty4,Try.zr4,Try.underlying22,Try.cs22,Try.bt22,Try.pa22,Try.zr22]
  · have d : decide (n < 0) = true := decide_eq_true (by omega)
    have e1 : IntKind.i64.wrap (n + 1) = n + 1 := wrap_i64 (by omega) (by omega)
    have e2 : IntKind.i64.wrap (0 - (n + 1)) = 0 - (n + 1) := wrap_i64 (by omega) (by omega)
    have e3 : IntKind.u64.wrap (0 - (n + 1)) = 0 - (n + 1) := wrap_u64 (by omega) (by omega)
    have e4 : IntKind.u64.wrap (2 * (0 - (n + 1))) = 2 * (0 - (n + 1)) := wrap_u64 (by omega) (by omega)
    have e5 : IntKind.u64.wrap (2 * (0 - (n + 1)) + 1) = ((-2 * n - 1).toNat : Int) := by rw [wrap_u64 (by omega) (by omega)]; omega
    rw [if_neg h]
    refine acalls_of_vc (fn := Try.f58) Try.call58 Try.func58 rfl (by kernel_rfl) (by simp [Try.ntmps58]) ?_; simp -implicitDefEqProofs only [Try.ntmps58,Try.results58,Q0,Q1,Q2,Q3,Q4,Q5,Q6,Q7,Q8,Q9,Qa,Qb,Qc,Qd,Qe,Qf,Qg,Qh,Qi,Qj,Qk,Ql,Qm,Qn,Qo,Qp,Qq,Qr,Qs,Qt,Qu,Qv,Qw,Qx,Qy,Qz,QA,QB,QC,QD,QE,QF,QG,QH,QI,QJ,QK,QL,QM,QN,QO,QP,QQ,QR,QS,QT,QU,QV,QW,QX,QY,QZ,X0,X1,X2,X3,X4,X5,X6,X7,X8,X9,Xa,Xb,Xc,Xd,Xe,Xf,Xg,Xh,Xi,Xj,Xk,Xl,Xm,Xn,Xo,Xp,Xq,Xr,Xs,Xt,Xu,Xv,Xw,Xx,Xy,Xz,XA,XB,XC,XD,XE,XF,XG,XH,XI,XJ,XK,XL,XM,XN,XO,XP,XQ,XR,XS,XT,XU,XV,XW,XX,XY,XZ,Y0,Y1,Y2,Y3,Y4,Y5,Y6,Y7,Y8,Y9,Ya,Yb,Yc,Yd,Ye,Yf,Yg,Yh,Yi,Yj,Yk,Yl,Ym,Yn,Yo,Yp,Yq,Yr,Ys,Yt,Yu,Yv,Yw,Yx,Yy,Yz,YA,YB,YC,YD,YE,YF,YG,YH,YI,YJ,YK,YL,YM,YN,YO,YP,YQ,YR,YS,YT,YU,YV,YW,YX,YY,reduceIte,reduceCtorEq,ite_true,ite_false,if_true,if_false,YZ,Z0,Z1,Z2,Z3,Z4,and_true,true_and,and_self,true_imp_iff,false_imp_iff,eq_self,not_true_eq_false,not_false_eq_true,ne_eq,decide_true,decide_false,Z5,Z6,Z7,Z8,Z9,Za,Zb,Zc,Zd,Ze,Zf,Zg,Zh,Zi,Zj,Zk,Zl,Try.underlying3,Try.cs3,Try.bt3,Try.pa3,Try.zr3,Try.underlying4,Try.cs4,Try.bt4,Try.pa4,Try.ty4,Try.zr4,Try.underlying22,Try.cs22,Try.bt22,Try.pa22,Try.zr22]
    simp -implicitDefEqProofs only [d,e1,e2,e3,e4,e5,Q0,Q1,Q2,Q3,Q4,Q5,Q6,Q7,Q8,Q9,Qa,Qb,Qc,Qd,Qe,Qf,Qg,Qh,Qi,Qj,Qk,Ql,Qm,Qn,Qo,Qp,Qq,Qr,Qs,Qt,Qu,Qv,Qw,Qx,Qy,Qz,QA,QB,QC,QD,QE,QF,QG,QH,QI,QJ,QK,QL,QM,QN,QO,QP,QQ,QR,QS,QT,QU,QV,QW,QX,QY,QZ,X0,X1,X2,X3,X4,X5,X6,X7,X8,X9,Xa,Xb,Xc,Xd,Xe,Xf,Xg,Xh,Xi,Xj,Xk,Xl,Xm,Xn,Xo,Xp,Xq,Xr,Xs,Xt,Xu,Xv,Xw,Xx,Xy,Xz,XA,XB,XC,XD,XE,XF,XG,XH,XI,XJ,XK,XL,XM,XN,XO,XP,XQ,XR,XS,XT,XU,XV,XW,XX,XY,XZ,Y0,Y1,Y2,Y3,Y4,Y5,Y6,Y7,Y8,Y9,Ya,Yb,Yc,Yd,Ye,Yf,Yg,Yh,Yi,Yj,Yk,Yl,Ym,Yn,Yo,Yp,Yq,Yr,Ys,Yt,Yu,Yv,Yw,Yx,Yy,Yz,YA,YB,YC,YD,YE,YF,YG,YH,YI,YJ,YK,YL,YM,YN,YO,YP,YQ,YR,YS,YT,YU,YV,YW,YX,YY,reduceIte,reduceCtorEq,ite_true,ite_false,if_true,if_false,YZ,Z0,Z1,Z2,Z3,Z4,and_true,true_and,and_self,true_imp_iff,false_imp_iff,eq_self,not_true_eq_false,not_false_eq_true,ne_eq,decide_true,decide_false,Z5,Z6,Z7,Z8,Z9,Za,Zb,Zc,Zd,Ze,Zf,Zg,Zh,Zi,Zj,Zk,Zl,Try.underlying3,Try.cs3,Try.bt3,Try.pa3,Try.zr3,Try.underlying4,Try.cs4,Try.bt4,Try.pa4,Try.ty4,Try.zr4,Try.underlying22,Try.cs22,Try.bt22,Try.pa22,Try.zr22]

theorem re_int (n : Int) (hn : In63 n) (σ : Store) : ACalls Try.prog 45 [.int .i64 n] σ (FreshI σ .u8 (intE n)) := by
  refine acalls_of_vc (fn := Try.f45) Try.call45 Try.func45 rfl (by kernel_rfl) (by simp [Try.ntmps45]) ?_; simp -implicitDefEqProofs only [Try.ntmps45,Try.results45,Q0,Q1,Q2,Q3,Q4,Q5,Q6,Q7,Q8,Q9,Qa,Qb,Qc,Qd,Qe,Qf,Qg,Qh,Qi,Qj,Qk,Ql,Qm,Qn,Qo,Qp,Qq,Qr,Qs,Qt,Qu,Qv,Qw,Qx,Qy,Qz,QA,QB,QC,QD,QE,QF,QG,QH,QI,QJ,QK,QL,QM,QN,QO,QP,QQ,QR,QS,QT,QU,QV,QW,QX,QY,QZ,X0,X1,X2,X3,X4,X5,X6,X7,X8,X9,Xa,Xb,Xc,Xd,Xe,Xf,Xg,Xh,Xi,Xj,Xk,Xl,Xm,Xn,Xo,Xp,Xq,Xr,Xs,Xt,Xu,Xv,Xw,Xx,Xy,Xz,XA,XB,XC,XD,XE,XF,XG,XH,XI,XJ,XK,XL,XM,XN,XO,XP,XQ,XR,XS,XT,XU,XV,XW,XX,XY,XZ,Y0,Y1,Y2,Y3,Y4,Y5,Y6,Y7,Y8,Y9,Ya,Yb,Yc,Yd,Ye,Yf,Yg,Yh,Yi,Yj,Yk,Yl,Ym,Yn,Yo,Yp,Yq,Yr,Ys,Yt,Yu,Yv,Yw,Yx,Yy,Yz,YA,YB,YC,YD,YE,YF,YG,YH,YI,YJ,YK,YL,YM,YN,YO,YP,YQ,YR,YS,YT,YU,YV,YW,YX,YY,reduceIte,reduceCtorEq,ite_true,ite_false,if_true,if_false,YZ,Z0,Z1,Z2,Z3,Z4,and_true,true_and,and_self,true_imp_iff,false_imp_iff,eq_self,not_true_eq_false,not_false_eq_true,ne_eq,decide_true,decide_false,Z5,Z6,Z7,Z8,Z9,Za,Zb,Zc,Zd,Ze,Zf,Zg,Zh,Zi,Zj,Zk,Zl,Try.underlying3,Try.cs3,Try.bt3,Try.pa3,Try.zr3,Try.underlying5,Try.cs5,Try.bt5,Try.pa5,Try.zr5,Try.underlying22,Try.cs22,Try.bt22,Try.pa22,Try.zr22,Try.underlying46,Try.cs46,Try.bt46,Try.pa46,Try.ty46,Try.sl46,Try.zr46]
  refine acalls_then (re_zig n hn _) ?_
  simp -implicitDefEqProofs only [Q0,Q1,Q2,Q3,Q4,Q5,Q6,Q7,Q8,Q9,Qa,Qb,Qc,Qd,Qe,Qf,Qg,Qh,Qi,Qj,Qk,Ql,Qm,Qn,Qo,Qp,Qq,Qr,Qs,Qt,Qu,Qv,Qw,Qx,Qy,Qz,QA,QB,QC,QD,QE,QF,QG,QH,QI,QJ,QK,QL,QM,QN,QO,QP,QQ,QR,QS,QT,QU,QV,QW,QX,QY,QZ,X0,X1,X2,X3,X4,X5,X6,X7,X8,X9,Xa,Xb,Xc,Xd,Xe,Xf,Xg,Xh,Xi,Xj,Xk,Xl,Xm,Xn,Xo,Xp,Xq,Xr,Xs,Xt,Xu,Xv,Xw,Xx,Xy,Xz,XA,XB,XC,XD,XE,XF,XG,XH,XI,XJ,XK,XL,XM,XN,XO,XP,XQ,XR,XS,XT,XU,XV,XW,XX,XY,XZ,Y0,Y1,Y2,Y3,Y4,Y5,Y6,Y7,Y8,Y9,Ya,Yb,Yc,Yd,Ye,Yf,Yg,Yh,Yi,Yj,Yk,Yl,Ym,Yn,Yo,Yp,Yq,Yr,Ys,Yt,Yu,Yv,Yw,Yx,Yy,Yz,YA,YB,YC,YD,YE,YF,YG,YH,YI,YJ,YK,YL,YM,YN,YO,YP,YQ,YR,YS,YT,YU,YV,YW,YX,YY,reduceIte,reduceCtorEq,ite_true,ite_false,if_true,if_false,YZ,Z0,Z1,Z2,Z3,Z4,and_true,true_and,and_self,true_imp_iff,false_imp_iff,eq_self,not_true_eq_false,not_false_eq_true,ne_eq,decide_true,decide_false,Z5,Z6,Z7,Z8,Z9,Za,Zb,Zc,Zd,Ze,Zf,Zg,Zh,Zi,Zj,Zk,Zl,Try.underlying3,Try.cs3,Try.bt3,Try.pa3,Try.zr3,Try.underlying5,Try.cs5,Try.bt5,Try.pa5,Try.zr5,Try.underlying22,Try.cs22,Try.bt22,Try.pa22,Try.zr22,Try.underlying46,Try.cs46,Try.bt46,Try.pa46,Try.ty46,Try.sl46,Try.zr46]
  refine ACalls.mono (re_uint _ (zig_lt hn) _) ?_
  intro r s h
  simp -implicitDefEqProofs only [Q0,Q1,Q2,Q3,Q4,Q5,Q6,Q7,Q8,Q9,Qa,Qb,Qc,Qd,Qe,Qf,Qg,Qh,Qi,Qj,Qk,Ql,Qm,Qn,Qo,Qp,Qq,Qr,Qs,Qt,Qu,Qv,Qw,Qx,Qy,Qz,QA,QB,QC,QD,QE,QF,QG,QH,QI,QJ,QK,QL,QM,QN,QO,QP,QQ,QR,QS,QT,QU,QV,QW,QX,QY,QZ,X0,X1,X2,X3,X4,X5,X6,X7,X8,X9,Xa,Xb,Xc,Xd,Xe,Xf,Xg,Xh,Xi,Xj,Xk,Xl,Xm,Xn,Xo,Xp,Xq,Xr,Xs,Xt,Xu,Xv,Xw,Xx,Xy,Xz,XA,XB,XC,XD,XE,XF,XG,XH,XI,XJ,XK,XL,XM,XN,XO,XP,XQ,XR,XS,XT,XU,XV,XW,XX,XY,XZ,Y0,Y1,Y2,Y3,Y4,Y5,Y6,Y7,Y8,Y9,Ya,Yb,Yc,Yd,Ye,Yf,Yg,Yh,Yi,Yj,Yk,Yl,Ym,Yn,Yo,Yp,Yq,Yr,Ys,Yt,Yu,Yv,Yw,Yx,Yy,Yz,YA,YB,YC,YD,YE,YF,YG,YH,YI,YJ,YK,YL,YM,YN,YO,YP,YQ,YR,YS,YT,YU,YV,YW,YX,YY,reduceIte,reduceCtorEq,ite_true,ite_false,if_true,if_false,YZ,Z0,Z1,Z2,Z3,Z4,and_true,true_and,and_self,true_imp_iff,false_imp_iff,eq_self,not_true_eq_false,not_false_eq_true,ne_eq,decide_true,decide_false,Z5,Z6,Z7,Z8,Z9,Za,Zb,Zc,Zd,Ze,Zf,Zg,Zh,Zi,Zj,Zk,Zl,Try.underlying3,Try.cs3,Try.bt3,Try.pa3,Try.zr3,Try.underlying5,Try.cs5,Try.bt5,Try.pa5,Try.zr5,Try.underlying22,Try.cs22,Try.bt22,Try.pa22,Try.zr22,Try.underlying46,Try.cs46,Try.bt46,Try.pa46,Try.ty46,Try.sl46,Try.zr46]
  exact h

/-- The fields of a head are of their types. -/
def Hd.good (h : Hd) : Prop := In63 h.o ∧ In63 h.t ∧ In63 h.d ∧ In63 h.s ∧ In64 h.l ∧ In64 h.m ∧ In63 h.e ∧ In64 h.g

/-- A head as bytes. -/
def encH (h : Hd) : List Int := intE h.o ++ intE h.t ++ intE h.d ++ intE h.s ++ uintE h.l.toNat ++ uintE h.m.toNat ++ intE h.e ++ uintE h.g.toNat

theorem okk_of63 {n : Int} (h : In63 n) : Okk .i64 n := by
  unfold In63 at h
  simp [Okk, IntKind.min, IntKind.max, IntKind.signed, IntKind.bits]
  omega

theorem intE_len {n : Int} (h : In63 n) : 1 ≤ (intE n).length ∧ (intE n).length ≤ 10 := uintE_len (zig_lt h)

theorem toNat_in {n : Int} (h : In64 n) : n.toNat < 18446744073709551616 ∧ ((n.toNat : Nat) : Int) = n := by
  unfold In64 at h
  omega

theorem encH_len {h : Hd} (hg : h.good) : 8 ≤ (encH h).length ∧ (encH h).length ≤ 80 := by
  obtain ⟨h1, h2, h3, h4, h5, h6, h7, h8⟩ := hg
  have a1 := intE_len h1
  have a2 := intE_len h2
  have a3 := intE_len h3
  have a4 := intE_len h4
  have a5 := uintE_len (toNat_in h5).1
  have a6 := uintE_len (toNat_in h6).1
  have a7 := intE_len h7
  have a8 := uintE_len (toNat_in h8).1
  unfold encH
  simp only [List.length_append]
  omega

theorem encH_u8 (h : Hd) : U8s (encH h) := by
  unfold encH
  refine U8s.app (U8s.app (U8s.app (U8s.app (U8s.app (U8s.app (U8s.app ?_ ?_) ?_) ?_) ?_) ?_) ?_) ?_ <;> exact uintE_u8 _

theorem head_encode (h : Hd) (hg : h.good) (σ : Store) : ACalls Try.prog 24 [h.av] σ (FreshI σ .u8 (encH h)) := by
  refine ACalls.fresh ?_
  have hlen := encH_len hg
  obtain ⟨g1, g2, g3, g4, g5, g6, g7, g8⟩ := hg
  have a1 := intE_len g1
  have a2 := intE_len g2
  have a3 := intE_len g3
  have a4 := intE_len g4
  have a5 := uintE_len (toNat_in g5).1
  have a6 := uintE_len (toNat_in g6).1
  have a7 := intE_len g7
  have a8 := uintE_len (toNat_in g8).1
  obtain ⟨x, hx⟩ : ∃ x, x = [h.o, h.t, h.d, h.s] := ⟨_, rfl⟩
  have hxl : x.length = 4 := by rw [hx]; rfl
  have hxo : ∀ n ∈ x, Okk .i64 n := by
    rw [hx]
    intro n hn
    simp only [List.mem_cons, List.not_mem_nil, or_false] at hn
    rcases hn with rfl | rfl | rfl | rfl <;> apply okk_of63 <;> assumption
  have hxe : x.flatMap intE = intE h.o ++ intE h.t ++ intE h.d ++ intE h.s := by rw [hx]; simp
  refine acalls_of_vc (fn := Try.f24) Try.call24 Try.func24 rfl (by kernel_rfl) (by simp [Try.ntmps24]) ?_; simp -implicitDefEqProofs only [Hd.av,Hd.cs,Try.ntmps24,Try.results24,Q0,Q1,Q2,Q3,Q4,Q5,Q6,Q7,Q8,Q9,Qa,Qb,Qc,Qd,Qe,Qf,Qg,Qh,Qi,Qj,Qk,Ql,Qm,Qn,Qo,Qp,Qq,Qr,Qs,Qt,Qu,Qv,Qw,Qx,Qy,Qz,QA,QB,QC,QD,QE,QF,QG,QH,QI,QJ,QK,QL,QM,QN,QO,QP,QQ,QR,QS,QT,QU,QV,QW,QX,QY,QZ,X0,X1,X2,X3,X4,X5,X6,X7,X8,X9,Xa,Xb,Xc,Xd,Xe,Xf,Xg,Xh,Xi,Xj,Xk,Xl,Xm,Xn,Xo,Xp,Xq,Xr,Xs,Xt,Xu,Xv,Xw,Xx,Xy,Xz,XA,XB,XC,XD,XE,XF,XG,XH,XI,XJ,XK,XL,XM,XN,XO,XP,XQ,XR,XS,XT,XU,XV,XW,XX,XY,XZ,Y0,Y1,Y2,Y3,Y4,Y5,Y6,Y7,Y8,Y9,Ya,Yb,Yc,Yd,Ye,Yf,Yg,Yh,Yi,Yj,Yk,Yl,Ym,Yn,Yo,Yp,Yq,Yr,Ys,Yt,Yu,Yv,Yw,Yx,Yy,Yz,YA,YB,YC,YD,YE,YF,YG,YH,YI,YJ,YK,YL,YM,YN,YO,YP,YQ,YR,YS,YT,YU,YV,YW,YX,YY,reduceIte,reduceCtorEq,ite_true,ite_false,if_true,if_false,YZ,Z0,Z1,Z2,Z3,Z4,and_true,true_and,and_self,true_imp_iff,false_imp_iff,eq_self,not_true_eq_false,not_false_eq_true,ne_eq,decide_true,decide_false,Z5,Z6,Z7,Z8,Z9,Za,Zb,Zc,Zd,Ze,Zf,Zg,Zh,Zi,Zj,Zk,Zl,Try.underlying3,Try.cs3,Try.bt3,Try.pa3,Try.zr3,Try.underlying5,Try.cs5,Try.bt5,Try.pa5,Try.zr5,Try.underlying22,Try.cs22,Try.bt22,Try.pa22,Try.zr22,Try.underlying29,Try.cs29,Try.bt29,Try.pa29,Try.ty29,Try.zr29,Try.pl29,Try.eq29,Try.fd29_0,Try.fd29_1,Try.fd29_2,Try.fd29_3,Try.fd29_4,Try.fd29_5,Try.fd29_6,Try.fd29_7,Try.underlying43,Try.cs43,Try.bt43,Try.pa43,Try.ty43,Try.sl43,Try.zr43,Try.underlying46,Try.cs46,Try.bt46,Try.pa46,Try.ty46,Try.sl46,Try.zr46,Try.underlying51,Try.cs51,Try.bt51,Try.pa51,Try.ty51,Try.zr51,Try.pl51,Try.fd51_0]
  rw [← hx]
  obtain ⟨C, hC⟩ : ∃ C : AObj, C = .box [.int .i64 h.o, .int .i64 h.t, .int .i64 h.d, .int .i64 h.s, .int .u64 h.l, .int .u64 h.m, .int .i64 h.e, .int .u64 h.g] := ⟨_, rfl⟩
  obtain ⟨s0, hs0⟩ : ∃ s0 : Store, s0 = σ ++ [C] := ⟨_, rfl⟩
  have hl0 : s0.length = σ.length + 1 := by rw [hs0]; simp
  have hst : σ ++ [.box [.int .i64 h.o, .int .i64 h.t, .int .i64 h.d, .int .i64 h.s, .int .u64 h.l, .int .u64 h.m, .int .i64 h.e, .int .u64 h.g], .box [.nils]] = s0 ++ [.box [.nils]] := by rw [hs0, hC]; simp
  have hw0 := WrS.start s0
  have hCin : ∀ {l s}, WrS (s0 ++ [.box [.nils]]) s0.length l s → s[σ.length]? = some C := by
    intro l s hw
    refine hw.2.2.1 σ.length C (by omega) ?_
    rw [List.getElem?_append_left (by omega), hs0]
    simp
  rw [hC] at hCin
  rw [hst]
  refine awp_loop (fun i : Nat => [(16, .int .i64 i), (15, .int .i64 4), (14, .ints .i64 x), (3, .ptr (σ.length + 1) 0), (1, .ptr σ.length 0)]) (fun i s' => i ≤ x.length ∧ WrS (s0 ++ [.box [.nils]]) s0.length ((x.take i).flatMap intE) s') (fun i => x.length - i) 0 (by kernel_rfl) (by simp [sub_cons, sub_nil, get_cons]) ⟨by omega, by simpa using hw0⟩ ?_
  rintro i s1 ⟨hi, hw⟩
  have hel : ((x.take i).flatMap intE).length ≤ 40 := by
    have h1 := flatMap_len (l := x.take i) fun n hn => hxo n (List.mem_of_mem_take hn)
    rw [List.length_take] at h1
    omega
  by_cases hlt : i < x.length
  · have d : decide ((i : Int) < 4) = true := decide_eq_true (by omega)
    have hget : x.getD ((i : Int).toNat) 0 = x[i] := by rw [Int.toNat_natCast, getD_get hlt]
    have wi : IntKind.i64.wrap ((i : Int) + 1) = ((i + 1 : Nat) : Int) := by rw [wrap_i64 (by omega) (by omega)]; rfl
    simp -implicitDefEqProofs only [Hd.av,Hd.cs,d,hget,Q0,Q1,Q2,Q3,Q4,Q5,Q6,Q7,Q8,Q9,Qa,Qb,Qc,Qd,Qe,Qf,Qg,Qh,Qi,Qj,Qk,Ql,Qm,Qn,Qo,Qp,Qq,Qr,Qs,Qt,Qu,Qv,Qw,Qx,Qy,Qz,QA,QB,QC,QD,QE,QF,QG,QH,QI,QJ,QK,QL,QM,QN,QO,QP,QQ,QR,QS,QT,QU,QV,QW,QX,QY,QZ,X0,X1,X2,X3,X4,X5,X6,X7,X8,X9,Xa,Xb,Xc,Xd,Xe,Xf,Xg,Xh,Xi,Xj,Xk,Xl,Xm,Xn,Xo,Xp,Xq,Xr,Xs,Xt,Xu,Xv,Xw,Xx,Xy,Xz,XA,XB,XC,XD,XE,XF,XG,XH,XI,XJ,XK,XL,XM,XN,XO,XP,XQ,XR,XS,XT,XU,XV,XW,XX,XY,XZ,Y0,Y1,Y2,Y3,Y4,Y5,Y6,Y7,Y8,Y9,Ya,Yb,Yc,Yd,Ye,Yf,Yg,Yh,Yi,Yj,Yk,Yl,Ym,Yn,Yo,Yp,Yq,Yr,Ys,Yt,Yu,Yv,Yw,Yx,Yy,Yz,YA,YB,YC,YD,YE,YF,YG,YH,YI,YJ,YK,YL,YM,YN,YO,YP,YQ,YR,YS,YT,YU,YV,YW,YX,YY,reduceIte,reduceCtorEq,ite_true,ite_false,if_true,if_false,YZ,Z0,Z1,Z2,Z3,Z4,and_true,true_and,and_self,true_imp_iff,false_imp_iff,eq_self,not_true_eq_false,not_false_eq_true,ne_eq,decide_true,decide_false,Z5,Z6,Z7,Z8,Z9,Za,Zb,Zc,Zd,Ze,Zf,Zg,Zh,Zi,Zj,Zk,Zl,Try.underlying3,Try.cs3,Try.bt3,Try.pa3,Try.zr3,Try.underlying5,Try.cs5,Try.bt5,Try.pa5,Try.zr5,Try.underlying22,Try.cs22,Try.bt22,Try.pa22,Try.zr22,Try.underlying29,Try.cs29,Try.bt29,Try.pa29,Try.ty29,Try.zr29,Try.pl29,Try.eq29,Try.fd29_0,Try.fd29_1,Try.fd29_2,Try.fd29_3,Try.fd29_4,Try.fd29_5,Try.fd29_6,Try.fd29_7,Try.underlying43,Try.cs43,Try.bt43,Try.pa43,Try.ty43,Try.sl43,Try.zr43,Try.underlying46,Try.cs46,Try.bt46,Try.pa46,Try.ty46,Try.sl46,Try.zr46,Try.underlying51,Try.cs51,Try.bt51,Try.pa51,Try.ty51,Try.zr51,Try.pl51,Try.fd51_0]
    rw [hl0] at hw
    refine ⟨by omega, ACalls.mono (wr_int x[i] (hxo _ (List.getElem_mem hlt)) hw (by omega)) ?_⟩
    rintro _ s2 ⟨rfl, hw2⟩
    rw [← hl0] at hw2
    simp -implicitDefEqProofs only [Hd.av,Hd.cs,wi,Q0,Q1,Q2,Q3,Q4,Q5,Q6,Q7,Q8,Q9,Qa,Qb,Qc,Qd,Qe,Qf,Qg,Qh,Qi,Qj,Qk,Ql,Qm,Qn,Qo,Qp,Qq,Qr,Qs,Qt,Qu,Qv,Qw,Qx,Qy,Qz,QA,QB,QC,QD,QE,QF,QG,QH,QI,QJ,QK,QL,QM,QN,QO,QP,QQ,QR,QS,QT,QU,QV,QW,QX,QY,QZ,X0,X1,X2,X3,X4,X5,X6,X7,X8,X9,Xa,Xb,Xc,Xd,Xe,Xf,Xg,Xh,Xi,Xj,Xk,Xl,Xm,Xn,Xo,Xp,Xq,Xr,Xs,Xt,Xu,Xv,Xw,Xx,Xy,Xz,XA,XB,XC,XD,XE,XF,XG,XH,XI,XJ,XK,XL,XM,XN,XO,XP,XQ,XR,XS,XT,XU,XV,XW,XX,XY,XZ,Y0,Y1,Y2,Y3,Y4,Y5,Y6,Y7,Y8,Y9,Ya,Yb,Yc,Yd,Ye,Yf,Yg,Yh,Yi,Yj,Yk,Yl,Ym,Yn,Yo,Yp,Yq,Yr,Ys,Yt,Yu,Yv,Yw,Yx,Yy,Yz,YA,YB,YC,YD,YE,YF,YG,YH,YI,YJ,YK,YL,YM,YN,YO,YP,YQ,YR,YS,YT,YU,YV,YW,YX,YY,reduceIte,reduceCtorEq,ite_true,ite_false,if_true,if_false,YZ,Z0,Z1,Z2,Z3,Z4,and_true,true_and,and_self,true_imp_iff,false_imp_iff,eq_self,not_true_eq_false,not_false_eq_true,ne_eq,decide_true,decide_false,Z5,Z6,Z7,Z8,Z9,Za,Zb,Zc,Zd,Ze,Zf,Zg,Zh,Zi,Zj,Zk,Zl,Try.underlying3,Try.cs3,Try.bt3,Try.pa3,Try.zr3,Try.underlying5,Try.cs5,Try.bt5,Try.pa5,Try.zr5,Try.underlying22,Try.cs22,Try.bt22,Try.pa22,Try.zr22,Try.underlying29,Try.cs29,Try.bt29,Try.pa29,Try.ty29,Try.zr29,Try.pl29,Try.eq29,Try.fd29_0,Try.fd29_1,Try.fd29_2,Try.fd29_3,Try.fd29_4,Try.fd29_5,Try.fd29_6,Try.fd29_7,Try.underlying43,Try.cs43,Try.bt43,Try.pa43,Try.ty43,Try.sl43,Try.zr43,Try.underlying46,Try.cs46,Try.bt46,Try.pa46,Try.ty46,Try.sl46,Try.zr46,Try.underlying51,Try.cs51,Try.bt51,Try.pa51,Try.ty51,Try.zr51,Try.pl51,Try.fd51_0]
    refine ⟨i + 1, rfl, ⟨by omega, ?_⟩, by omega⟩
    rw [List.take_add_one, List.getElem?_eq_getElem hlt, Option.toList_some, List.flatMap_append, List.flatMap_cons, List.flatMap_nil, List.append_nil]
    exact hw2
  · have d : decide ((i : Int) < 4) = false := decide_eq_false (by omega)
    have hi' : i = x.length := by omega
    rw [hi', List.take_length, hxe] at hw
    rw [hi', List.take_length, hxe] at hel
    have hc1 := hCin hw
    obtain ⟨ln, hln⟩ := toNat_in g5
    obtain ⟨mn, hmn⟩ := toNat_in g6
    obtain ⟨gn, hgn⟩ := toNat_in g8
    simp -implicitDefEqProofs only [Hd.av,Hd.cs,d,hc1,Q0,Q1,Q2,Q3,Q4,Q5,Q6,Q7,Q8,Q9,Qa,Qb,Qc,Qd,Qe,Qf,Qg,Qh,Qi,Qj,Qk,Ql,Qm,Qn,Qo,Qp,Qq,Qr,Qs,Qt,Qu,Qv,Qw,Qx,Qy,Qz,QA,QB,QC,QD,QE,QF,QG,QH,QI,QJ,QK,QL,QM,QN,QO,QP,QQ,QR,QS,QT,QU,QV,QW,QX,QY,QZ,X0,X1,X2,X3,X4,X5,X6,X7,X8,X9,Xa,Xb,Xc,Xd,Xe,Xf,Xg,Xh,Xi,Xj,Xk,Xl,Xm,Xn,Xo,Xp,Xq,Xr,Xs,Xt,Xu,Xv,Xw,Xx,Xy,Xz,XA,XB,XC,XD,XE,XF,XG,XH,XI,XJ,XK,XL,XM,XN,XO,XP,XQ,XR,XS,XT,XU,XV,XW,XX,XY,XZ,Y0,Y1,Y2,Y3,Y4,Y5,Y6,Y7,Y8,Y9,Ya,Yb,Yc,Yd,Ye,Yf,Yg,Yh,Yi,Yj,Yk,Yl,Ym,Yn,Yo,Yp,Yq,Yr,Ys,Yt,Yu,Yv,Yw,Yx,Yy,Yz,YA,YB,YC,YD,YE,YF,YG,YH,YI,YJ,YK,YL,YM,YN,YO,YP,YQ,YR,YS,YT,YU,YV,YW,YX,YY,reduceIte,reduceCtorEq,ite_true,ite_false,if_true,if_false,YZ,Z0,Z1,Z2,Z3,Z4,and_true,true_and,and_self,true_imp_iff,false_imp_iff,eq_self,not_true_eq_false,not_false_eq_true,ne_eq,decide_true,decide_false,Z5,Z6,Z7,Z8,Z9,Za,Zb,Zc,Zd,Ze,Zf,Zg,Zh,Zi,Zj,Zk,Zl,Try.underlying3,Try.cs3,Try.bt3,Try.pa3,Try.zr3,Try.underlying5,Try.cs5,Try.bt5,Try.pa5,Try.zr5,Try.underlying22,Try.cs22,Try.bt22,Try.pa22,Try.zr22,Try.underlying29,Try.cs29,Try.bt29,Try.pa29,Try.ty29,Try.zr29,Try.pl29,Try.eq29,Try.fd29_0,Try.fd29_1,Try.fd29_2,Try.fd29_3,Try.fd29_4,Try.fd29_5,Try.fd29_6,Try.fd29_7,Try.underlying43,Try.cs43,Try.bt43,Try.pa43,Try.ty43,Try.sl43,Try.zr43,Try.underlying46,Try.cs46,Try.bt46,Try.pa46,Try.ty46,Try.sl46,Try.zr46,Try.underlying51,Try.cs51,Try.bt51,Try.pa51,Try.ty51,Try.zr51,Try.pl51,Try.fd51_0]
    rw [← hln]
    refine ACalls.mono (wr_uint h.l.toNat ln (hl0 ▸ hw) (by omega)) ?_
    rintro _ s2 ⟨rfl, hw2⟩
    have hc2 := hCin (hl0 ▸ hw2)
    simp -implicitDefEqProofs only [Hd.av,Hd.cs,hc2,Q0,Q1,Q2,Q3,Q4,Q5,Q6,Q7,Q8,Q9,Qa,Qb,Qc,Qd,Qe,Qf,Qg,Qh,Qi,Qj,Qk,Ql,Qm,Qn,Qo,Qp,Qq,Qr,Qs,Qt,Qu,Qv,Qw,Qx,Qy,Qz,QA,QB,QC,QD,QE,QF,QG,QH,QI,QJ,QK,QL,QM,QN,QO,QP,QQ,QR,QS,QT,QU,QV,QW,QX,QY,QZ,X0,X1,X2,X3,X4,X5,X6,X7,X8,X9,Xa,Xb,Xc,Xd,Xe,Xf,Xg,Xh,Xi,Xj,Xk,Xl,Xm,Xn,Xo,Xp,Xq,Xr,Xs,Xt,Xu,Xv,Xw,Xx,Xy,Xz,XA,XB,XC,XD,XE,XF,XG,XH,XI,XJ,XK,XL,XM,XN,XO,XP,XQ,XR,XS,XT,XU,XV,XW,XX,XY,XZ,Y0,Y1,Y2,Y3,Y4,Y5,Y6,Y7,Y8,Y9,Ya,Yb,Yc,Yd,Ye,Yf,Yg,Yh,Yi,Yj,Yk,Yl,Ym,Yn,Yo,Yp,Yq,Yr,Ys,Yt,Yu,Yv,Yw,Yx,Yy,Yz,YA,YB,YC,YD,YE,YF,YG,YH,YI,YJ,YK,YL,YM,YN,YO,YP,YQ,YR,YS,YT,YU,YV,YW,YX,YY,reduceIte,reduceCtorEq,ite_true,ite_false,if_true,if_false,YZ,Z0,Z1,Z2,Z3,Z4,and_true,true_and,and_self,true_imp_iff,false_imp_iff,eq_self,not_true_eq_false,not_false_eq_true,ne_eq,decide_true,decide_false,Z5,Z6,Z7,Z8,Z9,Za,Zb,Zc,Zd,Ze,Zf,Zg,Zh,Zi,Zj,Zk,Zl,Try.underlying3,Try.cs3,Try.bt3,Try.pa3,Try.zr3,Try.underlying5,Try.cs5,Try.bt5,Try.pa5,Try.zr5,Try.underlying22,Try.cs22,Try.bt22,Try.pa22,Try.zr22,Try.underlying29,Try.cs29,Try.bt29,Try.pa29,Try.ty29,Try.zr29,Try.pl29,Try.eq29,Try.fd29_0,Try.fd29_1,Try.fd29_2,Try.fd29_3,Try.fd29_4,Try.fd29_5,Try.fd29_6,Try.fd29_7,Try.underlying43,Try.cs43,Try.bt43,Try.pa43,Try.ty43,Try.sl43,Try.zr43,Try.underlying46,Try.cs46,Try.bt46,Try.pa46,Try.ty46,Try.sl46,Try.zr46,Try.underlying51,Try.cs51,Try.bt51,Try.pa51,Try.ty51,Try.zr51,Try.pl51,Try.fd51_0]
    rw [← hmn]
    refine ACalls.mono (wr_uint h.m.toNat mn hw2 (by simp only [List.length_append] at hel ⊢; omega)) ?_
    rintro _ s3 ⟨rfl, hw3⟩
    have hc3 := hCin (hl0 ▸ hw3)
    simp -implicitDefEqProofs only [Hd.av,Hd.cs,hc3,Q0,Q1,Q2,Q3,Q4,Q5,Q6,Q7,Q8,Q9,Qa,Qb,Qc,Qd,Qe,Qf,Qg,Qh,Qi,Qj,Qk,Ql,Qm,Qn,Qo,Qp,Qq,Qr,Qs,Qt,Qu,Qv,Qw,Qx,Qy,Qz,QA,QB,QC,QD,QE,QF,QG,QH,QI,QJ,QK,QL,QM,QN,QO,QP,QQ,QR,QS,QT,QU,QV,QW,QX,QY,QZ,X0,X1,X2,X3,X4,X5,X6,X7,X8,X9,Xa,Xb,Xc,Xd,Xe,Xf,Xg,Xh,Xi,Xj,Xk,Xl,Xm,Xn,Xo,Xp,Xq,Xr,Xs,Xt,Xu,Xv,Xw,Xx,Xy,Xz,XA,XB,XC,XD,XE,XF,XG,XH,XI,XJ,XK,XL,XM,XN,XO,XP,XQ,XR,XS,XT,XU,XV,XW,XX,XY,XZ,Y0,Y1,Y2,Y3,Y4,Y5,Y6,Y7,Y8,Y9,Ya,Yb,Yc,Yd,Ye,Yf,Yg,Yh,Yi,Yj,Yk,Yl,Ym,Yn,Yo,Yp,Yq,Yr,Ys,Yt,Yu,Yv,Yw,Yx,Yy,Yz,YA,YB,YC,YD,YE,YF,YG,YH,YI,YJ,YK,YL,YM,YN,YO,YP,YQ,YR,YS,YT,YU,YV,YW,YX,YY,reduceIte,reduceCtorEq,ite_true,ite_false,if_true,if_false,YZ,Z0,Z1,Z2,Z3,Z4,and_true,true_and,and_self,true_imp_iff,false_imp_iff,eq_self,not_true_eq_false,not_false_eq_true,ne_eq,decide_true,decide_false,Z5,Z6,Z7,Z8,Z9,Za,Zb,Zc,Zd,Ze,Zf,Zg,Zh,Zi,Zj,Zk,Zl,Try.underlying3,Try.cs3,Try.bt3,Try.pa3,Try.zr3,Try.underlying5,Try.cs5,Try.bt5,Try.pa5,Try.zr5,Try.underlying22,Try.cs22,Try.bt22,Try.pa22,Try.zr22,Try.underlying29,Try.cs29,Try.bt29,Try.pa29,Try.ty29,Try.zr29,Try.pl29,Try.eq29,Try.fd29_0,Try.fd29_1,Try.fd29_2,Try.fd29_3,Try.fd29_4,Try.fd29_5,Try.fd29_6,Try.fd29_7,Try.underlying43,Try.cs43,Try.bt43,Try.pa43,Try.ty43,Try.sl43,Try.zr43,Try.underlying46,Try.cs46,Try.bt46,Try.pa46,Try.ty46,Try.sl46,Try.zr46,Try.underlying51,Try.cs51,Try.bt51,Try.pa51,Try.ty51,Try.zr51,Try.pl51,Try.fd51_0]
    refine ACalls.mono (wr_int h.e (okk_of63 g7) hw3 (by simp only [List.length_append] at hel ⊢; omega)) ?_
    rintro _ s4 ⟨rfl, hw4⟩
    have hc4 := hCin (hl0 ▸ hw4)
    simp -implicitDefEqProofs only [Hd.av,Hd.cs,hc4,Q0,Q1,Q2,Q3,Q4,Q5,Q6,Q7,Q8,Q9,Qa,Qb,Qc,Qd,Qe,Qf,Qg,Qh,Qi,Qj,Qk,Ql,Qm,Qn,Qo,Qp,Qq,Qr,Qs,Qt,Qu,Qv,Qw,Qx,Qy,Qz,QA,QB,QC,QD,QE,QF,QG,QH,QI,QJ,QK,QL,QM,QN,QO,QP,QQ,QR,QS,QT,QU,QV,QW,QX,QY,QZ,X0,X1,X2,X3,X4,X5,X6,X7,X8,X9,Xa,Xb,Xc,Xd,Xe,Xf,Xg,Xh,Xi,Xj,Xk,Xl,Xm,Xn,Xo,Xp,Xq,Xr,Xs,Xt,Xu,Xv,Xw,Xx,Xy,Xz,XA,XB,XC,XD,XE,XF,XG,XH,XI,XJ,XK,XL,XM,XN,XO,XP,XQ,XR,XS,XT,XU,XV,XW,XX,XY,XZ,Y0,Y1,Y2,Y3,Y4,Y5,Y6,Y7,Y8,Y9,Ya,Yb,Yc,Yd,Ye,Yf,Yg,Yh,Yi,Yj,Yk,Yl,Ym,Yn,Yo,Yp,Yq,Yr,Ys,Yt,Yu,Yv,Yw,Yx,Yy,Yz,YA,YB,YC,YD,YE,YF,YG,YH,YI,YJ,YK,YL,YM,YN,YO,YP,YQ,YR,YS,YT,YU,YV,YW,YX,YY,reduceIte,reduceCtorEq,ite_true,ite_false,if_true,if_false,YZ,Z0,Z1,Z2,Z3,Z4,and_true,true_and,and_self,true_imp_iff,false_imp_iff,eq_self,not_true_eq_false,not_false_eq_true,ne_eq,decide_true,decide_false,Z5,Z6,Z7,Z8,Z9,Za,Zb,Zc,Zd,Ze,Zf,Zg,Zh,Zi,Zj,Zk,Zl,Try.underlying3,Try.cs3,Try.bt3,Try.pa3,Try.zr3,Try.underlying5,Try.cs5,Try.bt5,Try.pa5,Try.zr5,Try.underlying22,Try.cs22,Try.bt22,Try.pa22,Try.zr22,Try.underlying29,Try.cs29,Try.bt29,Try.pa29,Try.ty29,Try.zr29,Try.pl29,Try.eq29,Try.fd29_0,Try.fd29_1,Try.fd29_2,Try.fd29_3,Try.fd29_4,Try.fd29_5,Try.fd29_6,Try.fd29_7,Try.underlying43,Try.cs43,Try.bt43,Try.pa43,Try.ty43,Try.sl43,Try.zr43,Try.underlying46,Try.cs46,Try.bt46,Try.pa46,Try.ty46,Try.sl46,Try.zr46,Try.underlying51,Try.cs51,Try.bt51,Try.pa51,Try.ty51,Try.zr51,Try.pl51,Try.fd51_0]
    rw [← hgn]
    refine ACalls.mono (wr_uint h.g.toNat gn hw4 (by simp only [List.length_append] at hel ⊢; omega)) ?_
    rintro _ s5 ⟨rfl, hw5⟩
    simp -implicitDefEqProofs only [Hd.av,Hd.cs,Q0,Q1,Q2,Q3,Q4,Q5,Q6,Q7,Q8,Q9,Qa,Qb,Qc,Qd,Qe,Qf,Qg,Qh,Qi,Qj,Qk,Ql,Qm,Qn,Qo,Qp,Qq,Qr,Qs,Qt,Qu,Qv,Qw,Qx,Qy,Qz,QA,QB,QC,QD,QE,QF,QG,QH,QI,QJ,QK,QL,QM,QN,QO,QP,QQ,QR,QS,QT,QU,QV,QW,QX,QY,QZ,X0,X1,X2,X3,X4,X5,X6,X7,X8,X9,Xa,Xb,Xc,Xd,Xe,Xf,Xg,Xh,Xi,Xj,Xk,Xl,Xm,Xn,Xo,Xp,Xq,Xr,Xs,Xt,Xu,Xv,Xw,Xx,Xy,Xz,XA,XB,XC,XD,XE,XF,XG,XH,XI,XJ,XK,XL,XM,XN,XO,XP,XQ,XR,XS,XT,XU,XV,XW,XX,XY,XZ,Y0,Y1,Y2,Y3,Y4,Y5,Y6,Y7,Y8,Y9,Ya,Yb,Yc,Yd,Ye,Yf,Yg,Yh,Yi,Yj,Yk,Yl,Ym,Yn,Yo,Yp,Yq,Yr,Ys,Yt,Yu,Yv,Yw,Yx,Yy,Yz,YA,YB,YC,YD,YE,YF,YG,YH,YI,YJ,YK,YL,YM,YN,YO,YP,YQ,YR,YS,YT,YU,YV,YW,YX,YY,reduceIte,reduceCtorEq,ite_true,ite_false,if_true,if_false,YZ,Z0,Z1,Z2,Z3,Z4,and_true,true_and,and_self,true_imp_iff,false_imp_iff,eq_self,not_true_eq_false,not_false_eq_true,ne_eq,decide_true,decide_false,Z5,Z6,Z7,Z8,Z9,Za,Zb,Zc,Zd,Ze,Zf,Zg,Zh,Zi,Zj,Zk,Zl,Try.underlying3,Try.cs3,Try.bt3,Try.pa3,Try.zr3,Try.underlying5,Try.cs5,Try.bt5,Try.pa5,Try.zr5,Try.underlying22,Try.cs22,Try.bt22,Try.pa22,Try.zr22,Try.underlying29,Try.cs29,Try.bt29,Try.pa29,Try.ty29,Try.zr29,Try.pl29,Try.eq29,Try.fd29_0,Try.fd29_1,Try.fd29_2,Try.fd29_3,Try.fd29_4,Try.fd29_5,Try.fd29_6,Try.fd29_7,Try.underlying43,Try.cs43,Try.bt43,Try.pa43,Try.ty43,Try.sl43,Try.zr43,Try.underlying46,Try.cs46,Try.bt46,Try.pa46,Try.ty46,Try.sl46,Try.zr46,Try.underlying51,Try.cs51,Try.bt51,Try.pa51,Try.ty51,Try.zr51,Try.pl51,Try.fd51_0]
    refine ACalls.mono (wr_done hw5 (by simp only [List.length_append] at hel ⊢; omega)) ?_
    intro r s6 hf
    obtain ⟨h1, h2⟩ := hf.buf
    have hb := WrS.base (hl0 ▸ hw5)
    simp -implicitDefEqProofs only [Hd.av,Hd.cs,Q0,Q1,Q2,Q3,Q4,Q5,Q6,Q7,Q8,Q9,Qa,Qb,Qc,Qd,Qe,Qf,Qg,Qh,Qi,Qj,Qk,Ql,Qm,Qn,Qo,Qp,Qq,Qr,Qs,Qt,Qu,Qv,Qw,Qx,Qy,Qz,QA,QB,QC,QD,QE,QF,QG,QH,QI,QJ,QK,QL,QM,QN,QO,QP,QQ,QR,QS,QT,QU,QV,QW,QX,QY,QZ,X0,X1,X2,X3,X4,X5,X6,X7,X8,X9,Xa,Xb,Xc,Xd,Xe,Xf,Xg,Xh,Xi,Xj,Xk,Xl,Xm,Xn,Xo,Xp,Xq,Xr,Xs,Xt,Xu,Xv,Xw,Xx,Xy,Xz,XA,XB,XC,XD,XE,XF,XG,XH,XI,XJ,XK,XL,XM,XN,XO,XP,XQ,XR,XS,XT,XU,XV,XW,XX,XY,XZ,Y0,Y1,Y2,Y3,Y4,Y5,Y6,Y7,Y8,Y9,Ya,Yb,Yc,Yd,Ye,Yf,Yg,Yh,Yi,Yj,Yk,Yl,Ym,Yn,Yo,Yp,Yq,Yr,Ys,Yt,Yu,Yv,Yw,Yx,Yy,Yz,YA,YB,YC,YD,YE,YF,YG,YH,YI,YJ,YK,YL,YM,YN,YO,YP,YQ,YR,YS,YT,YU,YV,YW,YX,YY,reduceIte,reduceCtorEq,ite_true,ite_false,if_true,if_false,YZ,Z0,Z1,Z2,Z3,Z4,and_true,true_and,and_self,true_imp_iff,false_imp_iff,eq_self,not_true_eq_false,not_false_eq_true,ne_eq,decide_true,decide_false,Z5,Z6,Z7,Z8,Z9,Za,Zb,Zc,Zd,Ze,Zf,Zg,Zh,Zi,Zj,Zk,Zl,Try.underlying3,Try.cs3,Try.bt3,Try.pa3,Try.zr3,Try.underlying5,Try.cs5,Try.bt5,Try.pa5,Try.zr5,Try.underlying22,Try.cs22,Try.bt22,Try.pa22,Try.zr22,Try.underlying29,Try.cs29,Try.bt29,Try.pa29,Try.ty29,Try.zr29,Try.pl29,Try.eq29,Try.fd29_0,Try.fd29_1,Try.fd29_2,Try.fd29_3,Try.fd29_4,Try.fd29_5,Try.fd29_6,Try.fd29_7,Try.underlying43,Try.cs43,Try.bt43,Try.pa43,Try.ty43,Try.sl43,Try.zr43,Try.underlying46,Try.cs46,Try.bt46,Try.pa46,Try.ty46,Try.sl46,Try.zr46,Try.underlying51,Try.cs51,Try.bt51,Try.pa51,Try.ty51,Try.zr51,Try.pl51,Try.fd51_0]
    refine ⟨fun i y hy => (hb.trans h1) i y (by rw [hs0]; exact keepS0 hy), BufI.down h2 (by have := hb.len; omega)⟩

end Go.Proofs
