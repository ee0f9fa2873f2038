/-
  The functions of the chapter on hashes: contracts.
-/
import Derived.Test.YthcbnjmmeejcjaaAbsAll
namespace Go.Proofs
open Go.Pa
open Go.Pa renaming vc_seq → Q0, vc_block → Q1, vc_exit → Q2, vc_ret → Q3, vc_skip → Q4, vc_region → Q5, vc_draw → Q6, vc_loop → Q7, vc_range → Q8, vc_cond → Q9, condV_true → Qa, condV_false → Qb, condV_bool → Qc, seqK_normal → Qd, seqK_ret → Qe, seqK_exit → Qf, blkK_normal → Qg, blkK_ret → Qh, blkK_exit → Qi, loopK_ret → Qj, loopK_exit → Qk, loopK_normal → Ql, vcOps_nil → Qm, vcOps_cons → Qn, vcOps_guardM → Qo, guardM_some → Qp, guardV_und → Qq, guardV_same → Qr, guardV_tf → Qs, guardV_ft → Qt, guardV_bool → Qu, vcOp_out → Qv, outV_val → Qw, outV_need → Qx, outV_no → Qy, opK_run → Qz, opK_none → QA, vcS → QB, evA → QC, evBin → QD, nilA → QE, nilOf → QF, intOp → QG, strOp → QH, evUn → QI, evConv → QJ, evField → QK, evFieldAddr → QL, evIndexAddr → QM, evIndex → QN, bnd → QO, evSlice → QP, evLen → QQ, evPick → QR, evExtract → QS, evNilCheck → QT, evMin → QU, evMax → QV, evLoadI → QW, cO_int → QX, cO_bool → QY, cO_str → QZ, cO_nils → X0, cO_emp → X1, cO_ints → X2, cO_rows → X3, cO_mvec → X4, cO_ptr → X5, cO_eptr → X6, cO_iptr → X7, cO_nilp → X8, cO_fn → X9, cO_nilf → Xa, cO_mp → Xb, cO_nilm → Xc, cO_glob → Xd, cO_agg → Xe, partsOne → Xg, intsOf → Xh, rowsAV → Xi, evBuildSlice → Xj, evBuild → Xk, fillA → Xl, splice → Xm, evBuiltin → Xn, vcE_nil → Xo, vcE_cons → Xp, vcE_guardM → Xq, guardME_some → Xr, guardD_und → Xs, guardD_same → Xt, guardD_tf → Xu, guardD_ft → Xv, guardD_bool → Xw, dK_run → Xx, dK_none → Xy, dOp_call → Xz, callA_fn → XA, dOp → XB, outA_val → XC, outA_need → XD, cl → XE, vcLoad → XF, vcStore → XG, vcMake → XH, evO_tmp → XI, evO_int → XJ, evO_bool → XK, evO_nils → XL, evO_nilp → XM, evO_nilf → XN, evO_nilm → XO, evO_str → XP, evO_func → XQ, evO_glob → XR, convA → XS, evIndexArr → XT, lookA_cons → XU, get_cons → XV, sub_cons → XW, sub_nil → XX, retK_ret → XY, retK_normal → XZ, retA → Y0, ressA → Y1, resA → Y2, envOf → Y3, vcR_skip → Y7, vcR_seq → Y8, vcR_block → Y9, vcR_exit → Ya, vcR_ret → Yb, vcR_region → Yc, vcR_draw → Yd, vcR_cond → Ye, condR_true → Yf, condR_false → Yg, condR_bool → Yh, seqR_normal → Yi, seqR_ret → Yj, seqR_exit → Yk, asgEnv → Yl, parEnv → Ym, dstAt → Z5, sto_assoc → Z6, sto_len → Z7, sto_at → Z8, sto_at0 → Z9, sto_set → Za, sto_set0 → Zb
open Go.Pa.AV renaming cell → Xf
open Go.Pa.Env renaming put → Y4
open List renaming set_cons_zero → Y5, set_cons_succ → Y6, foldl_cons → Yn, foldl_nil → Yo, map_cons → Yp, map_nil → Yq, toList_toArray → Yr, getElem?_cons_zero → Ys, getElem?_cons_succ → Yt, nil_append → Yx, append_nil → Yy, cons_append → Yz, singleton_append → YA, length_cons → YB, length_nil → YC, all_cons → YD, all_nil → YE, take_succ_cons → YF, take_zero → YG, take_nil → YH, drop_zero → YI, drop_succ_cons → YJ, drop_nil → YK, contains_nil → YL, contains_cons → YM
open Option renaming bind_some → Yu, map_some → Yv, map_none → Yw
open Bool renaming or_false → YN, false_or → YO, or_true → YP, true_or → YQ, false_eq_true → YZ, not_true → Z0, not_false → Z1, and_true → Z2, true_and → Z3, and_self → Z4
open Nat renaming reduceEqDiff → YR, reduceAdd → YS, reduceSub → YT, reduceMul → YU, reduceLT → YV, reduceLeDiff → YW, reduceBNe → YX, reduceBEq → YY, zero_add → Ze, add_zero → Zf
open UInt8 renaming reduceToNat → Zc
open Int renaming cast_ofNat_Int → Zd, reduceToNat → Zg, reduceLT → Zh, reduceLE → Zi, reduceNeg → Zj, reduceEq → Zk, reduceNe → Zl
set_option linter.unusedSimpArgs false

/-- Around. -/
def aroundI (a m : Int) : Int := (if a < 0 then IntKind.i64.wrap (0 - IntKind.i64.wrap (a + 1)) else a).tmod m

theorem around (a m : Int) (σ : Store) (hm : m ≠ 0) : ACalls Try.prog 17 [.int .i64 a, .int .i64 m] σ (fun r σ' => r = .int .i64 (aroundI a m) ∧ σ' = σ) := by
  refine acalls_of_vc (fn := Try.f17) Try.call17 Try.func17 rfl (by kernel_rfl) (by simp [Try.ntmps17]) ?_; simp -implicitDefEqProofs only [Try.ntmps17,Try.results17,Q0,Q1,Q2,Q3,Q4,Q5,Q6,Q7,Q8,Q9,Qa,Qb,Qc,Qd,Qe,Qf,Qg,Qh,Qi,Qj,Qk,Ql,Qm,Qn,Qo,Qp,Qq,Qr,Qs,Qt,Qu,Qv,Qw,Qx,Qy,Qz,QA,QB,QC,QD,QE,QF,QG,QH,QI,QJ,QK,QL,QM,QN,QO,QP,QQ,QR,QS,QT,QU,QV,QW,QX,QY,QZ,X0,X1,X2,X3,X4,X5,X6,X7,X8,X9,Xa,Xb,Xc,Xd,Xe,Xf,Xg,Xh,Xi,Xj,Xk,Xl,Xm,Xn,Xo,Xp,Xq,Xr,Xs,Xt,Xu,Xv,Xw,Xx,Xy,Xz,XA,XB,XC,XD,XE,XF,XG,XH,XI,XJ,XK,XL,XM,XN,XO,XP,XQ,XR,XS,XT,XU,XV,XW,XX,XY,XZ,Y0,Y1,Y2,Y3,Y4,Y5,Y6,Y7,Y8,Y9,Ya,Yb,Yc,Yd,Ye,Yf,Yg,Yh,Yi,Yj,Yk,Yl,Ym,Yn,Yo,Yp,Yq,Yr,Ys,Yt,Yu,Yv,Yw,Yx,Yy,Yz,YA,YB,YC,YD,YE,YF,YG,YH,YI,YJ,YK,YL,YM,YN,YO,YP,YQ,YR,YS,YT,YU,YV,YW,YX,YY,reduceIte,reduceCtorEq,ite_true,ite_false,if_true,if_false,YZ,Z0,Z1,Z2,Z3,Z4,and_true,true_and,and_self,true_imp_iff,false_imp_iff,eq_self,not_true_eq_false,not_false_eq_true,ne_eq,decide_true,decide_false,Z5,Z6,Z7,Z8,Z9,Za,Zb,Zc,Zd,Ze,Zf,Zg,Zh,Zi,Zj,Zk,Zl,Try.underlying3,Try.cs3,Try.bt3,Try.pa3,Try.zr3,Try.underlying4,Try.cs4,Try.bt4,Try.pa4,Try.ty4,Try.zr4]
  simp only [decide_eq_true_eq, decide_eq_false_iff_not, aroundI]
  exact ⟨fun h => ⟨hm, by rw [if_pos h]⟩, fun h => ⟨hm, by rw [if_neg h]⟩⟩

theorem aroundI_eq {a m : Int} (ha : Okk .i64 a) : aroundI a m = (if a < 0 then -a - 1 else a).tmod m := by
  have := okk_i64 ha
  unfold aroundI
  split
  · rw [wrap_i64 (n := a + 1) (by omega) (by omega), wrap_i64 (by omega) (by omega)]
    congr 1
    omega
  · rfl

theorem aroundI_bound {a m : Int} (ha : Okk .i64 a) (hm : 0 < m) : 0 ≤ aroundI a m ∧ aroundI a m < m := by
  rw [aroundI_eq ha]
  have h0 : 0 ≤ (if a < 0 then -a - 1 else a) := by split <;> omega
  generalize (if a < 0 then -a - 1 else a) = n at h0 ⊢
  rw [Int.tmod_eq_emod_of_nonneg h0]
  exact ⟨Int.emod_nonneg _ (by omega), Int.emod_lt_of_pos _ hm⟩

def mixR (s w : Int) : Int := ixor .u64 (IntKind.u64.wrap (ixor .u64 s w * 11400714819323198485)) (IntKind.u64.wrap ((IntKind.u64.wrap (ixor .u64 s w * 11400714819323198485)).tdiv 4294967296))

def mixI (s w : Int) : Int := ixor .u64 (IntKind.u64.wrap (ixor .u64 s w * 11400714819323198485)) (ishr .u64 (IntKind.u64.wrap (ixor .u64 s w * 11400714819323198485)) 32)

theorem ref_mix (s w : Int) (σ : Store) : ACalls Try.prog 51 [.int .u64 s, .int .u64 w] σ (fun r σ' => r = .int .u64 (mixR s w) ∧ σ' = σ) := by
  refine acalls_of_vc (fn := Try.f51) Try.call51 Try.func51 rfl (by kernel_rfl) (by simp [Try.ntmps51]) ?_; simp -implicitDefEqProofs only [Try.ntmps51,Try.results51,Q0,Q1,Q2,Q3,Q4,Q5,Q6,Q7,Q8,Q9,Qa,Qb,Qc,Qd,Qe,Qf,Qg,Qh,Qi,Qj,Qk,Ql,Qm,Qn,Qo,Qp,Qq,Qr,Qs,Qt,Qu,Qv,Qw,Qx,Qy,Qz,QA,QB,QC,QD,QE,QF,QG,QH,QI,QJ,QK,QL,QM,QN,QO,QP,QQ,QR,QS,QT,QU,QV,QW,QX,QY,QZ,X0,X1,X2,X3,X4,X5,X6,X7,X8,X9,Xa,Xb,Xc,Xd,Xe,Xf,Xg,Xh,Xi,Xj,Xk,Xl,Xm,Xn,Xo,Xp,Xq,Xr,Xs,Xt,Xu,Xv,Xw,Xx,Xy,Xz,XA,XB,XC,XD,XE,XF,XG,XH,XI,XJ,XK,XL,XM,XN,XO,XP,XQ,XR,XS,XT,XU,XV,XW,XX,XY,XZ,Y0,Y1,Y2,Y3,Y4,Y5,Y6,Y7,Y8,Y9,Ya,Yb,Yc,Yd,Ye,Yf,Yg,Yh,Yi,Yj,Yk,Yl,Ym,Yn,Yo,Yp,Yq,Yr,Ys,Yt,Yu,Yv,Yw,Yx,Yy,Yz,YA,YB,YC,YD,YE,YF,YG,YH,YI,YJ,YK,YL,YM,YN,YO,YP,YQ,YR,YS,YT,YU,YV,YW,YX,YY,reduceIte,reduceCtorEq,ite_true,ite_false,if_true,if_false,YZ,Z0,Z1,Z2,Z3,Z4,and_true,true_and,and_self,true_imp_iff,false_imp_iff,eq_self,not_true_eq_false,not_false_eq_true,ne_eq,decide_true,decide_false,Z5,Z6,Z7,Z8,Z9,Za,Zb,Zc,Zd,Ze,Zf,Zg,Zh,Zi,Zj,Zk,Zl,Try.underlying36,Try.cs36,Try.bt36,Try.pa36,Try.zr36]
  rfl

theorem mix (s w : Int) (σ : Store) : ACalls Try.prog 37 [.int .u64 s, .int .u64 w] σ (fun r σ' => r = .int .u64 (mixI s w) ∧ σ' = σ) := by
  refine acalls_of_vc (fn := Try.f37) Try.call37 Try.func37 rfl (by kernel_rfl) (by simp [Try.ntmps37]) ?_; simp -implicitDefEqProofs only [Try.ntmps37,Try.results37,Q0,Q1,Q2,Q3,Q4,Q5,Q6,Q7,Q8,Q9,Qa,Qb,Qc,Qd,Qe,Qf,Qg,Qh,Qi,Qj,Qk,Ql,Qm,Qn,Qo,Qp,Qq,Qr,Qs,Qt,Qu,Qv,Qw,Qx,Qy,Qz,QA,QB,QC,QD,QE,QF,QG,QH,QI,QJ,QK,QL,QM,QN,QO,QP,QQ,QR,QS,QT,QU,QV,QW,QX,QY,QZ,X0,X1,X2,X3,X4,X5,X6,X7,X8,X9,Xa,Xb,Xc,Xd,Xe,Xf,Xg,Xh,Xi,Xj,Xk,Xl,Xm,Xn,Xo,Xp,Xq,Xr,Xs,Xt,Xu,Xv,Xw,Xx,Xy,Xz,XA,XB,XC,XD,XE,XF,XG,XH,XI,XJ,XK,XL,XM,XN,XO,XP,XQ,XR,XS,XT,XU,XV,XW,XX,XY,XZ,Y0,Y1,Y2,Y3,Y4,Y5,Y6,Y7,Y8,Y9,Ya,Yb,Yc,Yd,Ye,Yf,Yg,Yh,Yi,Yj,Yk,Yl,Ym,Yn,Yo,Yp,Yq,Yr,Ys,Yt,Yu,Yv,Yw,Yx,Yy,Yz,YA,YB,YC,YD,YE,YF,YG,YH,YI,YJ,YK,YL,YM,YN,YO,YP,YQ,YR,YS,YT,YU,YV,YW,YX,YY,reduceIte,reduceCtorEq,ite_true,ite_false,if_true,if_false,YZ,Z0,Z1,Z2,Z3,Z4,and_true,true_and,and_self,true_imp_iff,false_imp_iff,eq_self,not_true_eq_false,not_false_eq_true,ne_eq,decide_true,decide_false,Z5,Z6,Z7,Z8,Z9,Za,Zb,Zc,Zd,Ze,Zf,Zg,Zh,Zi,Zj,Zk,Zl,Try.underlying34,Try.cs34,Try.bt34,Try.pa34,Try.zr34,Try.underlying36,Try.cs36,Try.bt36,Try.pa36,Try.zr36]
  rfl

/-- Little-endian. -/
def leI : List Int → Int
  | [] => 0
  | x :: xs => 256 * leI xs + x

theorem leI_bound : ∀ (l : List Int), U8s l → 0 ≤ leI l ∧ leI l < 256 ^ l.length
  | [], _ => by simp [leI]
  | x :: xs, h => by
    have h1 := leI_bound xs fun y hy => h y (List.mem_cons_of_mem _ hy)
    have h2 := h x (by simp)
    simp only [leI, List.length_cons, Int.pow_succ]
    omega

def wordAt (l : List Int) (j : Nat) : Int := leI ((l.drop (8 * j)).take 8)

def wordsI (l : List Int) : List Int := (List.range ((l.length + 7) / 8)).map (wordAt l)

theorem leI_step (l : List Int) {hi d : Nat} (hd : d < hi) (hh : hi ≤ l.length) : leI ((l.drop (hi - (d + 1))).take (d + 1)) = 256 * leI ((l.drop (hi - d)).take d) + l.getD (hi - (d + 1)) 0 := by
  have hlt : hi - (d + 1) < l.length := by omega
  rw [List.drop_eq_getElem_cons hlt, List.take_succ_cons, leI, getD_get hlt]
  have : hi - (d + 1) + 1 = hi - d := by omega
  rw [this]

theorem U8s_part {l : List Int} (h : U8s l) (a n : Nat) : U8s ((l.drop a).take n) := fun x hx => h x (List.mem_of_mem_drop (List.mem_of_mem_take hx))

theorem leI_small {l : List Int} (h : U8s l) (hl : l.length ≤ 8) : 0 ≤ leI l ∧ leI l < 18446744073709551616 := by
  obtain ⟨h1, h2⟩ := leI_bound l h
  refine ⟨h1, Int.lt_of_lt_of_le h2 ?_⟩
  have h3 := Nat.pow_le_pow_right (n := 256) (by omega) hl
  have h4 : ((256 ^ l.length : Nat) : Int) = (256 : Int) ^ l.length := by simp [Int.natCast_pow]
  rw [← h4]
  omega

theorem ref_words (l : List Int) (σ : Store) (hb : U8s l) (hl : l.length < 1000000) : ACalls Try.prog 50 [.ints .u8 l] σ (FreshI σ .u64 (wordsI l)) := by
  refine ACalls.fresh ?_
  refine acalls_of_vc (fn := Try.f50) Try.call50 Try.func50 rfl (by kernel_rfl) (by simp [Try.ntmps50]) ?_; simp -implicitDefEqProofs only [Try.ntmps50,Try.results50,Q0,Q1,Q2,Q3,Q4,Q5,Q6,Q7,Q8,Q9,Qa,Qb,Qc,Qd,Qe,Qf,Qg,Qh,Qi,Qj,Qk,Ql,Qm,Qn,Qo,Qp,Qq,Qr,Qs,Qt,Qu,Qv,Qw,Qx,Qy,Qz,QA,QB,QC,QD,QE,QF,QG,QH,QI,QJ,QK,QL,QM,QN,QO,QP,QQ,QR,QS,QT,QU,QV,QW,QX,QY,QZ,X0,X1,X2,X3,X4,X5,X6,X7,X8,X9,Xa,Xb,Xc,Xd,Xe,Xf,Xg,Xh,Xi,Xj,Xk,Xl,Xm,Xn,Xo,Xp,Xq,Xr,Xs,Xt,Xu,Xv,Xw,Xx,Xy,Xz,XA,XB,XC,XD,XE,XF,XG,XH,XI,XJ,XK,XL,XM,XN,XO,XP,XQ,XR,XS,XT,XU,XV,XW,XX,XY,XZ,Y0,Y1,Y2,Y3,Y4,Y5,Y6,Y7,Y8,Y9,Ya,Yb,Yc,Yd,Ye,Yf,Yg,Yh,Yi,Yj,Yk,Yl,Ym,Yn,Yo,Yp,Yq,Yr,Ys,Yt,Yu,Yv,Yw,Yx,Yy,Yz,YA,YB,YC,YD,YE,YF,YG,YH,YI,YJ,YK,YL,YM,YN,YO,YP,YQ,YR,YS,YT,YU,YV,YW,YX,YY,reduceIte,reduceCtorEq,ite_true,ite_false,if_true,if_false,YZ,Z0,Z1,Z2,Z3,Z4,and_true,true_and,and_self,true_imp_iff,false_imp_iff,eq_self,not_true_eq_false,not_false_eq_true,ne_eq,decide_true,decide_false,Z5,Z6,Z7,Z8,Z9,Za,Zb,Zc,Zd,Ze,Zf,Zg,Zh,Zi,Zj,Zk,Zl,Try.underlying3,Try.cs3,Try.bt3,Try.pa3,Try.zr3,Try.underlying4,Try.cs4,Try.bt4,Try.pa4,Try.ty4,Try.zr4,Try.underlying5,Try.cs5,Try.bt5,Try.pa5,Try.zr5,Try.underlying23,Try.cs23,Try.bt23,Try.pa23,Try.ty23,Try.sl23,Try.zr23,Try.underlying36,Try.cs36,Try.bt36,Try.pa36,Try.zr36,Try.underlying80,Try.cs80,Try.bt80,Try.pa80,Try.ty80,Try.sl80,Try.zr80]
  refine awp_loop (fun p : Nat × AV => [(4, .int .i64 ((8 * p.1 : Nat) : Int)), (3, p.2), (2, .nils), (0, .ints .u8 l)]) (fun p s => p.1 ≤ (l.length + 7) / 8 ∧ Ext σ s ∧ BufI s σ.length p.2 .u64 ((List.range p.1).map (wordAt l))) (fun p => (l.length + 7) / 8 - p.1) (0, .nils) (by kernel_rfl)
    (by simp [sub_cons, sub_nil, get_cons]) ⟨by omega, .refl _, .nil⟩ ?_
  rintro ⟨j, r⟩ s ⟨hj, hx, hbuf⟩
  simp only at hj hbuf
  simp -implicitDefEqProofs only [Q0,Q1,Q2,Q3,Q4,Q5,Q6,Q7,Q8,Q9,Qa,Qb,Qc,Qd,Qe,Qf,Qg,Qh,Qi,Qj,Qk,Ql,Qm,Qn,Qo,Qp,Qq,Qr,Qs,Qt,Qu,Qv,Qw,Qx,Qy,Qz,QA,QB,QC,QD,QE,QF,QG,QH,QI,QJ,QK,QL,QM,QN,QO,QP,QQ,QR,QS,QT,QU,QV,QW,QX,QY,QZ,X0,X1,X2,X3,X4,X5,X6,X7,X8,X9,Xa,Xb,Xc,Xd,Xe,Xf,Xg,Xh,Xi,Xj,Xk,Xl,Xm,Xn,Xo,Xp,Xq,Xr,Xs,Xt,Xu,Xv,Xw,Xx,Xy,Xz,XA,XB,XC,XD,XE,XF,XG,XH,XI,XJ,XK,XL,XM,XN,XO,XP,XQ,XR,XS,XT,XU,XV,XW,XX,XY,XZ,Y0,Y1,Y2,Y3,Y4,Y5,Y6,Y7,Y8,Y9,Ya,Yb,Yc,Yd,Ye,Yf,Yg,Yh,Yi,Yj,Yk,Yl,Ym,Yn,Yo,Yp,Yq,Yr,Ys,Yt,Yu,Yv,Yw,Yx,Yy,Yz,YA,YB,YC,YD,YE,YF,YG,YH,YI,YJ,YK,YL,YM,YN,YO,YP,YQ,YR,YS,YT,YU,YV,YW,YX,YY,reduceIte,reduceCtorEq,ite_true,ite_false,if_true,if_false,YZ,Z0,Z1,Z2,Z3,Z4,and_true,true_and,and_self,true_imp_iff,false_imp_iff,eq_self,not_true_eq_false,not_false_eq_true,ne_eq,decide_true,decide_false,Z5,Z6,Z7,Z8,Z9,Za,Zb,Zc,Zd,Ze,Zf,Zg,Zh,Zi,Zj,Zk,Zl,Try.underlying3,Try.cs3,Try.bt3,Try.pa3,Try.zr3,Try.underlying4,Try.cs4,Try.bt4,Try.pa4,Try.ty4,Try.zr4,Try.underlying5,Try.cs5,Try.bt5,Try.pa5,Try.zr5,Try.underlying23,Try.cs23,Try.bt23,Try.pa23,Try.ty23,Try.sl23,Try.zr23,Try.underlying36,Try.cs36,Try.bt36,Try.pa36,Try.zr36,Try.underlying80,Try.cs80,Try.bt80,Try.pa80,Try.ty80,Try.sl80,Try.zr80]
  constructor
  · intro hlt
    have hlt' : 8 * j < l.length := by simp at hlt; omega
    have hw8 : IntKind.i64.wrap (((8 * j : Nat) : Int) + 8) = ((8 * j + 8 : Nat) : Int) := by rw [wrap_i64 (by omega) (by omega)]; omega
    have hmin : min ((8 * j + 8 : Nat) : Int) (l.length : Int) = ((min (8 * j + 8) l.length : Nat) : Int) := by omega
    obtain ⟨hi, hhi⟩ : ∃ hi, hi = min (8 * j + 8) l.length := ⟨_, rfl⟩
    have hw9 : IntKind.i64.wrap ((hi : Int) - 1) = (hi : Int) - 1 := wrap_i64 (by omega) (by omega)
    rw [hw8, hmin, ← hhi, hw9]
    refine awp_loop (fun d : Nat => [(6, .int .i64 ((hi : Int) - 1 - d)), (5, .int .u64 (leI ((l.drop (hi - d)).take d))), (4, .int .i64 ((8 * j : Nat) : Int)), (3, r), (2, .nils), (0, .ints .u8 l)]) (fun d s1 => s1 = s ∧ d ≤ hi - 8 * j) (fun d => hi - 8 * j - d) 0 (by kernel_rfl)
      (by simp [sub_cons, sub_nil, get_cons, leI]) ⟨rfl, by omega⟩ ?_
    rintro d s1 ⟨rfl, hd⟩
    simp -implicitDefEqProofs only [Q0,Q1,Q2,Q3,Q4,Q5,Q6,Q7,Q8,Q9,Qa,Qb,Qc,Qd,Qe,Qf,Qg,Qh,Qi,Qj,Qk,Ql,Qm,Qn,Qo,Qp,Qq,Qr,Qs,Qt,Qu,Qv,Qw,Qx,Qy,Qz,QA,QB,QC,QD,QE,QF,QG,QH,QI,QJ,QK,QL,QM,QN,QO,QP,QQ,QR,QS,QT,QU,QV,QW,QX,QY,QZ,X0,X1,X2,X3,X4,X5,X6,X7,X8,X9,Xa,Xb,Xc,Xd,Xe,Xf,Xg,Xh,Xi,Xj,Xk,Xl,Xm,Xn,Xo,Xp,Xq,Xr,Xs,Xt,Xu,Xv,Xw,Xx,Xy,Xz,XA,XB,XC,XD,XE,XF,XG,XH,XI,XJ,XK,XL,XM,XN,XO,XP,XQ,XR,XS,XT,XU,XV,XW,XX,XY,XZ,Y0,Y1,Y2,Y3,Y4,Y5,Y6,Y7,Y8,Y9,Ya,Yb,Yc,Yd,Ye,Yf,Yg,Yh,Yi,Yj,Yk,Yl,Ym,Yn,Yo,Yp,Yq,Yr,Ys,Yt,Yu,Yv,Yw,Yx,Yy,Yz,YA,YB,YC,YD,YE,YF,YG,YH,YI,YJ,YK,YL,YM,YN,YO,YP,YQ,YR,YS,YT,YU,YV,YW,YX,YY,reduceIte,reduceCtorEq,ite_true,ite_false,if_true,if_false,YZ,Z0,Z1,Z2,Z3,Z4,and_true,true_and,and_self,true_imp_iff,false_imp_iff,eq_self,not_true_eq_false,not_false_eq_true,ne_eq,decide_true,decide_false,Z5,Z6,Z7,Z8,Z9,Za,Zb,Zc,Zd,Ze,Zf,Zg,Zh,Zi,Zj,Zk,Zl,Try.underlying3,Try.cs3,Try.bt3,Try.pa3,Try.zr3,Try.underlying4,Try.cs4,Try.bt4,Try.pa4,Try.ty4,Try.zr4,Try.underlying5,Try.cs5,Try.bt5,Try.pa5,Try.zr5,Try.underlying23,Try.cs23,Try.bt23,Try.pa23,Try.ty23,Try.sl23,Try.zr23,Try.underlying36,Try.cs36,Try.bt36,Try.pa36,Try.zr36,Try.underlying80,Try.cs80,Try.bt80,Try.pa80,Try.ty80,Try.sl80,Try.zr80]
    constructor
    · intro hge
      have hge' : d < hi - 8 * j := by simp at hge; omega
      have hk : (((hi : Int) - 1 - d).toNat) = hi - (d + 1) := by omega
      rw [hk]
      refine ⟨by omega, d + 1, ⟨?_, ?_⟩, by omega, by omega⟩
      · rw [wrap_i64 (by omega) (by omega)]; congr 2; omega
      · have hp := leI_small (U8s_part hb (hi - d) d) (by rw [List.length_take]; omega)
        have hp2 := leI_small (U8s_part hb (hi - (d + 1)) (d + 1)) (by rw [List.length_take]; omega)
        have hst := leI_step l (hi := hi) (d := d) (by omega) (by omega)
        have hq := hb (l.getD (hi - (d + 1)) 0) (by rw [getD_get (by omega)]; exact List.getElem_mem _)
        have hq2 := (leI_bound _ (U8s_part hb (hi - d) d)).2
        rw [wrap_u64 (n := l.getD (hi - (d + 1)) 0) (by omega) (by omega), wrap_u64 (n := 256 * _) (by omega) (by omega), ← hst, wrap_u64 hp2.1 hp2.2]
    · intro hge
      have hd' : d = hi - 8 * j := by simp at hge; omega
      have hword : leI ((l.drop (hi - d)).take d) = wordAt l j := by
        subst hd'
        unfold wordAt
        congr 1
        rw [show hi - (hi - 8 * j) = 8 * j by omega, List.take_eq_take_iff, List.length_drop]
        omega
      rw [hword]
      refine append_buf Try.sl23 (by simp [Try.bt36]) hx hbuf (.inl rfl) (by simp [appFits, Try.bt36]; omega) fun r2 s2 hx2 hb2 => ?_
      simp -implicitDefEqProofs only [Q0,Q1,Q2,Q3,Q4,Q5,Q6,Q7,Q8,Q9,Qa,Qb,Qc,Qd,Qe,Qf,Qg,Qh,Qi,Qj,Qk,Ql,Qm,Qn,Qo,Qp,Qq,Qr,Qs,Qt,Qu,Qv,Qw,Qx,Qy,Qz,QA,QB,QC,QD,QE,QF,QG,QH,QI,QJ,QK,QL,QM,QN,QO,QP,QQ,QR,QS,QT,QU,QV,QW,QX,QY,QZ,X0,X1,X2,X3,X4,X5,X6,X7,X8,X9,Xa,Xb,Xc,Xd,Xe,Xf,Xg,Xh,Xi,Xj,Xk,Xl,Xm,Xn,Xo,Xp,Xq,Xr,Xs,Xt,Xu,Xv,Xw,Xx,Xy,Xz,XA,XB,XC,XD,XE,XF,XG,XH,XI,XJ,XK,XL,XM,XN,XO,XP,XQ,XR,XS,XT,XU,XV,XW,XX,XY,XZ,Y0,Y1,Y2,Y3,Y4,Y5,Y6,Y7,Y8,Y9,Ya,Yb,Yc,Yd,Ye,Yf,Yg,Yh,Yi,Yj,Yk,Yl,Ym,Yn,Yo,Yp,Yq,Yr,Ys,Yt,Yu,Yv,Yw,Yx,Yy,Yz,YA,YB,YC,YD,YE,YF,YG,YH,YI,YJ,YK,YL,YM,YN,YO,YP,YQ,YR,YS,YT,YU,YV,YW,YX,YY,reduceIte,reduceCtorEq,ite_true,ite_false,if_true,if_false,YZ,Z0,Z1,Z2,Z3,Z4,and_true,true_and,and_self,true_imp_iff,false_imp_iff,eq_self,not_true_eq_false,not_false_eq_true,ne_eq,decide_true,decide_false,Z5,Z6,Z7,Z8,Z9,Za,Zb,Zc,Zd,Ze,Zf,Zg,Zh,Zi,Zj,Zk,Zl,Try.underlying3,Try.cs3,Try.bt3,Try.pa3,Try.zr3,Try.underlying4,Try.cs4,Try.bt4,Try.pa4,Try.ty4,Try.zr4,Try.underlying5,Try.cs5,Try.bt5,Try.pa5,Try.zr5,Try.underlying23,Try.cs23,Try.bt23,Try.pa23,Try.ty23,Try.sl23,Try.zr23,Try.underlying36,Try.cs36,Try.bt36,Try.pa36,Try.zr36,Try.underlying80,Try.cs80,Try.bt80,Try.pa80,Try.ty80,Try.sl80,Try.zr80]
      refine ⟨(j + 1, r2), ⟨?_, rfl⟩, ⟨by simp only; omega, hx2, ?_⟩, by simp only; omega⟩
      · simp only; rw [hw8]; rfl
      · simp only [List.range_succ, List.map_append, List.map_cons, List.map_nil]; exact hb2
  · intro hge
    have hj' : j = (l.length + 7) / 8 := by simp at hge; omega
    subst hj'
    exact ⟨hx, hbuf⟩

theorem wordsI_length (l : List Int) : (wordsI l).length = (l.length + 7) / 8 := by simp [wordsI]

/-- The reference's sum. -/
def sumR (a l : List Int) : Int :=
  mixR (l.foldl (fun s x => mixR s (IntKind.u64.wrap x)) (mixR (mixR ((wordsI a).foldl mixR 0) (IntKind.u64.wrap a.length)) (IntKind.u64.wrap l.length))) 0

theorem ref_sum (a l : List Int) (σ : Store) (hb : U8s a) (ha : a.length < 1000000) (hl : l.length < 1000000) : ACalls Try.prog 38 [.str a, .ints .i64 l] σ (fun r σ' => r = .int .u64 (sumR a l) ∧ σ' = σ) := by
  refine acalls_of_vc (fn := Try.f38) Try.call38 Try.func38 rfl (by kernel_rfl) (by simp [Try.ntmps38]) ?_; simp -implicitDefEqProofs only [Try.ntmps38,Try.results38,Q0,Q1,Q2,Q3,Q4,Q5,Q6,Q7,Q8,Q9,Qa,Qb,Qc,Qd,Qe,Qf,Qg,Qh,Qi,Qj,Qk,Ql,Qm,Qn,Qo,Qp,Qq,Qr,Qs,Qt,Qu,Qv,Qw,Qx,Qy,Qz,QA,QB,QC,QD,QE,QF,QG,QH,QI,QJ,QK,QL,QM,QN,QO,QP,QQ,QR,QS,QT,QU,QV,QW,QX,QY,QZ,X0,X1,X2,X3,X4,X5,X6,X7,X8,X9,Xa,Xb,Xc,Xd,Xe,Xf,Xg,Xh,Xi,Xj,Xk,Xl,Xm,Xn,Xo,Xp,Xq,Xr,Xs,Xt,Xu,Xv,Xw,Xx,Xy,Xz,XA,XB,XC,XD,XE,XF,XG,XH,XI,XJ,XK,XL,XM,XN,XO,XP,XQ,XR,XS,XT,XU,XV,XW,XX,XY,XZ,Y0,Y1,Y2,Y3,Y4,Y5,Y6,Y7,Y8,Y9,Ya,Yb,Yc,Yd,Ye,Yf,Yg,Yh,Yi,Yj,Yk,Yl,Ym,Yn,Yo,Yp,Yq,Yr,Ys,Yt,Yu,Yv,Yw,Yx,Yy,Yz,YA,YB,YC,YD,YE,YF,YG,YH,YI,YJ,YK,YL,YM,YN,YO,YP,YQ,YR,YS,YT,YU,YV,YW,YX,YY,reduceIte,reduceCtorEq,ite_true,ite_false,if_true,if_false,YZ,Z0,Z1,Z2,Z3,Z4,and_true,true_and,and_self,true_imp_iff,false_imp_iff,eq_self,not_true_eq_false,not_false_eq_true,ne_eq,decide_true,decide_false,Z5,Z6,Z7,Z8,Z9,Za,Zb,Zc,Zd,Ze,Zf,Zg,Zh,Zi,Zj,Zk,Zl,Try.underlying3,Try.cs3,Try.bt3,Try.pa3,Try.zr3,Try.underlying4,Try.cs4,Try.bt4,Try.pa4,Try.ty4,Try.zr4,Try.underlying5,Try.cs5,Try.bt5,Try.pa5,Try.zr5,Try.underlying9,Try.cs9,Try.bt9,Try.pa9,Try.ty9,Try.zr9,Try.underlying22,Try.cs22,Try.bt22,Try.pa22,Try.ty22,Try.sl22,Try.zr22,Try.underlying23,Try.cs23,Try.bt23,Try.pa23,Try.ty23,Try.sl23,Try.zr23,Try.underlying36,Try.cs36,Try.bt36,Try.pa36,Try.zr36,Try.underlying80,Try.cs80,Try.bt80,Try.pa80,Try.ty80,Try.sl80,Try.zr80]
  refine ⟨by omega, acalls_then (ref_words a σ hb ha).freshFrozen ?_⟩
  simp -implicitDefEqProofs only [Q0,Q1,Q2,Q3,Q4,Q5,Q6,Q7,Q8,Q9,Qa,Qb,Qc,Qd,Qe,Qf,Qg,Qh,Qi,Qj,Qk,Ql,Qm,Qn,Qo,Qp,Qq,Qr,Qs,Qt,Qu,Qv,Qw,Qx,Qy,Qz,QA,QB,QC,QD,QE,QF,QG,QH,QI,QJ,QK,QL,QM,QN,QO,QP,QQ,QR,QS,QT,QU,QV,QW,QX,QY,QZ,X0,X1,X2,X3,X4,X5,X6,X7,X8,X9,Xa,Xb,Xc,Xd,Xe,Xf,Xg,Xh,Xi,Xj,Xk,Xl,Xm,Xn,Xo,Xp,Xq,Xr,Xs,Xt,Xu,Xv,Xw,Xx,Xy,Xz,XA,XB,XC,XD,XE,XF,XG,XH,XI,XJ,XK,XL,XM,XN,XO,XP,XQ,XR,XS,XT,XU,XV,XW,XX,XY,XZ,Y0,Y1,Y2,Y3,Y4,Y5,Y6,Y7,Y8,Y9,Ya,Yb,Yc,Yd,Ye,Yf,Yg,Yh,Yi,Yj,Yk,Yl,Ym,Yn,Yo,Yp,Yq,Yr,Ys,Yt,Yu,Yv,Yw,Yx,Yy,Yz,YA,YB,YC,YD,YE,YF,YG,YH,YI,YJ,YK,YL,YM,YN,YO,YP,YQ,YR,YS,YT,YU,YV,YW,YX,YY,reduceIte,reduceCtorEq,ite_true,ite_false,if_true,if_false,YZ,Z0,Z1,Z2,Z3,Z4,and_true,true_and,and_self,true_imp_iff,false_imp_iff,eq_self,not_true_eq_false,not_false_eq_true,ne_eq,decide_true,decide_false,Z5,Z6,Z7,Z8,Z9,Za,Zb,Zc,Zd,Ze,Zf,Zg,Zh,Zi,Zj,Zk,Zl,Try.underlying3,Try.cs3,Try.bt3,Try.pa3,Try.zr3,Try.underlying4,Try.cs4,Try.bt4,Try.pa4,Try.ty4,Try.zr4,Try.underlying5,Try.cs5,Try.bt5,Try.pa5,Try.zr5,Try.underlying9,Try.cs9,Try.bt9,Try.pa9,Try.ty9,Try.zr9,Try.underlying22,Try.cs22,Try.bt22,Try.pa22,Try.ty22,Try.sl22,Try.zr22,Try.underlying23,Try.cs23,Try.bt23,Try.pa23,Try.ty23,Try.sl23,Try.zr23,Try.underlying36,Try.cs36,Try.bt36,Try.pa36,Try.zr36,Try.underlying80,Try.cs80,Try.bt80,Try.pa80,Try.ty80,Try.sl80,Try.zr80]
  have hwl := wordsI_length a
  obtain ⟨ws, hws⟩ : ∃ ws, ws = wordsI a := ⟨_, rfl⟩
  unfold sumR
  rw [← hws] at hwl ⊢
  refine awp_loop (fun i : Nat => [(7, .int .i64 i), (6, .ints .u64 ws), (5, .int .u64 ((ws.take i).foldl mixR 0)), (0, .str a), (1, .ints .i64 l)]) (fun i s => s = σ ∧ i ≤ ws.length) (fun i => ws.length - i) 0 (by kernel_rfl) (by simp [sub_cons, sub_nil, get_cons]) ⟨rfl, by omega⟩ ?_
  rintro i s ⟨rfl, hi⟩
  simp -implicitDefEqProofs only [Q0,Q1,Q2,Q3,Q4,Q5,Q6,Q7,Q8,Q9,Qa,Qb,Qc,Qd,Qe,Qf,Qg,Qh,Qi,Qj,Qk,Ql,Qm,Qn,Qo,Qp,Qq,Qr,Qs,Qt,Qu,Qv,Qw,Qx,Qy,Qz,QA,QB,QC,QD,QE,QF,QG,QH,QI,QJ,QK,QL,QM,QN,QO,QP,QQ,QR,QS,QT,QU,QV,QW,QX,QY,QZ,X0,X1,X2,X3,X4,X5,X6,X7,X8,X9,Xa,Xb,Xc,Xd,Xe,Xf,Xg,Xh,Xi,Xj,Xk,Xl,Xm,Xn,Xo,Xp,Xq,Xr,Xs,Xt,Xu,Xv,Xw,Xx,Xy,Xz,XA,XB,XC,XD,XE,XF,XG,XH,XI,XJ,XK,XL,XM,XN,XO,XP,XQ,XR,XS,XT,XU,XV,XW,XX,XY,XZ,Y0,Y1,Y2,Y3,Y4,Y5,Y6,Y7,Y8,Y9,Ya,Yb,Yc,Yd,Ye,Yf,Yg,Yh,Yi,Yj,Yk,Yl,Ym,Yn,Yo,Yp,Yq,Yr,Ys,Yt,Yu,Yv,Yw,Yx,Yy,Yz,YA,YB,YC,YD,YE,YF,YG,YH,YI,YJ,YK,YL,YM,YN,YO,YP,YQ,YR,YS,YT,YU,YV,YW,YX,YY,reduceIte,reduceCtorEq,ite_true,ite_false,if_true,if_false,YZ,Z0,Z1,Z2,Z3,Z4,and_true,true_and,and_self,true_imp_iff,false_imp_iff,eq_self,not_true_eq_false,not_false_eq_true,ne_eq,decide_true,decide_false,Z5,Z6,Z7,Z8,Z9,Za,Zb,Zc,Zd,Ze,Zf,Zg,Zh,Zi,Zj,Zk,Zl,Try.underlying3,Try.cs3,Try.bt3,Try.pa3,Try.zr3,Try.underlying4,Try.cs4,Try.bt4,Try.pa4,Try.ty4,Try.zr4,Try.underlying5,Try.cs5,Try.bt5,Try.pa5,Try.zr5,Try.underlying9,Try.cs9,Try.bt9,Try.pa9,Try.ty9,Try.zr9,Try.underlying22,Try.cs22,Try.bt22,Try.pa22,Try.ty22,Try.sl22,Try.zr22,Try.underlying23,Try.cs23,Try.bt23,Try.pa23,Try.ty23,Try.sl23,Try.zr23,Try.underlying36,Try.cs36,Try.bt36,Try.pa36,Try.zr36,Try.underlying80,Try.cs80,Try.bt80,Try.pa80,Try.ty80,Try.sl80,Try.zr80]
  constructor
  · intro hlt
    have hlt' : i < ws.length := by simp at hlt; omega
    refine ⟨by omega, acalls_then (ref_mix _ _ _) ?_⟩
    simp -implicitDefEqProofs only [Q0,Q1,Q2,Q3,Q4,Q5,Q6,Q7,Q8,Q9,Qa,Qb,Qc,Qd,Qe,Qf,Qg,Qh,Qi,Qj,Qk,Ql,Qm,Qn,Qo,Qp,Qq,Qr,Qs,Qt,Qu,Qv,Qw,Qx,Qy,Qz,QA,QB,QC,QD,QE,QF,QG,QH,QI,QJ,QK,QL,QM,QN,QO,QP,QQ,QR,QS,QT,QU,QV,QW,QX,QY,QZ,X0,X1,X2,X3,X4,X5,X6,X7,X8,X9,Xa,Xb,Xc,Xd,Xe,Xf,Xg,Xh,Xi,Xj,Xk,Xl,Xm,Xn,Xo,Xp,Xq,Xr,Xs,Xt,Xu,Xv,Xw,Xx,Xy,Xz,XA,XB,XC,XD,XE,XF,XG,XH,XI,XJ,XK,XL,XM,XN,XO,XP,XQ,XR,XS,XT,XU,XV,XW,XX,XY,XZ,Y0,Y1,Y2,Y3,Y4,Y5,Y6,Y7,Y8,Y9,Ya,Yb,Yc,Yd,Ye,Yf,Yg,Yh,Yi,Yj,Yk,Yl,Ym,Yn,Yo,Yp,Yq,Yr,Ys,Yt,Yu,Yv,Yw,Yx,Yy,Yz,YA,YB,YC,YD,YE,YF,YG,YH,YI,YJ,YK,YL,YM,YN,YO,YP,YQ,YR,YS,YT,YU,YV,YW,YX,YY,reduceIte,reduceCtorEq,ite_true,ite_false,if_true,if_false,YZ,Z0,Z1,Z2,Z3,Z4,and_true,true_and,and_self,true_imp_iff,false_imp_iff,eq_self,not_true_eq_false,not_false_eq_true,ne_eq,decide_true,decide_false,Z5,Z6,Z7,Z8,Z9,Za,Zb,Zc,Zd,Ze,Zf,Zg,Zh,Zi,Zj,Zk,Zl,Try.underlying3,Try.cs3,Try.bt3,Try.pa3,Try.zr3,Try.underlying4,Try.cs4,Try.bt4,Try.pa4,Try.ty4,Try.zr4,Try.underlying5,Try.cs5,Try.bt5,Try.pa5,Try.zr5,Try.underlying9,Try.cs9,Try.bt9,Try.pa9,Try.ty9,Try.zr9,Try.underlying22,Try.cs22,Try.bt22,Try.pa22,Try.ty22,Try.sl22,Try.zr22,Try.underlying23,Try.cs23,Try.bt23,Try.pa23,Try.ty23,Try.sl23,Try.zr23,Try.underlying36,Try.cs36,Try.bt36,Try.pa36,Try.zr36,Try.underlying80,Try.cs80,Try.bt80,Try.pa80,Try.ty80,Try.sl80,Try.zr80]
    refine ⟨i + 1, ⟨?_, ?_⟩, by omega, by omega⟩
    · rw [wrap_i64 (by omega) (by omega)]; rfl
    · rw [foldl_take_succ _ _ _ hlt', Int.toNat_natCast, getD_get hlt']
  · intro hge
    have hi' : i = ws.length := by simp at hge; omega
    rw [hi', List.take_length]
    refine acalls_then (ref_mix _ _ _) ?_
    simp -implicitDefEqProofs only [Q0,Q1,Q2,Q3,Q4,Q5,Q6,Q7,Q8,Q9,Qa,Qb,Qc,Qd,Qe,Qf,Qg,Qh,Qi,Qj,Qk,Ql,Qm,Qn,Qo,Qp,Qq,Qr,Qs,Qt,Qu,Qv,Qw,Qx,Qy,Qz,QA,QB,QC,QD,QE,QF,QG,QH,QI,QJ,QK,QL,QM,QN,QO,QP,QQ,QR,QS,QT,QU,QV,QW,QX,QY,QZ,X0,X1,X2,X3,X4,X5,X6,X7,X8,X9,Xa,Xb,Xc,Xd,Xe,Xf,Xg,Xh,Xi,Xj,Xk,Xl,Xm,Xn,Xo,Xp,Xq,Xr,Xs,Xt,Xu,Xv,Xw,Xx,Xy,Xz,XA,XB,XC,XD,XE,XF,XG,XH,XI,XJ,XK,XL,XM,XN,XO,XP,XQ,XR,XS,XT,XU,XV,XW,XX,XY,XZ,Y0,Y1,Y2,Y3,Y4,Y5,Y6,Y7,Y8,Y9,Ya,Yb,Yc,Yd,Ye,Yf,Yg,Yh,Yi,Yj,Yk,Yl,Ym,Yn,Yo,Yp,Yq,Yr,Ys,Yt,Yu,Yv,Yw,Yx,Yy,Yz,YA,YB,YC,YD,YE,YF,YG,YH,YI,YJ,YK,YL,YM,YN,YO,YP,YQ,YR,YS,YT,YU,YV,YW,YX,YY,reduceIte,reduceCtorEq,ite_true,ite_false,if_true,if_false,YZ,Z0,Z1,Z2,Z3,Z4,and_true,true_and,and_self,true_imp_iff,false_imp_iff,eq_self,not_true_eq_false,not_false_eq_true,ne_eq,decide_true,decide_false,Z5,Z6,Z7,Z8,Z9,Za,Zb,Zc,Zd,Ze,Zf,Zg,Zh,Zi,Zj,Zk,Zl,Try.underlying3,Try.cs3,Try.bt3,Try.pa3,Try.zr3,Try.underlying4,Try.cs4,Try.bt4,Try.pa4,Try.ty4,Try.zr4,Try.underlying5,Try.cs5,Try.bt5,Try.pa5,Try.zr5,Try.underlying9,Try.cs9,Try.bt9,Try.pa9,Try.ty9,Try.zr9,Try.underlying22,Try.cs22,Try.bt22,Try.pa22,Try.ty22,Try.sl22,Try.zr22,Try.underlying23,Try.cs23,Try.bt23,Try.pa23,Try.ty23,Try.sl23,Try.zr23,Try.underlying36,Try.cs36,Try.bt36,Try.pa36,Try.zr36,Try.underlying80,Try.cs80,Try.bt80,Try.pa80,Try.ty80,Try.sl80,Try.zr80]
    refine acalls_then (ref_mix _ _ _) ?_
    simp -implicitDefEqProofs only [Q0,Q1,Q2,Q3,Q4,Q5,Q6,Q7,Q8,Q9,Qa,Qb,Qc,Qd,Qe,Qf,Qg,Qh,Qi,Qj,Qk,Ql,Qm,Qn,Qo,Qp,Qq,Qr,Qs,Qt,Qu,Qv,Qw,Qx,Qy,Qz,QA,QB,QC,QD,QE,QF,QG,QH,QI,QJ,QK,QL,QM,QN,QO,QP,QQ,QR,QS,QT,QU,QV,QW,QX,QY,QZ,X0,X1,X2,X3,X4,X5,X6,X7,X8,X9,Xa,Xb,Xc,Xd,Xe,Xf,Xg,Xh,Xi,Xj,Xk,Xl,Xm,Xn,Xo,Xp,Xq,Xr,Xs,Xt,Xu,Xv,Xw,Xx,Xy,Xz,XA,XB,XC,XD,XE,XF,XG,XH,XI,XJ,XK,XL,XM,XN,XO,XP,XQ,XR,XS,XT,XU,XV,XW,XX,XY,XZ,Y0,Y1,Y2,Y3,Y4,Y5,Y6,Y7,Y8,Y9,Ya,Yb,Yc,Yd,Ye,Yf,Yg,Yh,Yi,Yj,Yk,Yl,Ym,Yn,Yo,Yp,Yq,Yr,Ys,Yt,Yu,Yv,Yw,Yx,Yy,Yz,YA,YB,YC,YD,YE,YF,YG,YH,YI,YJ,YK,YL,YM,YN,YO,YP,YQ,YR,YS,YT,YU,YV,YW,YX,YY,reduceIte,reduceCtorEq,ite_true,ite_false,if_true,if_false,YZ,Z0,Z1,Z2,Z3,Z4,and_true,true_and,and_self,true_imp_iff,false_imp_iff,eq_self,not_true_eq_false,not_false_eq_true,ne_eq,decide_true,decide_false,Z5,Z6,Z7,Z8,Z9,Za,Zb,Zc,Zd,Ze,Zf,Zg,Zh,Zi,Zj,Zk,Zl,Try.underlying3,Try.cs3,Try.bt3,Try.pa3,Try.zr3,Try.underlying4,Try.cs4,Try.bt4,Try.pa4,Try.ty4,Try.zr4,Try.underlying5,Try.cs5,Try.bt5,Try.pa5,Try.zr5,Try.underlying9,Try.cs9,Try.bt9,Try.pa9,Try.ty9,Try.zr9,Try.underlying22,Try.cs22,Try.bt22,Try.pa22,Try.ty22,Try.sl22,Try.zr22,Try.underlying23,Try.cs23,Try.bt23,Try.pa23,Try.ty23,Try.sl23,Try.zr23,Try.underlying36,Try.cs36,Try.bt36,Try.pa36,Try.zr36,Try.underlying80,Try.cs80,Try.bt80,Try.pa80,Try.ty80,Try.sl80,Try.zr80]
    obtain ⟨z, hz⟩ : ∃ z, z = mixR (mixR (ws.foldl mixR 0) (IntKind.u64.wrap a.length)) (IntKind.u64.wrap l.length) := ⟨_, rfl⟩
    rw [← hz]
    refine awp_loop (fun i : Nat => [(8, .int .i64 i), (5, .int .u64 ((l.take i).foldl (fun s x => mixR s (IntKind.u64.wrap x)) z)), (1, .ints .i64 l)]) (fun i s1 => s1 = s ∧ i ≤ l.length) (fun i => l.length - i) 0 (by kernel_rfl) (by simp [sub_cons, sub_nil, get_cons]) ⟨rfl, by omega⟩ ?_
    rintro i s1 ⟨rfl, hi⟩
    simp -implicitDefEqProofs only [Q0,Q1,Q2,Q3,Q4,Q5,Q6,Q7,Q8,Q9,Qa,Qb,Qc,Qd,Qe,Qf,Qg,Qh,Qi,Qj,Qk,Ql,Qm,Qn,Qo,Qp,Qq,Qr,Qs,Qt,Qu,Qv,Qw,Qx,Qy,Qz,QA,QB,QC,QD,QE,QF,QG,QH,QI,QJ,QK,QL,QM,QN,QO,QP,QQ,QR,QS,QT,QU,QV,QW,QX,QY,QZ,X0,X1,X2,X3,X4,X5,X6,X7,X8,X9,Xa,Xb,Xc,Xd,Xe,Xf,Xg,Xh,Xi,Xj,Xk,Xl,Xm,Xn,Xo,Xp,Xq,Xr,Xs,Xt,Xu,Xv,Xw,Xx,Xy,Xz,XA,XB,XC,XD,XE,XF,XG,XH,XI,XJ,XK,XL,XM,XN,XO,XP,XQ,XR,XS,XT,XU,XV,XW,XX,XY,XZ,Y0,Y1,Y2,Y3,Y4,Y5,Y6,Y7,Y8,Y9,Ya,Yb,Yc,Yd,Ye,Yf,Yg,Yh,Yi,Yj,Yk,Yl,Ym,Yn,Yo,Yp,Yq,Yr,Ys,Yt,Yu,Yv,Yw,Yx,Yy,Yz,YA,YB,YC,YD,YE,YF,YG,YH,YI,YJ,YK,YL,YM,YN,YO,YP,YQ,YR,YS,YT,YU,YV,YW,YX,YY,reduceIte,reduceCtorEq,ite_true,ite_false,if_true,if_false,YZ,Z0,Z1,Z2,Z3,Z4,and_true,true_and,and_self,true_imp_iff,false_imp_iff,eq_self,not_true_eq_false,not_false_eq_true,ne_eq,decide_true,decide_false,Z5,Z6,Z7,Z8,Z9,Za,Zb,Zc,Zd,Ze,Zf,Zg,Zh,Zi,Zj,Zk,Zl,Try.underlying3,Try.cs3,Try.bt3,Try.pa3,Try.zr3,Try.underlying4,Try.cs4,Try.bt4,Try.pa4,Try.ty4,Try.zr4,Try.underlying5,Try.cs5,Try.bt5,Try.pa5,Try.zr5,Try.underlying9,Try.cs9,Try.bt9,Try.pa9,Try.ty9,Try.zr9,Try.underlying22,Try.cs22,Try.bt22,Try.pa22,Try.ty22,Try.sl22,Try.zr22,Try.underlying23,Try.cs23,Try.bt23,Try.pa23,Try.ty23,Try.sl23,Try.zr23,Try.underlying36,Try.cs36,Try.bt36,Try.pa36,Try.zr36,Try.underlying80,Try.cs80,Try.bt80,Try.pa80,Try.ty80,Try.sl80,Try.zr80]
    constructor
    · intro hlt
      have hlt' : i < l.length := by simp at hlt; omega
      refine ⟨by omega, acalls_then (ref_mix _ _ _) ?_⟩
      simp -implicitDefEqProofs only [Q0,Q1,Q2,Q3,Q4,Q5,Q6,Q7,Q8,Q9,Qa,Qb,Qc,Qd,Qe,Qf,Qg,Qh,Qi,Qj,Qk,Ql,Qm,Qn,Qo,Qp,Qq,Qr,Qs,Qt,Qu,Qv,Qw,Qx,Qy,Qz,QA,QB,QC,QD,QE,QF,QG,QH,QI,QJ,QK,QL,QM,QN,QO,QP,QQ,QR,QS,QT,QU,QV,QW,QX,QY,QZ,X0,X1,X2,X3,X4,X5,X6,X7,X8,X9,Xa,Xb,Xc,Xd,Xe,Xf,Xg,Xh,Xi,Xj,Xk,Xl,Xm,Xn,Xo,Xp,Xq,Xr,Xs,Xt,Xu,Xv,Xw,Xx,Xy,Xz,XA,XB,XC,XD,XE,XF,XG,XH,XI,XJ,XK,XL,XM,XN,XO,XP,XQ,XR,XS,XT,XU,XV,XW,XX,XY,XZ,Y0,Y1,Y2,Y3,Y4,Y5,Y6,Y7,Y8,Y9,Ya,Yb,Yc,Yd,Ye,Yf,Yg,Yh,Yi,Yj,Yk,Yl,Ym,Yn,Yo,Yp,Yq,Yr,Ys,Yt,Yu,Yv,Yw,Yx,Yy,Yz,YA,YB,YC,YD,YE,YF,YG,YH,YI,YJ,YK,YL,YM,YN,YO,YP,YQ,YR,YS,YT,YU,YV,YW,YX,YY,reduceIte,reduceCtorEq,ite_true,ite_false,if_true,if_false,YZ,Z0,Z1,Z2,Z3,Z4,and_true,true_and,and_self,true_imp_iff,false_imp_iff,eq_self,not_true_eq_false,not_false_eq_true,ne_eq,decide_true,decide_false,Z5,Z6,Z7,Z8,Z9,Za,Zb,Zc,Zd,Ze,Zf,Zg,Zh,Zi,Zj,Zk,Zl,Try.underlying3,Try.cs3,Try.bt3,Try.pa3,Try.zr3,Try.underlying4,Try.cs4,Try.bt4,Try.pa4,Try.ty4,Try.zr4,Try.underlying5,Try.cs5,Try.bt5,Try.pa5,Try.zr5,Try.underlying9,Try.cs9,Try.bt9,Try.pa9,Try.ty9,Try.zr9,Try.underlying22,Try.cs22,Try.bt22,Try.pa22,Try.ty22,Try.sl22,Try.zr22,Try.underlying23,Try.cs23,Try.bt23,Try.pa23,Try.ty23,Try.sl23,Try.zr23,Try.underlying36,Try.cs36,Try.bt36,Try.pa36,Try.zr36,Try.underlying80,Try.cs80,Try.bt80,Try.pa80,Try.ty80,Try.sl80,Try.zr80]
      refine ⟨i + 1, ⟨?_, ?_⟩, by omega, by omega⟩
      · rw [wrap_i64 (by omega) (by omega)]; rfl
      · rw [foldl_take_succ _ _ _ hlt', Int.toNat_natCast, getD_get hlt']
    · intro hge
      have hi' : i = l.length := by simp at hge; omega
      rw [hi', List.take_length]
      refine acalls_then (ref_mix _ _ _) ?_
      simp -implicitDefEqProofs only [Q0,Q1,Q2,Q3,Q4,Q5,Q6,Q7,Q8,Q9,Qa,Qb,Qc,Qd,Qe,Qf,Qg,Qh,Qi,Qj,Qk,Ql,Qm,Qn,Qo,Qp,Qq,Qr,Qs,Qt,Qu,Qv,Qw,Qx,Qy,Qz,QA,QB,QC,QD,QE,QF,QG,QH,QI,QJ,QK,QL,QM,QN,QO,QP,QQ,QR,QS,QT,QU,QV,QW,QX,QY,QZ,X0,X1,X2,X3,X4,X5,X6,X7,X8,X9,Xa,Xb,Xc,Xd,Xe,Xf,Xg,Xh,Xi,Xj,Xk,Xl,Xm,Xn,Xo,Xp,Xq,Xr,Xs,Xt,Xu,Xv,Xw,Xx,Xy,Xz,XA,XB,XC,XD,XE,XF,XG,XH,XI,XJ,XK,XL,XM,XN,XO,XP,XQ,XR,XS,XT,XU,XV,XW,XX,XY,XZ,Y0,Y1,Y2,Y3,Y4,Y5,Y6,Y7,Y8,Y9,Ya,Yb,Yc,Yd,Ye,Yf,Yg,Yh,Yi,Yj,Yk,Yl,Ym,Yn,Yo,Yp,Yq,Yr,Ys,Yt,Yu,Yv,Yw,Yx,Yy,Yz,YA,YB,YC,YD,YE,YF,YG,YH,YI,YJ,YK,YL,YM,YN,YO,YP,YQ,YR,YS,YT,YU,YV,YW,YX,YY,reduceIte,reduceCtorEq,ite_true,ite_false,if_true,if_false,YZ,Z0,Z1,Z2,Z3,Z4,and_true,true_and,and_self,true_imp_iff,false_imp_iff,eq_self,not_true_eq_false,not_false_eq_true,ne_eq,decide_true,decide_false,Z5,Z6,Z7,Z8,Z9,Za,Zb,Zc,Zd,Ze,Zf,Zg,Zh,Zi,Zj,Zk,Zl,Try.underlying3,Try.cs3,Try.bt3,Try.pa3,Try.zr3,Try.underlying4,Try.cs4,Try.bt4,Try.pa4,Try.ty4,Try.zr4,Try.underlying5,Try.cs5,Try.bt5,Try.pa5,Try.zr5,Try.underlying9,Try.cs9,Try.bt9,Try.pa9,Try.ty9,Try.zr9,Try.underlying22,Try.cs22,Try.bt22,Try.pa22,Try.ty22,Try.sl22,Try.zr22,Try.underlying23,Try.cs23,Try.bt23,Try.pa23,Try.ty23,Try.sl23,Try.zr23,Try.underlying36,Try.cs36,Try.bt36,Try.pa36,Try.zr36,Try.underlying80,Try.cs80,Try.bt80,Try.pa80,Try.ty80,Try.sl80,Try.zr80]

def bytesR (a b : List Int) : Int := sumR a ((wordsI b).map IntKind.i64.wrap ++ [(b.length : Int)])

def pairR (x y : Int) : Int := sumR [112, 97, 105, 114] [IntKind.i64.wrap x, IntKind.i64.wrap y]
end Go.Proofs
