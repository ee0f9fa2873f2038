/-
  Parse: the program's and the reference's; contracts.
-/
import Derived.Test.YtkeekepedakhkaaDoorCk
import Derived.Test.YtkeekepedakhkaaDoorCe
import Derived.Test.YtkeekepedakhkaaDoorAbsH
namespace Go.Proofs
open Go.Pa
open Go.Pa renaming vc_seq → Q0, vc_block → Q1, vc_exit → Q2, vc_ret → Q3, vc_skip → Q4, vc_region → Q5, vc_draw → Q6, vc_loop → Q7, vc_range → Q8, vc_cond → Q9, condV_true → Qa, condV_false → Qb, condV_bool → Qc, seqK_normal → Qd, seqK_ret → Qe, seqK_exit → Qf, blkK_normal → Qg, blkK_ret → Qh, blkK_exit → Qi, loopK_ret → Qj, loopK_exit → Qk, loopK_normal → Ql, vcOps_nil → Qm, vcOps_cons → Qn, vcOps_guardM → Qo, guardM_some → Qp, guardV_und → Qq, guardV_same → Qr, guardV_tf → Qs, guardV_ft → Qt, guardV_bool → Qu, vcOp_out → Qv, outV_val → Qw, outV_need → Qx, outV_no → Qy, opK_run → Qz, opK_none → QA, vcS → QB, evA → QC, evBin → QD, nilA → QE, nilOf → QF, intOp → QG, strOp → QH, evUn → QI, evConv → QJ, evField → QK, evFieldAddr → QL, evIndexAddr → QM, evIndex → QN, bnd → QO, evSlice → QP, evLen → QQ, evPick → QR, evExtract → QS, evNilCheck → QT, evMin → QU, evMax → QV, evLoadI → QW, cO_int → QX, cO_bool → QY, cO_str → QZ, cO_nils → X0, cO_emp → X1, cO_ints → X2, cO_rows → X3, cO_mvec → X4, cO_ptr → X5, cO_eptr → X6, cO_iptr → X7, cO_nilp → X8, cO_fn → X9, cO_nilf → Xa, cO_mp → Xb, cO_nilm → Xc, cO_glob → Xd, cO_agg → Xe, partsOne → Xg, intsOf → Xh, rowsAV → Xi, evBuildSlice → Xj, evBuild → Xk, fillA → Xl, splice → Xm, evBuiltin → Xn, vcE_nil → Xo, vcE_cons → Xp, vcE_guardM → Xq, guardME_some → Xr, guardD_und → Xs, guardD_same → Xt, guardD_tf → Xu, guardD_ft → Xv, guardD_bool → Xw, dK_run → Xx, dK_none → Xy, dOp_call → Xz, callA_fn → XA, dOp → XB, outA_val → XC, outA_need → XD, cl → XE, vcLoad → XF, vcStore → XG, vcMake → XH, evO_tmp → XI, evO_int → XJ, evO_bool → XK, evO_nils → XL, evO_nilp → XM, evO_nilf → XN, evO_nilm → XO, evO_str → XP, evO_func → XQ, evO_glob → XR, convA → XS, evIndexArr → XT, lookA_cons → XU, get_cons → XV, sub_cons → XW, sub_nil → XX, retK_ret → XY, retK_normal → XZ, retA → Y0, ressA → Y1, resA → Y2, envOf → Y3, vcR_skip → Y7, vcR_seq → Y8, vcR_block → Y9, vcR_exit → Ya, vcR_ret → Yb, vcR_region → Yc, vcR_draw → Yd, vcR_cond → Ye, condR_true → Yf, condR_false → Yg, condR_bool → Yh, seqR_normal → Yi, seqR_ret → Yj, seqR_exit → Yk, asgEnv → Yl, parEnv → Ym, dstAt → Z5, sto_assoc → Z6, sto_len → Z7, sto_at → Z8, sto_at0 → Z9, sto_set → Za, sto_set0 → Zb
open Go.Pa.AV renaming cell → Xf
open Go.Pa.Env renaming put → Y4
open List renaming set_cons_zero → Y5, set_cons_succ → Y6, foldl_cons → Yn, foldl_nil → Yo, map_cons → Yp, map_nil → Yq, toList_toArray → Yr, getElem?_cons_zero → Ys, getElem?_cons_succ → Yt, nil_append → Yx, append_nil → Yy, cons_append → Yz, singleton_append → YA, length_cons → YB, length_nil → YC, all_cons → YD, all_nil → YE, take_succ_cons → YF, take_zero → YG, take_nil → YH, drop_zero → YI, drop_succ_cons → YJ, drop_nil → YK, contains_nil → YL, contains_cons → YM
open Option renaming bind_some → Yu, map_some → Yv, map_none → Yw
open Bool renaming or_false → YN, false_or → YO, or_true → YP, true_or → YQ, false_eq_true → YZ, not_true → Z0, not_false → Z1, and_true → Z2, true_and → Z3, and_self → Z4
open Nat renaming reduceEqDiff → YR, reduceAdd → YS, reduceSub → YT, reduceMul → YU, reduceLT → YV, reduceLeDiff → YW, reduceBNe → YX, reduceBEq → YY, zero_add → Ze, add_zero → Zf
open UInt8 renaming reduceToNat → Zc
open Int renaming cast_ofNat_Int → Zd, reduceToNat → Zg, reduceLT → Zh, reduceLE → Zi, reduceNeg → Zj, reduceEq → Zk, reduceNe → Zl
set_option linter.unusedSimpArgs false
set_option maxRecDepth 20000
set_option maxHeartbeats 2000000

/-- A character of the text of a date, by its place. -/
def okT (s : List Int) (i : Nat) : Prop := if i = 4 ∨ i = 7 then s.getD i 0 = 45 else 48 ≤ s.getD i 0 ∧ s.getD i 0 ≤ 57

def formT (s : List Int) : Prop := s.length = 10 ∧ ∀ i, i < 10 → okT s i

def accY (s : List Int) : Nat → Int
  | 0 => 0
  | i + 1 => if i < 4 then 10 * accY s i + (s.getD i 0 - 48) else accY s i
def accM (s : List Int) : Nat → Int
  | 0 => 0
  | i + 1 => if i = 5 ∨ i = 6 then 10 * accM s i + (s.getD i 0 - 48) else accM s i
def accE (s : List Int) : Nat → Int
  | 0 => 0
  | i + 1 => if i = 8 ∨ i = 9 then 10 * accE s i + (s.getD i 0 - 48) else accE s i

def dateT (s : List Int) : Dt := ⟨accY s 10, accM s 10, accE s 10⟩

theorem dig {s : List Int} {i n : Nat} (h : ∀ j, j < n → okT s j) (hi : i < n) (h4 : i ≠ 4) (h7 : i ≠ 7) : 48 ≤ s.getD i 0 ∧ s.getD i 0 ≤ 57 := by
  have := h i hi
  unfold okT at this
  rwa [if_neg (by omega)] at this

theorem accY_b {s : List Int} {n : Nat} (hn : n ≤ 10) (h : ∀ j, j < n → okT s j) : 0 ≤ accY s n ∧ accY s n ≤ 9999 := by
  have d0 : 0 < n → _ := fun hi => dig h (i := 0) hi (by omega) (by omega)
  have d1 : 1 < n → _ := fun hi => dig h (i := 1) hi (by omega) (by omega)
  have d2 : 2 < n → _ := fun hi => dig h (i := 2) hi (by omega) (by omega)
  have d3 : 3 < n → _ := fun hi => dig h (i := 3) hi (by omega) (by omega)
  generalize hs0 : s.getD 0 0 = a0 at d0
  generalize hs1 : s.getD 1 0 = a1 at d1
  generalize hs2 : s.getD 2 0 = a2 at d2
  generalize hs3 : s.getD 3 0 = a3 at d3
  have e0 : accY s 0 = 0 := rfl
  have e1 : accY s 1 = 10 * 0 + (a0 - 48) := by rw [← hs0]; rfl
  have e2 : accY s 2 = 10 * accY s 1 + (a1 - 48) := by rw [← hs1]; rfl
  have e3 : accY s 3 = 10 * accY s 2 + (a2 - 48) := by rw [← hs2]; rfl
  have e4 : accY s 4 = 10 * accY s 3 + (a3 - 48) := by rw [← hs3]; rfl
  have e5 : accY s 5 = accY s 4 := rfl
  have e6 : accY s 6 = accY s 4 := rfl
  have e7 : accY s 7 = accY s 4 := rfl
  have e8 : accY s 8 = accY s 4 := rfl
  have e9 : accY s 9 = accY s 4 := rfl
  have e10 : accY s 10 = accY s 4 := rfl
  have hc : n = 0 ∨ n = 1 ∨ n = 2 ∨ n = 3 ∨ n = 4 ∨ n = 5 ∨ n = 6 ∨ n = 7 ∨ n = 8 ∨ n = 9 ∨ n = 10 := by omega
  rcases hc with rfl | rfl | rfl | rfl | rfl | rfl | rfl | rfl | rfl | rfl | rfl <;> omega

theorem accM_b {s : List Int} {n : Nat} (hn : n ≤ 10) (h : ∀ j, j < n → okT s j) : 0 ≤ accM s n ∧ accM s n ≤ 99 := by
  have d0 : 5 < n → _ := fun hi => dig h (i := 5) hi (by omega) (by omega)
  have d1 : 6 < n → _ := fun hi => dig h (i := 6) hi (by omega) (by omega)
  generalize hs0 : s.getD 5 0 = a0 at d0
  generalize hs1 : s.getD 6 0 = a1 at d1
  have e0 : accM s 0 = 0 := rfl
  have e1 : accM s 1 = 0 := rfl
  have e2 : accM s 2 = 0 := rfl
  have e3 : accM s 3 = 0 := rfl
  have e4 : accM s 4 = 0 := rfl
  have e5 : accM s 5 = 0 := rfl
  have e6 : accM s 6 = 10 * 0 + (a0 - 48) := by rw [← hs0]; rfl
  have e7 : accM s 7 = 10 * accM s 6 + (a1 - 48) := by rw [← hs1]; rfl
  have e8 : accM s 8 = accM s 7 := rfl
  have e9 : accM s 9 = accM s 7 := rfl
  have e10 : accM s 10 = accM s 7 := rfl
  have hc : n = 0 ∨ n = 1 ∨ n = 2 ∨ n = 3 ∨ n = 4 ∨ n = 5 ∨ n = 6 ∨ n = 7 ∨ n = 8 ∨ n = 9 ∨ n = 10 := by omega
  rcases hc with rfl | rfl | rfl | rfl | rfl | rfl | rfl | rfl | rfl | rfl | rfl <;> omega

theorem accE_b {s : List Int} {n : Nat} (hn : n ≤ 10) (h : ∀ j, j < n → okT s j) : 0 ≤ accE s n ∧ accE s n ≤ 99 := by
  have d0 : 8 < n → _ := fun hi => dig h (i := 8) hi (by omega) (by omega)
  have d1 : 9 < n → _ := fun hi => dig h (i := 9) hi (by omega) (by omega)
  generalize hs0 : s.getD 8 0 = a0 at d0
  generalize hs1 : s.getD 9 0 = a1 at d1
  have e0 : accE s 0 = 0 := rfl
  have e1 : accE s 1 = 0 := rfl
  have e2 : accE s 2 = 0 := rfl
  have e3 : accE s 3 = 0 := rfl
  have e4 : accE s 4 = 0 := rfl
  have e5 : accE s 5 = 0 := rfl
  have e6 : accE s 6 = 0 := rfl
  have e7 : accE s 7 = 0 := rfl
  have e8 : accE s 8 = 0 := rfl
  have e9 : accE s 9 = 10 * 0 + (a0 - 48) := by rw [← hs0]; rfl
  have e10 : accE s 10 = 10 * accE s 9 + (a1 - 48) := by rw [← hs1]; rfl
  have hc : n = 0 ∨ n = 1 ∨ n = 2 ∨ n = 3 ∨ n = 4 ∨ n = 5 ∨ n = 6 ∨ n = 7 ∨ n = 8 ∨ n = 9 ∨ n = 10 := by omega
  rcases hc with rfl | rfl | rfl | rfl | rfl | rfl | rfl | rfl | rfl | rfl | rfl <;> omega

open Classical in
/-- What Parse answers. -/
noncomputable def parseV (s : List Int) : AV :=
  if formT s then (if validI (dateT s) = true then .tup [(dateT s).av, .int .i64 0] else .tup [.agg [.int .i64 0, .int .i64 0, .int .i64 0], .int .i64 1]) else .tup [.agg [.int .i64 0, .int .i64 0, .int .i64 0], .int .i64 2]

theorem parse_no {s : List Int} (h : ¬ formT s) : parseV s = .tup [.agg [.int .i64 0, .int .i64 0, .int .i64 0], .int .i64 2] := if_neg h

theorem parseV_flat (s : List Int) : (parseV s).flat2 = true := by
  unfold parseV
  split
  · split <;> rfl
  · rfl

def partT (i : Nat) : Int := if i ≤ 4 then 0 else if i ≤ 7 then 1 else 2

theorem form_at {i : Nat} (hi : i < 10) : ([48, 48, 48, 48, 45, 48, 48, 45, 48, 48] : List Int).getD ((i : Int).toNat) 0 = if i = 4 ∨ i = 7 then 45 else 48 := by
  rw [Int.toNat_natCast]
  have hc : i = 0 ∨ i = 1 ∨ i = 2 ∨ i = 3 ∨ i = 4 ∨ i = 5 ∨ i = 6 ∨ i = 7 ∨ i = 8 ∨ i = 9 := by omega
  rcases hc with rfl | rfl | rfl | rfl | rfl | rfl | rfl | rfl | rfl | rfl <;> rfl

theorem c_parse (s : List Int) (hs : s.length ≤ 9223372036854775807) (hu : U8s s) (σ : Store) : ACalls Tryd.prog 27 [.str s] σ (fun r s' => r = parseV s ∧ s' = σ) := by
  refine ACalls.pure0 ?_ rfl (parseV_flat s) σ
  by_cases h10 : s.length = 10
  · have d0 : decide ((s.length : Int) = 10) = true := decide_eq_true (by omega)
    have hsl : (s.length : Int) = 10 := by omega
    have d00 : decide ((10 : Int) = 10) = true := rfl
    refine acalls_of_vc (fn := Tryd.f27) Tryd.call27 Tryd.func27 rfl (by kernel_rfl) (by simp [Tryd.ntmps27]) ?_; simp -implicitDefEqProofs only [Tryd.ntmps27,Tryd.results27,Q0,Q1,Q2,Q3,Q4,Q5,Q6,Q7,Q8,Q9,Qa,Qb,Qc,Qd,Qe,Qf,Qg,Qh,Qi,Qj,Qk,Ql,Qm,Qn,Qo,Qp,Qq,Qr,Qs,Qt,Qu,Qv,Qw,Qx,Qy,Qz,QA,QB,QC,QD,QE,QF,QG,QH,QI,QJ,QK,QL,QM,QN,QO,QP,QQ,QR,QS,QT,QU,QV,QW,QX,QY,QZ,X0,X1,X2,X3,X4,X5,X6,X7,X8,X9,Xa,Xb,Xc,Xd,Xe,Xf,Xg,Xh,Xi,Xj,Xk,Xl,Xm,Xn,Xo,Xp,Xq,Xr,Xs,Xt,Xu,Xv,Xw,Xx,Xy,Xz,XA,XB,XC,XD,XE,XF,XG,XH,XI,XJ,XK,XL,XM,XN,XO,XP,XQ,XR,XS,XT,XU,XV,XW,XX,XY,XZ,Y0,Y1,Y2,Y3,Y4,Y5,Y6,Y7,Y8,Y9,Ya,Yb,Yc,Yd,Ye,Yf,Yg,Yh,Yi,Yj,Yk,Yl,Ym,Yn,Yo,Yp,Yq,Yr,Ys,Yt,Yu,Yv,Yw,Yx,Yy,Yz,YA,YB,YC,YD,YE,YF,YG,YH,YI,YJ,YK,YL,YM,YN,YO,YP,YQ,YR,YS,YT,YU,YV,YW,YX,YY,reduceIte,reduceCtorEq,ite_true,ite_false,if_true,if_false,YZ,Z0,Z1,Z2,Z3,Z4,and_true,true_and,and_self,true_imp_iff,false_imp_iff,eq_self,not_true_eq_false,not_false_eq_true,ne_eq,decide_true,decide_false,Z5,Z6,Z7,Z8,Z9,Za,Zb,Zc,Zd,Ze,Zf,Zg,Zh,Zi,Zj,Zk,Zl,Tryd.underlying3,Tryd.cs3,Tryd.bt3,Tryd.pa3,Tryd.zr3,Tryd.underlying4,Tryd.cs4,Tryd.bt4,Tryd.pa4,Tryd.ty4,Tryd.zr4,Tryd.underlying5,Tryd.cs5,Tryd.bt5,Tryd.pa5,Tryd.zr5,Tryd.underlying9,Tryd.cs9,Tryd.bt9,Tryd.pa9,Tryd.ty9,Tryd.zr9,Tryd.underlying24,Tryd.cs24,Tryd.bt24,Tryd.pa24,Tryd.ty24,Tryd.zr24,Tryd.pl24,Tryd.eq24,Tryd.fd24_0,Tryd.fd24_1,Tryd.fd24_2,Tryd.underlying27,Tryd.cs27,Tryd.bt27,Tryd.pa27,Tryd.zr27,Tryd.underlying67,Tryd.cs67,Tryd.bt67,Tryd.pa67,Tryd.ty67,Tryd.sl67,Tryd.ar67,Tryd.zr67,Tryd.pl67]
    simp -implicitDefEqProofs only [hsl,d00,Q0,Q1,Q2,Q3,Q4,Q5,Q6,Q7,Q8,Q9,Qa,Qb,Qc,Qd,Qe,Qf,Qg,Qh,Qi,Qj,Qk,Ql,Qm,Qn,Qo,Qp,Qq,Qr,Qs,Qt,Qu,Qv,Qw,Qx,Qy,Qz,QA,QB,QC,QD,QE,QF,QG,QH,QI,QJ,QK,QL,QM,QN,QO,QP,QQ,QR,QS,QT,QU,QV,QW,QX,QY,QZ,X0,X1,X2,X3,X4,X5,X6,X7,X8,X9,Xa,Xb,Xc,Xd,Xe,Xf,Xg,Xh,Xi,Xj,Xk,Xl,Xm,Xn,Xo,Xp,Xq,Xr,Xs,Xt,Xu,Xv,Xw,Xx,Xy,Xz,XA,XB,XC,XD,XE,XF,XG,XH,XI,XJ,XK,XL,XM,XN,XO,XP,XQ,XR,XS,XT,XU,XV,XW,XX,XY,XZ,Y0,Y1,Y2,Y3,Y4,Y5,Y6,Y7,Y8,Y9,Ya,Yb,Yc,Yd,Ye,Yf,Yg,Yh,Yi,Yj,Yk,Yl,Ym,Yn,Yo,Yp,Yq,Yr,Ys,Yt,Yu,Yv,Yw,Yx,Yy,Yz,YA,YB,YC,YD,YE,YF,YG,YH,YI,YJ,YK,YL,YM,YN,YO,YP,YQ,YR,YS,YT,YU,YV,YW,YX,YY,reduceIte,reduceCtorEq,ite_true,ite_false,if_true,if_false,YZ,Z0,Z1,Z2,Z3,Z4,and_true,true_and,and_self,true_imp_iff,false_imp_iff,eq_self,not_true_eq_false,not_false_eq_true,ne_eq,decide_true,decide_false,Z5,Z6,Z7,Z8,Z9,Za,Zb,Zc,Zd,Ze,Zf,Zg,Zh,Zi,Zj,Zk,Zl,Tryd.underlying3,Tryd.cs3,Tryd.bt3,Tryd.pa3,Tryd.zr3,Tryd.underlying4,Tryd.cs4,Tryd.bt4,Tryd.pa4,Tryd.ty4,Tryd.zr4,Tryd.underlying5,Tryd.cs5,Tryd.bt5,Tryd.pa5,Tryd.zr5,Tryd.underlying9,Tryd.cs9,Tryd.bt9,Tryd.pa9,Tryd.ty9,Tryd.zr9,Tryd.underlying24,Tryd.cs24,Tryd.bt24,Tryd.pa24,Tryd.ty24,Tryd.zr24,Tryd.pl24,Tryd.eq24,Tryd.fd24_0,Tryd.fd24_1,Tryd.fd24_2,Tryd.underlying27,Tryd.cs27,Tryd.bt27,Tryd.pa27,Tryd.zr27,Tryd.underlying67,Tryd.cs67,Tryd.bt67,Tryd.pa67,Tryd.ty67,Tryd.sl67,Tryd.ar67,Tryd.zr67,Tryd.pl67]
    refine awp_loop (fun i : Nat => [(15, .int .i64 i), (14, .int .i64 10), (5, .int .i64 (partT i)), (0, .str s), (4, .ptr 1 0), (2, .ptr 0 0)]) (fun i st => i ≤ 10 ∧ (∀ j, j < i → okT s j) ∧ st = [.box [.int .i64 0, .int .i64 0, .int .i64 0], .box [.int .i64 (accY s i), .int .i64 (accM s i), .int .i64 (accE s i)]]) (fun i => 10 - i) 0 (by kernel_rfl) (by simp [sub_cons, sub_nil, get_cons, partT]) ⟨by omega, fun j h => by omega, rfl⟩ ?_
    rintro i st ⟨hi, hok, rfl⟩
    by_cases hlt : i < 10
    · have d1 : decide ((i : Int) < 10) = true := decide_eq_true (by omega)
      have wi : IntKind.i64.wrap ((i : Int) + 1) = ((i + 1 : Nat) : Int) := by rw [wrap_i64 (by omega) (by omega)]; rfl
      have hil : i < s.length := by omega
      have hget : s.getD ((i : Int).toNat) 0 = s.getD i 0 := by rw [Int.toNat_natCast]
      have hcu : 0 ≤ s.getD i 0 ∧ s.getD i 0 < 256 := by rw [getD_get hil]; exact hu _ (List.getElem_mem hil)
      have hf := form_at hlt
      have hY := accY_b (by omega) hok
      have hM := accM_b (by omega) hok
      have hE := accE_b (by omega) hok
      have hfail : ¬ okT s i → parseV s = .tup [.agg [.int .i64 0, .int .i64 0, .int .i64 0], .int .i64 2] := fun h => parse_no fun hf => h (hf.2 i hlt)
      have hstep : okT s i → ∀ j, j < i + 1 → okT s j := fun h j hj => by
        rcases Nat.lt_or_ge j i with h1 | h1
        · exact hok j h1
        · rw [show j = i by omega]; exact h
      have aY : accY s (i + 1) = if i < 4 then 10 * accY s i + (s.getD i 0 - 48) else accY s i := rfl
      have aM : accM s (i + 1) = if i = 5 ∨ i = 6 then 10 * accM s i + (s.getD i 0 - 48) else accM s i := rfl
      have aE : accE s (i + 1) = if i = 8 ∨ i = 9 then 10 * accE s i + (s.getD i 0 - 48) else accE s i := rfl
      have hokd : okT s i = if i = 4 ∨ i = 7 then s.getD i 0 = 45 else 48 ≤ s.getD i 0 ∧ s.getD i 0 ≤ 57 := rfl
      generalize s.getD i 0 = c at hget hcu aY aM aE hokd
      generalize accY s i = Y at *
      generalize accM s i = M at *
      generalize accE s i = E at *
      by_cases hdash : i = 4 ∨ i = 7
      · rw [if_pos hdash] at hf hokd
        have c0 : decide ((45 : Int) = 45) = true := rfl
        have c1 : decide ((45 : Int) = 48) = false := rfl
        by_cases h45 : c = 45
        · have d2 : decide (c = 45) = true := decide_eq_true h45
          have hp : partT (i + 1) = partT i + 1 := by unfold partT; rcases hdash with rfl | rfl <;> rfl
          have hpb : 0 ≤ partT i ∧ partT i ≤ 2 := by unfold partT; rcases hdash with rfl | rfl <;> decide
          have wp : IntKind.i64.wrap (partT i + 1) = partT (i + 1) := by rw [wrap_i64 (by omega) (by omega), hp]
          rw [if_neg (by omega)] at aY aM aE
          have hs' := hstep (by rw [hokd]; exact h45)
          simp -implicitDefEqProofs only [d1,hf,c0,hget,d2,wp,wi,h10,Q0,Q1,Q2,Q3,Q4,Q5,Q6,Q7,Q8,Q9,Qa,Qb,Qc,Qd,Qe,Qf,Qg,Qh,Qi,Qj,Qk,Ql,Qm,Qn,Qo,Qp,Qq,Qr,Qs,Qt,Qu,Qv,Qw,Qx,Qy,Qz,QA,QB,QC,QD,QE,QF,QG,QH,QI,QJ,QK,QL,QM,QN,QO,QP,QQ,QR,QS,QT,QU,QV,QW,QX,QY,QZ,X0,X1,X2,X3,X4,X5,X6,X7,X8,X9,Xa,Xb,Xc,Xd,Xe,Xf,Xg,Xh,Xi,Xj,Xk,Xl,Xm,Xn,Xo,Xp,Xq,Xr,Xs,Xt,Xu,Xv,Xw,Xx,Xy,Xz,XA,XB,XC,XD,XE,XF,XG,XH,XI,XJ,XK,XL,XM,XN,XO,XP,XQ,XR,XS,XT,XU,XV,XW,XX,XY,XZ,Y0,Y1,Y2,Y3,Y4,Y5,Y6,Y7,Y8,Y9,Ya,Yb,Yc,Yd,Ye,Yf,Yg,Yh,Yi,Yj,Yk,Yl,Ym,Yn,Yo,Yp,Yq,Yr,Ys,Yt,Yu,Yv,Yw,Yx,Yy,Yz,YA,YB,YC,YD,YE,YF,YG,YH,YI,YJ,YK,YL,YM,YN,YO,YP,YQ,YR,YS,YT,YU,YV,YW,YX,YY,reduceIte,reduceCtorEq,ite_true,ite_false,if_true,if_false,YZ,Z0,Z1,Z2,Z3,Z4,and_true,true_and,and_self,true_imp_iff,false_imp_iff,eq_self,not_true_eq_false,not_false_eq_true,ne_eq,decide_true,decide_false,Z5,Z6,Z7,Z8,Z9,Za,Zb,Zc,Zd,Ze,Zf,Zg,Zh,Zi,Zj,Zk,Zl,Tryd.underlying3,Tryd.cs3,Tryd.bt3,Tryd.pa3,Tryd.zr3,Tryd.underlying4,Tryd.cs4,Tryd.bt4,Tryd.pa4,Tryd.ty4,Tryd.zr4,Tryd.underlying5,Tryd.cs5,Tryd.bt5,Tryd.pa5,Tryd.zr5,Tryd.underlying9,Tryd.cs9,Tryd.bt9,Tryd.pa9,Tryd.ty9,Tryd.zr9,Tryd.underlying24,Tryd.cs24,Tryd.bt24,Tryd.pa24,Tryd.ty24,Tryd.zr24,Tryd.pl24,Tryd.eq24,Tryd.fd24_0,Tryd.fd24_1,Tryd.fd24_2,Tryd.underlying27,Tryd.cs27,Tryd.bt27,Tryd.pa27,Tryd.zr27,Tryd.underlying67,Tryd.cs67,Tryd.bt67,Tryd.pa67,Tryd.ty67,Tryd.sl67,Tryd.ar67,Tryd.zr67,Tryd.pl67]
          refine ⟨by omega, by omega, ?_⟩
          exact ⟨i + 1, ⟨rfl, rfl⟩, ⟨by omega, hs', by rw [aY, aM, aE]⟩, by omega⟩
        · have d2 : decide (c = 45) = false := decide_eq_false h45
          rw [hfail (by rw [hokd]; exact h45)]
          simp -implicitDefEqProofs only [d1,hf,c0,c1,hget,d2,h10,Q0,Q1,Q2,Q3,Q4,Q5,Q6,Q7,Q8,Q9,Qa,Qb,Qc,Qd,Qe,Qf,Qg,Qh,Qi,Qj,Qk,Ql,Qm,Qn,Qo,Qp,Qq,Qr,Qs,Qt,Qu,Qv,Qw,Qx,Qy,Qz,QA,QB,QC,QD,QE,QF,QG,QH,QI,QJ,QK,QL,QM,QN,QO,QP,QQ,QR,QS,QT,QU,QV,QW,QX,QY,QZ,X0,X1,X2,X3,X4,X5,X6,X7,X8,X9,Xa,Xb,Xc,Xd,Xe,Xf,Xg,Xh,Xi,Xj,Xk,Xl,Xm,Xn,Xo,Xp,Xq,Xr,Xs,Xt,Xu,Xv,Xw,Xx,Xy,Xz,XA,XB,XC,XD,XE,XF,XG,XH,XI,XJ,XK,XL,XM,XN,XO,XP,XQ,XR,XS,XT,XU,XV,XW,XX,XY,XZ,Y0,Y1,Y2,Y3,Y4,Y5,Y6,Y7,Y8,Y9,Ya,Yb,Yc,Yd,Ye,Yf,Yg,Yh,Yi,Yj,Yk,Yl,Ym,Yn,Yo,Yp,Yq,Yr,Ys,Yt,Yu,Yv,Yw,Yx,Yy,Yz,YA,YB,YC,YD,YE,YF,YG,YH,YI,YJ,YK,YL,YM,YN,YO,YP,YQ,YR,YS,YT,YU,YV,YW,YX,YY,reduceIte,reduceCtorEq,ite_true,ite_false,if_true,if_false,YZ,Z0,Z1,Z2,Z3,Z4,and_true,true_and,and_self,true_imp_iff,false_imp_iff,eq_self,not_true_eq_false,not_false_eq_true,ne_eq,decide_true,decide_false,Z5,Z6,Z7,Z8,Z9,Za,Zb,Zc,Zd,Ze,Zf,Zg,Zh,Zi,Zj,Zk,Zl,Tryd.underlying3,Tryd.cs3,Tryd.bt3,Tryd.pa3,Tryd.zr3,Tryd.underlying4,Tryd.cs4,Tryd.bt4,Tryd.pa4,Tryd.ty4,Tryd.zr4,Tryd.underlying5,Tryd.cs5,Tryd.bt5,Tryd.pa5,Tryd.zr5,Tryd.underlying9,Tryd.cs9,Tryd.bt9,Tryd.pa9,Tryd.ty9,Tryd.zr9,Tryd.underlying24,Tryd.cs24,Tryd.bt24,Tryd.pa24,Tryd.ty24,Tryd.zr24,Tryd.pl24,Tryd.eq24,Tryd.fd24_0,Tryd.fd24_1,Tryd.fd24_2,Tryd.underlying27,Tryd.cs27,Tryd.bt27,Tryd.pa27,Tryd.zr27,Tryd.underlying67,Tryd.cs67,Tryd.bt67,Tryd.pa67,Tryd.ty67,Tryd.sl67,Tryd.ar67,Tryd.zr67,Tryd.pl67]
          omega
      · rw [if_neg hdash] at hf hokd
        have c0 : decide ((48 : Int) = 45) = false := rfl
        have c1 : decide ((48 : Int) = 48) = true := rfl
        by_cases h48 : 48 ≤ c
        · have d2 : decide (48 ≤ c) = true := decide_eq_true h48
          by_cases h57 : c ≤ 57
          · have d3 : decide (c ≤ 57) = true := decide_eq_true h57
            have hs' := hstep (by rw [hokd]; exact ⟨h48, h57⟩)
            have w1 : IntKind.u8.wrap (c - 48) = c - 48 := wrap_u8 (by omega) (by omega)
            have w2 : IntKind.i64.wrap (c - 48) = c - 48 := wrap_i64 (by omega) (by omega)
            have hcase : i < 4 ∨ (i = 5 ∨ i = 6) ∨ (i = 8 ∨ i = 9) := by omega
            rcases hcase with h | h | h
            · have p0 : partT i = 0 := if_pos (by omega)
              have p1 : partT (i + 1) = 0 := if_pos (by omega)
              rw [if_pos h] at aY
              rw [if_neg (by omega)] at aM aE
              have w3 : IntKind.i64.wrap (10 * Y) = 10 * Y := wrap_i64 (by omega) (by omega)
              have w4 : IntKind.i64.wrap (10 * Y + (c - 48)) = 10 * Y + (c - 48) := wrap_i64 (by omega) (by omega)
              simp -implicitDefEqProofs only [d1,hf,c0,c1,hget,d2,d3,h10,p0,Q0,Q1,Q2,Q3,Q4,Q5,Q6,Q7,Q8,Q9,Qa,Qb,Qc,Qd,Qe,Qf,Qg,Qh,Qi,Qj,Qk,Ql,Qm,Qn,Qo,Qp,Qq,Qr,Qs,Qt,Qu,Qv,Qw,Qx,Qy,Qz,QA,QB,QC,QD,QE,QF,QG,QH,QI,QJ,QK,QL,QM,QN,QO,QP,QQ,QR,QS,QT,QU,QV,QW,QX,QY,QZ,X0,X1,X2,X3,X4,X5,X6,X7,X8,X9,Xa,Xb,Xc,Xd,Xe,Xf,Xg,Xh,Xi,Xj,Xk,Xl,Xm,Xn,Xo,Xp,Xq,Xr,Xs,Xt,Xu,Xv,Xw,Xx,Xy,Xz,XA,XB,XC,XD,XE,XF,XG,XH,XI,XJ,XK,XL,XM,XN,XO,XP,XQ,XR,XS,XT,XU,XV,XW,XX,XY,XZ,Y0,Y1,Y2,Y3,Y4,Y5,Y6,Y7,Y8,Y9,Ya,Yb,Yc,Yd,Ye,Yf,Yg,Yh,Yi,Yj,Yk,Yl,Ym,Yn,Yo,Yp,Yq,Yr,Ys,Yt,Yu,Yv,Yw,Yx,Yy,Yz,YA,YB,YC,YD,YE,YF,YG,YH,YI,YJ,YK,YL,YM,YN,YO,YP,YQ,YR,YS,YT,YU,YV,YW,YX,YY,reduceIte,reduceCtorEq,ite_true,ite_false,if_true,if_false,YZ,Z0,Z1,Z2,Z3,Z4,and_true,true_and,and_self,true_imp_iff,false_imp_iff,eq_self,not_true_eq_false,not_false_eq_true,ne_eq,decide_true,decide_false,Z5,Z6,Z7,Z8,Z9,Za,Zb,Zc,Zd,Ze,Zf,Zg,Zh,Zi,Zj,Zk,Zl,Tryd.underlying3,Tryd.cs3,Tryd.bt3,Tryd.pa3,Tryd.zr3,Tryd.underlying4,Tryd.cs4,Tryd.bt4,Tryd.pa4,Tryd.ty4,Tryd.zr4,Tryd.underlying5,Tryd.cs5,Tryd.bt5,Tryd.pa5,Tryd.zr5,Tryd.underlying9,Tryd.cs9,Tryd.bt9,Tryd.pa9,Tryd.ty9,Tryd.zr9,Tryd.underlying24,Tryd.cs24,Tryd.bt24,Tryd.pa24,Tryd.ty24,Tryd.zr24,Tryd.pl24,Tryd.eq24,Tryd.fd24_0,Tryd.fd24_1,Tryd.fd24_2,Tryd.underlying27,Tryd.cs27,Tryd.bt27,Tryd.pa27,Tryd.zr27,Tryd.underlying67,Tryd.cs67,Tryd.bt67,Tryd.pa67,Tryd.ty67,Tryd.sl67,Tryd.ar67,Tryd.zr67,Tryd.pl67]
              refine ⟨by omega, by omega, by omega, by omega, ?_⟩
              refine awp_draws [12] Tryd.mixed (by kernel_rfl) ?_
              simp -implicitDefEqProofs only [hget,h10,w1,w2,w3,w4,wi,Q0,Q1,Q2,Q3,Q4,Q5,Q6,Q7,Q8,Q9,Qa,Qb,Qc,Qd,Qe,Qf,Qg,Qh,Qi,Qj,Qk,Ql,Qm,Qn,Qo,Qp,Qq,Qr,Qs,Qt,Qu,Qv,Qw,Qx,Qy,Qz,QA,QB,QC,QD,QE,QF,QG,QH,QI,QJ,QK,QL,QM,QN,QO,QP,QQ,QR,QS,QT,QU,QV,QW,QX,QY,QZ,X0,X1,X2,X3,X4,X5,X6,X7,X8,X9,Xa,Xb,Xc,Xd,Xe,Xf,Xg,Xh,Xi,Xj,Xk,Xl,Xm,Xn,Xo,Xp,Xq,Xr,Xs,Xt,Xu,Xv,Xw,Xx,Xy,Xz,XA,XB,XC,XD,XE,XF,XG,XH,XI,XJ,XK,XL,XM,XN,XO,XP,XQ,XR,XS,XT,XU,XV,XW,XX,XY,XZ,Y0,Y1,Y2,Y3,Y4,Y5,Y6,Y7,Y8,Y9,Ya,Yb,Yc,Yd,Ye,Yf,Yg,Yh,Yi,Yj,Yk,Yl,Ym,Yn,Yo,Yp,Yq,Yr,Ys,Yt,Yu,Yv,Yw,Yx,Yy,Yz,YA,YB,YC,YD,YE,YF,YG,YH,YI,YJ,YK,YL,YM,YN,YO,YP,YQ,YR,YS,YT,YU,YV,YW,YX,YY,reduceIte,reduceCtorEq,ite_true,ite_false,if_true,if_false,YZ,Z0,Z1,Z2,Z3,Z4,and_true,true_and,and_self,true_imp_iff,false_imp_iff,eq_self,not_true_eq_false,not_false_eq_true,ne_eq,decide_true,decide_false,Z5,Z6,Z7,Z8,Z9,Za,Zb,Zc,Zd,Ze,Zf,Zg,Zh,Zi,Zj,Zk,Zl,Tryd.underlying3,Tryd.cs3,Tryd.bt3,Tryd.pa3,Tryd.zr3,Tryd.underlying4,Tryd.cs4,Tryd.bt4,Tryd.pa4,Tryd.ty4,Tryd.zr4,Tryd.underlying5,Tryd.cs5,Tryd.bt5,Tryd.pa5,Tryd.zr5,Tryd.underlying9,Tryd.cs9,Tryd.bt9,Tryd.pa9,Tryd.ty9,Tryd.zr9,Tryd.underlying24,Tryd.cs24,Tryd.bt24,Tryd.pa24,Tryd.ty24,Tryd.zr24,Tryd.pl24,Tryd.eq24,Tryd.fd24_0,Tryd.fd24_1,Tryd.fd24_2,Tryd.underlying27,Tryd.cs27,Tryd.bt27,Tryd.pa27,Tryd.zr27,Tryd.underlying67,Tryd.cs67,Tryd.bt67,Tryd.pa67,Tryd.ty67,Tryd.sl67,Tryd.ar67,Tryd.zr67,Tryd.pl67]
              refine ⟨by omega, ?_⟩
              exact ⟨i + 1, ⟨rfl, by rw [p1]⟩, ⟨by omega, hs', by rw [aY, aM, aE]⟩, by omega⟩
            · have p0 : partT i = 1 := by unfold partT; rw [if_neg (by omega), if_pos (by omega)]
              have p1 : partT (i + 1) = 1 := by unfold partT; rw [if_neg (by omega), if_pos (by omega)]
              rw [if_pos h] at aM
              rw [if_neg (by omega)] at aY aE
              have w3 : IntKind.i64.wrap (10 * M) = 10 * M := wrap_i64 (by omega) (by omega)
              have w4 : IntKind.i64.wrap (10 * M + (c - 48)) = 10 * M + (c - 48) := wrap_i64 (by omega) (by omega)
              simp -implicitDefEqProofs only [d1,hf,c0,c1,hget,d2,d3,h10,p0,Q0,Q1,Q2,Q3,Q4,Q5,Q6,Q7,Q8,Q9,Qa,Qb,Qc,Qd,Qe,Qf,Qg,Qh,Qi,Qj,Qk,Ql,Qm,Qn,Qo,Qp,Qq,Qr,Qs,Qt,Qu,Qv,Qw,Qx,Qy,Qz,QA,QB,QC,QD,QE,QF,QG,QH,QI,QJ,QK,QL,QM,QN,QO,QP,QQ,QR,QS,QT,QU,QV,QW,QX,QY,QZ,X0,X1,X2,X3,X4,X5,X6,X7,X8,X9,Xa,Xb,Xc,Xd,Xe,Xf,Xg,Xh,Xi,Xj,Xk,Xl,Xm,Xn,Xo,Xp,Xq,Xr,Xs,Xt,Xu,Xv,Xw,Xx,Xy,Xz,XA,XB,XC,XD,XE,XF,XG,XH,XI,XJ,XK,XL,XM,XN,XO,XP,XQ,XR,XS,XT,XU,XV,XW,XX,XY,XZ,Y0,Y1,Y2,Y3,Y4,Y5,Y6,Y7,Y8,Y9,Ya,Yb,Yc,Yd,Ye,Yf,Yg,Yh,Yi,Yj,Yk,Yl,Ym,Yn,Yo,Yp,Yq,Yr,Ys,Yt,Yu,Yv,Yw,Yx,Yy,Yz,YA,YB,YC,YD,YE,YF,YG,YH,YI,YJ,YK,YL,YM,YN,YO,YP,YQ,YR,YS,YT,YU,YV,YW,YX,YY,reduceIte,reduceCtorEq,ite_true,ite_false,if_true,if_false,YZ,Z0,Z1,Z2,Z3,Z4,and_true,true_and,and_self,true_imp_iff,false_imp_iff,eq_self,not_true_eq_false,not_false_eq_true,ne_eq,decide_true,decide_false,Z5,Z6,Z7,Z8,Z9,Za,Zb,Zc,Zd,Ze,Zf,Zg,Zh,Zi,Zj,Zk,Zl,Tryd.underlying3,Tryd.cs3,Tryd.bt3,Tryd.pa3,Tryd.zr3,Tryd.underlying4,Tryd.cs4,Tryd.bt4,Tryd.pa4,Tryd.ty4,Tryd.zr4,Tryd.underlying5,Tryd.cs5,Tryd.bt5,Tryd.pa5,Tryd.zr5,Tryd.underlying9,Tryd.cs9,Tryd.bt9,Tryd.pa9,Tryd.ty9,Tryd.zr9,Tryd.underlying24,Tryd.cs24,Tryd.bt24,Tryd.pa24,Tryd.ty24,Tryd.zr24,Tryd.pl24,Tryd.eq24,Tryd.fd24_0,Tryd.fd24_1,Tryd.fd24_2,Tryd.underlying27,Tryd.cs27,Tryd.bt27,Tryd.pa27,Tryd.zr27,Tryd.underlying67,Tryd.cs67,Tryd.bt67,Tryd.pa67,Tryd.ty67,Tryd.sl67,Tryd.ar67,Tryd.zr67,Tryd.pl67]
              refine ⟨by omega, by omega, by omega, by omega, ?_⟩
              refine awp_draws [12] Tryd.mixed (by kernel_rfl) ?_
              simp -implicitDefEqProofs only [hget,h10,w1,w2,w3,w4,wi,Q0,Q1,Q2,Q3,Q4,Q5,Q6,Q7,Q8,Q9,Qa,Qb,Qc,Qd,Qe,Qf,Qg,Qh,Qi,Qj,Qk,Ql,Qm,Qn,Qo,Qp,Qq,Qr,Qs,Qt,Qu,Qv,Qw,Qx,Qy,Qz,QA,QB,QC,QD,QE,QF,QG,QH,QI,QJ,QK,QL,QM,QN,QO,QP,QQ,QR,QS,QT,QU,QV,QW,QX,QY,QZ,X0,X1,X2,X3,X4,X5,X6,X7,X8,X9,Xa,Xb,Xc,Xd,Xe,Xf,Xg,Xh,Xi,Xj,Xk,Xl,Xm,Xn,Xo,Xp,Xq,Xr,Xs,Xt,Xu,Xv,Xw,Xx,Xy,Xz,XA,XB,XC,XD,XE,XF,XG,XH,XI,XJ,XK,XL,XM,XN,XO,XP,XQ,XR,XS,XT,XU,XV,XW,XX,XY,XZ,Y0,Y1,Y2,Y3,Y4,Y5,Y6,Y7,Y8,Y9,Ya,Yb,Yc,Yd,Ye,Yf,Yg,Yh,Yi,Yj,Yk,Yl,Ym,Yn,Yo,Yp,Yq,Yr,Ys,Yt,Yu,Yv,Yw,Yx,Yy,Yz,YA,YB,YC,YD,YE,YF,YG,YH,YI,YJ,YK,YL,YM,YN,YO,YP,YQ,YR,YS,YT,YU,YV,YW,YX,YY,reduceIte,reduceCtorEq,ite_true,ite_false,if_true,if_false,YZ,Z0,Z1,Z2,Z3,Z4,and_true,true_and,and_self,true_imp_iff,false_imp_iff,eq_self,not_true_eq_false,not_false_eq_true,ne_eq,decide_true,decide_false,Z5,Z6,Z7,Z8,Z9,Za,Zb,Zc,Zd,Ze,Zf,Zg,Zh,Zi,Zj,Zk,Zl,Tryd.underlying3,Tryd.cs3,Tryd.bt3,Tryd.pa3,Tryd.zr3,Tryd.underlying4,Tryd.cs4,Tryd.bt4,Tryd.pa4,Tryd.ty4,Tryd.zr4,Tryd.underlying5,Tryd.cs5,Tryd.bt5,Tryd.pa5,Tryd.zr5,Tryd.underlying9,Tryd.cs9,Tryd.bt9,Tryd.pa9,Tryd.ty9,Tryd.zr9,Tryd.underlying24,Tryd.cs24,Tryd.bt24,Tryd.pa24,Tryd.ty24,Tryd.zr24,Tryd.pl24,Tryd.eq24,Tryd.fd24_0,Tryd.fd24_1,Tryd.fd24_2,Tryd.underlying27,Tryd.cs27,Tryd.bt27,Tryd.pa27,Tryd.zr27,Tryd.underlying67,Tryd.cs67,Tryd.bt67,Tryd.pa67,Tryd.ty67,Tryd.sl67,Tryd.ar67,Tryd.zr67,Tryd.pl67]
              refine ⟨by omega, ?_⟩
              exact ⟨i + 1, ⟨rfl, by rw [p1]⟩, ⟨by omega, hs', by rw [aY, aM, aE]⟩, by omega⟩
            · have p0 : partT i = 2 := by unfold partT; rw [if_neg (by omega), if_neg (by omega)]
              have p1 : partT (i + 1) = 2 := by unfold partT; rw [if_neg (by omega), if_neg (by omega)]
              rw [if_pos h] at aE
              rw [if_neg (by omega)] at aY aM
              have w3 : IntKind.i64.wrap (10 * E) = 10 * E := wrap_i64 (by omega) (by omega)
              have w4 : IntKind.i64.wrap (10 * E + (c - 48)) = 10 * E + (c - 48) := wrap_i64 (by omega) (by omega)
              simp -implicitDefEqProofs only [d1,hf,c0,c1,hget,d2,d3,h10,p0,Q0,Q1,Q2,Q3,Q4,Q5,Q6,Q7,Q8,Q9,Qa,Qb,Qc,Qd,Qe,Qf,Qg,Qh,Qi,Qj,Qk,Ql,Qm,Qn,Qo,Qp,Qq,Qr,Qs,Qt,Qu,Qv,Qw,Qx,Qy,Qz,QA,QB,QC,QD,QE,QF,QG,QH,QI,QJ,QK,QL,QM,QN,QO,QP,QQ,QR,QS,QT,QU,QV,QW,QX,QY,QZ,X0,X1,X2,X3,X4,X5,X6,X7,X8,X9,Xa,Xb,Xc,Xd,Xe,Xf,Xg,Xh,Xi,Xj,Xk,Xl,Xm,Xn,Xo,Xp,Xq,Xr,Xs,Xt,Xu,Xv,Xw,Xx,Xy,Xz,XA,XB,XC,XD,XE,XF,XG,XH,XI,XJ,XK,XL,XM,XN,XO,XP,XQ,XR,XS,XT,XU,XV,XW,XX,XY,XZ,Y0,Y1,Y2,Y3,Y4,Y5,Y6,Y7,Y8,Y9,Ya,Yb,Yc,Yd,Ye,Yf,Yg,Yh,Yi,Yj,Yk,Yl,Ym,Yn,Yo,Yp,Yq,Yr,Ys,Yt,Yu,Yv,Yw,Yx,Yy,Yz,YA,YB,YC,YD,YE,YF,YG,YH,YI,YJ,YK,YL,YM,YN,YO,YP,YQ,YR,YS,YT,YU,YV,YW,YX,YY,reduceIte,reduceCtorEq,ite_true,ite_false,if_true,if_false,YZ,Z0,Z1,Z2,Z3,Z4,and_true,true_and,and_self,true_imp_iff,false_imp_iff,eq_self,not_true_eq_false,not_false_eq_true,ne_eq,decide_true,decide_false,Z5,Z6,Z7,Z8,Z9,Za,Zb,Zc,Zd,Ze,Zf,Zg,Zh,Zi,Zj,Zk,Zl,Tryd.underlying3,Tryd.cs3,Tryd.bt3,Tryd.pa3,Tryd.zr3,Tryd.underlying4,Tryd.cs4,Tryd.bt4,Tryd.pa4,Tryd.ty4,Tryd.zr4,Tryd.underlying5,Tryd.cs5,Tryd.bt5,Tryd.pa5,Tryd.zr5,Tryd.underlying9,Tryd.cs9,Tryd.bt9,Tryd.pa9,Tryd.ty9,Tryd.zr9,Tryd.underlying24,Tryd.cs24,Tryd.bt24,Tryd.pa24,Tryd.ty24,Tryd.zr24,Tryd.pl24,Tryd.eq24,Tryd.fd24_0,Tryd.fd24_1,Tryd.fd24_2,Tryd.underlying27,Tryd.cs27,Tryd.bt27,Tryd.pa27,Tryd.zr27,Tryd.underlying67,Tryd.cs67,Tryd.bt67,Tryd.pa67,Tryd.ty67,Tryd.sl67,Tryd.ar67,Tryd.zr67,Tryd.pl67]
              refine ⟨by omega, by omega, by omega, by omega, ?_⟩
              refine awp_draws [12] Tryd.mixed (by kernel_rfl) ?_
              simp -implicitDefEqProofs only [hget,h10,w1,w2,w3,w4,wi,Q0,Q1,Q2,Q3,Q4,Q5,Q6,Q7,Q8,Q9,Qa,Qb,Qc,Qd,Qe,Qf,Qg,Qh,Qi,Qj,Qk,Ql,Qm,Qn,Qo,Qp,Qq,Qr,Qs,Qt,Qu,Qv,Qw,Qx,Qy,Qz,QA,QB,QC,QD,QE,QF,QG,QH,QI,QJ,QK,QL,QM,QN,QO,QP,QQ,QR,QS,QT,QU,QV,QW,QX,QY,QZ,X0,X1,X2,X3,X4,X5,X6,X7,X8,X9,Xa,Xb,Xc,Xd,Xe,Xf,Xg,Xh,Xi,Xj,Xk,Xl,Xm,Xn,Xo,Xp,Xq,Xr,Xs,Xt,Xu,Xv,Xw,Xx,Xy,Xz,XA,XB,XC,XD,XE,XF,XG,XH,XI,XJ,XK,XL,XM,XN,XO,XP,XQ,XR,XS,XT,XU,XV,XW,XX,XY,XZ,Y0,Y1,Y2,Y3,Y4,Y5,Y6,Y7,Y8,Y9,Ya,Yb,Yc,Yd,Ye,Yf,Yg,Yh,Yi,Yj,Yk,Yl,Ym,Yn,Yo,Yp,Yq,Yr,Ys,Yt,Yu,Yv,Yw,Yx,Yy,Yz,YA,YB,YC,YD,YE,YF,YG,YH,YI,YJ,YK,YL,YM,YN,YO,YP,YQ,YR,YS,YT,YU,YV,YW,YX,YY,reduceIte,reduceCtorEq,ite_true,ite_false,if_true,if_false,YZ,Z0,Z1,Z2,Z3,Z4,and_true,true_and,and_self,true_imp_iff,false_imp_iff,eq_self,not_true_eq_false,not_false_eq_true,ne_eq,decide_true,decide_false,Z5,Z6,Z7,Z8,Z9,Za,Zb,Zc,Zd,Ze,Zf,Zg,Zh,Zi,Zj,Zk,Zl,Tryd.underlying3,Tryd.cs3,Tryd.bt3,Tryd.pa3,Tryd.zr3,Tryd.underlying4,Tryd.cs4,Tryd.bt4,Tryd.pa4,Tryd.ty4,Tryd.zr4,Tryd.underlying5,Tryd.cs5,Tryd.bt5,Tryd.pa5,Tryd.zr5,Tryd.underlying9,Tryd.cs9,Tryd.bt9,Tryd.pa9,Tryd.ty9,Tryd.zr9,Tryd.underlying24,Tryd.cs24,Tryd.bt24,Tryd.pa24,Tryd.ty24,Tryd.zr24,Tryd.pl24,Tryd.eq24,Tryd.fd24_0,Tryd.fd24_1,Tryd.fd24_2,Tryd.underlying27,Tryd.cs27,Tryd.bt27,Tryd.pa27,Tryd.zr27,Tryd.underlying67,Tryd.cs67,Tryd.bt67,Tryd.pa67,Tryd.ty67,Tryd.sl67,Tryd.ar67,Tryd.zr67,Tryd.pl67]
              refine ⟨by omega, ?_⟩
              exact ⟨i + 1, ⟨rfl, by rw [p1]⟩, ⟨by omega, hs', by rw [aY, aM, aE]⟩, by omega⟩
          · have d3 : decide (c ≤ 57) = false := decide_eq_false h57
            rw [hfail (by rw [hokd]; exact fun h => h57 h.2)]
            simp -implicitDefEqProofs only [d1,hf,c0,c1,hget,d2,d3,h10,Q0,Q1,Q2,Q3,Q4,Q5,Q6,Q7,Q8,Q9,Qa,Qb,Qc,Qd,Qe,Qf,Qg,Qh,Qi,Qj,Qk,Ql,Qm,Qn,Qo,Qp,Qq,Qr,Qs,Qt,Qu,Qv,Qw,Qx,Qy,Qz,QA,QB,QC,QD,QE,QF,QG,QH,QI,QJ,QK,QL,QM,QN,QO,QP,QQ,QR,QS,QT,QU,QV,QW,QX,QY,QZ,X0,X1,X2,X3,X4,X5,X6,X7,X8,X9,Xa,Xb,Xc,Xd,Xe,Xf,Xg,Xh,Xi,Xj,Xk,Xl,Xm,Xn,Xo,Xp,Xq,Xr,Xs,Xt,Xu,Xv,Xw,Xx,Xy,Xz,XA,XB,XC,XD,XE,XF,XG,XH,XI,XJ,XK,XL,XM,XN,XO,XP,XQ,XR,XS,XT,XU,XV,XW,XX,XY,XZ,Y0,Y1,Y2,Y3,Y4,Y5,Y6,Y7,Y8,Y9,Ya,Yb,Yc,Yd,Ye,Yf,Yg,Yh,Yi,Yj,Yk,Yl,Ym,Yn,Yo,Yp,Yq,Yr,Ys,Yt,Yu,Yv,Yw,Yx,Yy,Yz,YA,YB,YC,YD,YE,YF,YG,YH,YI,YJ,YK,YL,YM,YN,YO,YP,YQ,YR,YS,YT,YU,YV,YW,YX,YY,reduceIte,reduceCtorEq,ite_true,ite_false,if_true,if_false,YZ,Z0,Z1,Z2,Z3,Z4,and_true,true_and,and_self,true_imp_iff,false_imp_iff,eq_self,not_true_eq_false,not_false_eq_true,ne_eq,decide_true,decide_false,Z5,Z6,Z7,Z8,Z9,Za,Zb,Zc,Zd,Ze,Zf,Zg,Zh,Zi,Zj,Zk,Zl,Tryd.underlying3,Tryd.cs3,Tryd.bt3,Tryd.pa3,Tryd.zr3,Tryd.underlying4,Tryd.cs4,Tryd.bt4,Tryd.pa4,Tryd.ty4,Tryd.zr4,Tryd.underlying5,Tryd.cs5,Tryd.bt5,Tryd.pa5,Tryd.zr5,Tryd.underlying9,Tryd.cs9,Tryd.bt9,Tryd.pa9,Tryd.ty9,Tryd.zr9,Tryd.underlying24,Tryd.cs24,Tryd.bt24,Tryd.pa24,Tryd.ty24,Tryd.zr24,Tryd.pl24,Tryd.eq24,Tryd.fd24_0,Tryd.fd24_1,Tryd.fd24_2,Tryd.underlying27,Tryd.cs27,Tryd.bt27,Tryd.pa27,Tryd.zr27,Tryd.underlying67,Tryd.cs67,Tryd.bt67,Tryd.pa67,Tryd.ty67,Tryd.sl67,Tryd.ar67,Tryd.zr67,Tryd.pl67]
            omega
        · have d2 : decide (48 ≤ c) = false := decide_eq_false h48
          rw [hfail (by rw [hokd]; exact fun h => h48 h.1)]
          simp -implicitDefEqProofs only [d1,hf,c0,c1,hget,d2,h10,Q0,Q1,Q2,Q3,Q4,Q5,Q6,Q7,Q8,Q9,Qa,Qb,Qc,Qd,Qe,Qf,Qg,Qh,Qi,Qj,Qk,Ql,Qm,Qn,Qo,Qp,Qq,Qr,Qs,Qt,Qu,Qv,Qw,Qx,Qy,Qz,QA,QB,QC,QD,QE,QF,QG,QH,QI,QJ,QK,QL,QM,QN,QO,QP,QQ,QR,QS,QT,QU,QV,QW,QX,QY,QZ,X0,X1,X2,X3,X4,X5,X6,X7,X8,X9,Xa,Xb,Xc,Xd,Xe,Xf,Xg,Xh,Xi,Xj,Xk,Xl,Xm,Xn,Xo,Xp,Xq,Xr,Xs,Xt,Xu,Xv,Xw,Xx,Xy,Xz,XA,XB,XC,XD,XE,XF,XG,XH,XI,XJ,XK,XL,XM,XN,XO,XP,XQ,XR,XS,XT,XU,XV,XW,XX,XY,XZ,Y0,Y1,Y2,Y3,Y4,Y5,Y6,Y7,Y8,Y9,Ya,Yb,Yc,Yd,Ye,Yf,Yg,Yh,Yi,Yj,Yk,Yl,Ym,Yn,Yo,Yp,Yq,Yr,Ys,Yt,Yu,Yv,Yw,Yx,Yy,Yz,YA,YB,YC,YD,YE,YF,YG,YH,YI,YJ,YK,YL,YM,YN,YO,YP,YQ,YR,YS,YT,YU,YV,YW,YX,YY,reduceIte,reduceCtorEq,ite_true,ite_false,if_true,if_false,YZ,Z0,Z1,Z2,Z3,Z4,and_true,true_and,and_self,true_imp_iff,false_imp_iff,eq_self,not_true_eq_false,not_false_eq_true,ne_eq,decide_true,decide_false,Z5,Z6,Z7,Z8,Z9,Za,Zb,Zc,Zd,Ze,Zf,Zg,Zh,Zi,Zj,Zk,Zl,Tryd.underlying3,Tryd.cs3,Tryd.bt3,Tryd.pa3,Tryd.zr3,Tryd.underlying4,Tryd.cs4,Tryd.bt4,Tryd.pa4,Tryd.ty4,Tryd.zr4,Tryd.underlying5,Tryd.cs5,Tryd.bt5,Tryd.pa5,Tryd.zr5,Tryd.underlying9,Tryd.cs9,Tryd.bt9,Tryd.pa9,Tryd.ty9,Tryd.zr9,Tryd.underlying24,Tryd.cs24,Tryd.bt24,Tryd.pa24,Tryd.ty24,Tryd.zr24,Tryd.pl24,Tryd.eq24,Tryd.fd24_0,Tryd.fd24_1,Tryd.fd24_2,Tryd.underlying27,Tryd.cs27,Tryd.bt27,Tryd.pa27,Tryd.zr27,Tryd.underlying67,Tryd.cs67,Tryd.bt67,Tryd.pa67,Tryd.ty67,Tryd.sl67,Tryd.ar67,Tryd.zr67,Tryd.pl67]
          omega
    · have d1 : decide ((i : Int) < 10) = false := decide_eq_false (by omega)
      have hi10 : i = 10 := by omega
      subst hi10
      have hv := fun σ => c_valid (dateT s) σ
      have hp : parseV s = if validI (dateT s) = true then .tup [(dateT s).av, .int .i64 0] else .tup [.agg [.int .i64 0, .int .i64 0, .int .i64 0], .int .i64 1] := if_pos ⟨h10, hok⟩
      rw [hp]
      have hm1 : validI (dateT s) = true → 1 ≤ (dateT s).m := fun h => (validI_vd h).1.1.m1
      unfold dateT at hv hm1 ⊢
      generalize accY s 10 = Y at *
      generalize accM s 10 = M at *
      generalize accE s 10 = E at *
      simp only [Dt.av, Dt.cs] at hv ⊢
      simp only at hm1
      cases hvv : validI ⟨Y, M, E⟩ with
      | false =>
        rw [hvv] at hv
        rw [if_neg (by decide)]
        simp -implicitDefEqProofs only [d1,Q0,Q1,Q2,Q3,Q4,Q5,Q6,Q7,Q8,Q9,Qa,Qb,Qc,Qd,Qe,Qf,Qg,Qh,Qi,Qj,Qk,Ql,Qm,Qn,Qo,Qp,Qq,Qr,Qs,Qt,Qu,Qv,Qw,Qx,Qy,Qz,QA,QB,QC,QD,QE,QF,QG,QH,QI,QJ,QK,QL,QM,QN,QO,QP,QQ,QR,QS,QT,QU,QV,QW,QX,QY,QZ,X0,X1,X2,X3,X4,X5,X6,X7,X8,X9,Xa,Xb,Xc,Xd,Xe,Xf,Xg,Xh,Xi,Xj,Xk,Xl,Xm,Xn,Xo,Xp,Xq,Xr,Xs,Xt,Xu,Xv,Xw,Xx,Xy,Xz,XA,XB,XC,XD,XE,XF,XG,XH,XI,XJ,XK,XL,XM,XN,XO,XP,XQ,XR,XS,XT,XU,XV,XW,XX,XY,XZ,Y0,Y1,Y2,Y3,Y4,Y5,Y6,Y7,Y8,Y9,Ya,Yb,Yc,Yd,Ye,Yf,Yg,Yh,Yi,Yj,Yk,Yl,Ym,Yn,Yo,Yp,Yq,Yr,Ys,Yt,Yu,Yv,Yw,Yx,Yy,Yz,YA,YB,YC,YD,YE,YF,YG,YH,YI,YJ,YK,YL,YM,YN,YO,YP,YQ,YR,YS,YT,YU,YV,YW,YX,YY,reduceIte,reduceCtorEq,ite_true,ite_false,if_true,if_false,YZ,Z0,Z1,Z2,Z3,Z4,and_true,true_and,and_self,true_imp_iff,false_imp_iff,eq_self,not_true_eq_false,not_false_eq_true,ne_eq,decide_true,decide_false,Z5,Z6,Z7,Z8,Z9,Za,Zb,Zc,Zd,Ze,Zf,Zg,Zh,Zi,Zj,Zk,Zl,Tryd.underlying3,Tryd.cs3,Tryd.bt3,Tryd.pa3,Tryd.zr3,Tryd.underlying4,Tryd.cs4,Tryd.bt4,Tryd.pa4,Tryd.ty4,Tryd.zr4,Tryd.underlying5,Tryd.cs5,Tryd.bt5,Tryd.pa5,Tryd.zr5,Tryd.underlying9,Tryd.cs9,Tryd.bt9,Tryd.pa9,Tryd.ty9,Tryd.zr9,Tryd.underlying24,Tryd.cs24,Tryd.bt24,Tryd.pa24,Tryd.ty24,Tryd.zr24,Tryd.pl24,Tryd.eq24,Tryd.fd24_0,Tryd.fd24_1,Tryd.fd24_2,Tryd.underlying27,Tryd.cs27,Tryd.bt27,Tryd.pa27,Tryd.zr27,Tryd.underlying67,Tryd.cs67,Tryd.bt67,Tryd.pa67,Tryd.ty67,Tryd.sl67,Tryd.ar67,Tryd.zr67,Tryd.pl67]
        refine acalls_then (hv _) ?_
        simp -implicitDefEqProofs only [Q0,Q1,Q2,Q3,Q4,Q5,Q6,Q7,Q8,Q9,Qa,Qb,Qc,Qd,Qe,Qf,Qg,Qh,Qi,Qj,Qk,Ql,Qm,Qn,Qo,Qp,Qq,Qr,Qs,Qt,Qu,Qv,Qw,Qx,Qy,Qz,QA,QB,QC,QD,QE,QF,QG,QH,QI,QJ,QK,QL,QM,QN,QO,QP,QQ,QR,QS,QT,QU,QV,QW,QX,QY,QZ,X0,X1,X2,X3,X4,X5,X6,X7,X8,X9,Xa,Xb,Xc,Xd,Xe,Xf,Xg,Xh,Xi,Xj,Xk,Xl,Xm,Xn,Xo,Xp,Xq,Xr,Xs,Xt,Xu,Xv,Xw,Xx,Xy,Xz,XA,XB,XC,XD,XE,XF,XG,XH,XI,XJ,XK,XL,XM,XN,XO,XP,XQ,XR,XS,XT,XU,XV,XW,XX,XY,XZ,Y0,Y1,Y2,Y3,Y4,Y5,Y6,Y7,Y8,Y9,Ya,Yb,Yc,Yd,Ye,Yf,Yg,Yh,Yi,Yj,Yk,Yl,Ym,Yn,Yo,Yp,Yq,Yr,Ys,Yt,Yu,Yv,Yw,Yx,Yy,Yz,YA,YB,YC,YD,YE,YF,YG,YH,YI,YJ,YK,YL,YM,YN,YO,YP,YQ,YR,YS,YT,YU,YV,YW,YX,YY,reduceIte,reduceCtorEq,ite_true,ite_false,if_true,if_false,YZ,Z0,Z1,Z2,Z3,Z4,and_true,true_and,and_self,true_imp_iff,false_imp_iff,eq_self,not_true_eq_false,not_false_eq_true,ne_eq,decide_true,decide_false,Z5,Z6,Z7,Z8,Z9,Za,Zb,Zc,Zd,Ze,Zf,Zg,Zh,Zi,Zj,Zk,Zl,Tryd.underlying3,Tryd.cs3,Tryd.bt3,Tryd.pa3,Tryd.zr3,Tryd.underlying4,Tryd.cs4,Tryd.bt4,Tryd.pa4,Tryd.ty4,Tryd.zr4,Tryd.underlying5,Tryd.cs5,Tryd.bt5,Tryd.pa5,Tryd.zr5,Tryd.underlying9,Tryd.cs9,Tryd.bt9,Tryd.pa9,Tryd.ty9,Tryd.zr9,Tryd.underlying24,Tryd.cs24,Tryd.bt24,Tryd.pa24,Tryd.ty24,Tryd.zr24,Tryd.pl24,Tryd.eq24,Tryd.fd24_0,Tryd.fd24_1,Tryd.fd24_2,Tryd.underlying27,Tryd.cs27,Tryd.bt27,Tryd.pa27,Tryd.zr27,Tryd.underlying67,Tryd.cs67,Tryd.bt67,Tryd.pa67,Tryd.ty67,Tryd.sl67,Tryd.ar67,Tryd.zr67,Tryd.pl67]
      | true =>
        rw [hvv] at hv
        have := hm1 hvv
        rw [if_pos rfl]
        have dm : decide (M = 0) = false := decide_eq_false (by omega)
        simp -implicitDefEqProofs only [d1,Q0,Q1,Q2,Q3,Q4,Q5,Q6,Q7,Q8,Q9,Qa,Qb,Qc,Qd,Qe,Qf,Qg,Qh,Qi,Qj,Qk,Ql,Qm,Qn,Qo,Qp,Qq,Qr,Qs,Qt,Qu,Qv,Qw,Qx,Qy,Qz,QA,QB,QC,QD,QE,QF,QG,QH,QI,QJ,QK,QL,QM,QN,QO,QP,QQ,QR,QS,QT,QU,QV,QW,QX,QY,QZ,X0,X1,X2,X3,X4,X5,X6,X7,X8,X9,Xa,Xb,Xc,Xd,Xe,Xf,Xg,Xh,Xi,Xj,Xk,Xl,Xm,Xn,Xo,Xp,Xq,Xr,Xs,Xt,Xu,Xv,Xw,Xx,Xy,Xz,XA,XB,XC,XD,XE,XF,XG,XH,XI,XJ,XK,XL,XM,XN,XO,XP,XQ,XR,XS,XT,XU,XV,XW,XX,XY,XZ,Y0,Y1,Y2,Y3,Y4,Y5,Y6,Y7,Y8,Y9,Ya,Yb,Yc,Yd,Ye,Yf,Yg,Yh,Yi,Yj,Yk,Yl,Ym,Yn,Yo,Yp,Yq,Yr,Ys,Yt,Yu,Yv,Yw,Yx,Yy,Yz,YA,YB,YC,YD,YE,YF,YG,YH,YI,YJ,YK,YL,YM,YN,YO,YP,YQ,YR,YS,YT,YU,YV,YW,YX,YY,reduceIte,reduceCtorEq,ite_true,ite_false,if_true,if_false,YZ,Z0,Z1,Z2,Z3,Z4,and_true,true_and,and_self,true_imp_iff,false_imp_iff,eq_self,not_true_eq_false,not_false_eq_true,ne_eq,decide_true,decide_false,Z5,Z6,Z7,Z8,Z9,Za,Zb,Zc,Zd,Ze,Zf,Zg,Zh,Zi,Zj,Zk,Zl,Tryd.underlying3,Tryd.cs3,Tryd.bt3,Tryd.pa3,Tryd.zr3,Tryd.underlying4,Tryd.cs4,Tryd.bt4,Tryd.pa4,Tryd.ty4,Tryd.zr4,Tryd.underlying5,Tryd.cs5,Tryd.bt5,Tryd.pa5,Tryd.zr5,Tryd.underlying9,Tryd.cs9,Tryd.bt9,Tryd.pa9,Tryd.ty9,Tryd.zr9,Tryd.underlying24,Tryd.cs24,Tryd.bt24,Tryd.pa24,Tryd.ty24,Tryd.zr24,Tryd.pl24,Tryd.eq24,Tryd.fd24_0,Tryd.fd24_1,Tryd.fd24_2,Tryd.underlying27,Tryd.cs27,Tryd.bt27,Tryd.pa27,Tryd.zr27,Tryd.underlying67,Tryd.cs67,Tryd.bt67,Tryd.pa67,Tryd.ty67,Tryd.sl67,Tryd.ar67,Tryd.zr67,Tryd.pl67]
        refine acalls_then (hv _) ?_
        simp -implicitDefEqProofs only [dm,Bool.and_false,Bool.false_and,Q0,Q1,Q2,Q3,Q4,Q5,Q6,Q7,Q8,Q9,Qa,Qb,Qc,Qd,Qe,Qf,Qg,Qh,Qi,Qj,Qk,Ql,Qm,Qn,Qo,Qp,Qq,Qr,Qs,Qt,Qu,Qv,Qw,Qx,Qy,Qz,QA,QB,QC,QD,QE,QF,QG,QH,QI,QJ,QK,QL,QM,QN,QO,QP,QQ,QR,QS,QT,QU,QV,QW,QX,QY,QZ,X0,X1,X2,X3,X4,X5,X6,X7,X8,X9,Xa,Xb,Xc,Xd,Xe,Xf,Xg,Xh,Xi,Xj,Xk,Xl,Xm,Xn,Xo,Xp,Xq,Xr,Xs,Xt,Xu,Xv,Xw,Xx,Xy,Xz,XA,XB,XC,XD,XE,XF,XG,XH,XI,XJ,XK,XL,XM,XN,XO,XP,XQ,XR,XS,XT,XU,XV,XW,XX,XY,XZ,Y0,Y1,Y2,Y3,Y4,Y5,Y6,Y7,Y8,Y9,Ya,Yb,Yc,Yd,Ye,Yf,Yg,Yh,Yi,Yj,Yk,Yl,Ym,Yn,Yo,Yp,Yq,Yr,Ys,Yt,Yu,Yv,Yw,Yx,Yy,Yz,YA,YB,YC,YD,YE,YF,YG,YH,YI,YJ,YK,YL,YM,YN,YO,YP,YQ,YR,YS,YT,YU,YV,YW,YX,YY,reduceIte,reduceCtorEq,ite_true,ite_false,if_true,if_false,YZ,Z0,Z1,Z2,Z3,Z4,and_true,true_and,and_self,true_imp_iff,false_imp_iff,eq_self,not_true_eq_false,not_false_eq_true,ne_eq,decide_true,decide_false,Z5,Z6,Z7,Z8,Z9,Za,Zb,Zc,Zd,Ze,Zf,Zg,Zh,Zi,Zj,Zk,Zl,Tryd.underlying3,Tryd.cs3,Tryd.bt3,Tryd.pa3,Tryd.zr3,Tryd.underlying4,Tryd.cs4,Tryd.bt4,Tryd.pa4,Tryd.ty4,Tryd.zr4,Tryd.underlying5,Tryd.cs5,Tryd.bt5,Tryd.pa5,Tryd.zr5,Tryd.underlying9,Tryd.cs9,Tryd.bt9,Tryd.pa9,Tryd.ty9,Tryd.zr9,Tryd.underlying24,Tryd.cs24,Tryd.bt24,Tryd.pa24,Tryd.ty24,Tryd.zr24,Tryd.pl24,Tryd.eq24,Tryd.fd24_0,Tryd.fd24_1,Tryd.fd24_2,Tryd.underlying27,Tryd.cs27,Tryd.bt27,Tryd.pa27,Tryd.zr27,Tryd.underlying67,Tryd.cs67,Tryd.bt67,Tryd.pa67,Tryd.ty67,Tryd.sl67,Tryd.ar67,Tryd.zr67,Tryd.pl67]
  · have d0 : decide ((s.length : Int) = 10) = false := decide_eq_false (by omega)
    rw [parse_no (fun h => h10 h.1)]
    refine acalls_of_vc (fn := Tryd.f27) Tryd.call27 Tryd.func27 rfl (by kernel_rfl) (by simp [Tryd.ntmps27]) ?_; simp -implicitDefEqProofs only [Tryd.ntmps27,Tryd.results27,Q0,Q1,Q2,Q3,Q4,Q5,Q6,Q7,Q8,Q9,Qa,Qb,Qc,Qd,Qe,Qf,Qg,Qh,Qi,Qj,Qk,Ql,Qm,Qn,Qo,Qp,Qq,Qr,Qs,Qt,Qu,Qv,Qw,Qx,Qy,Qz,QA,QB,QC,QD,QE,QF,QG,QH,QI,QJ,QK,QL,QM,QN,QO,QP,QQ,QR,QS,QT,QU,QV,QW,QX,QY,QZ,X0,X1,X2,X3,X4,X5,X6,X7,X8,X9,Xa,Xb,Xc,Xd,Xe,Xf,Xg,Xh,Xi,Xj,Xk,Xl,Xm,Xn,Xo,Xp,Xq,Xr,Xs,Xt,Xu,Xv,Xw,Xx,Xy,Xz,XA,XB,XC,XD,XE,XF,XG,XH,XI,XJ,XK,XL,XM,XN,XO,XP,XQ,XR,XS,XT,XU,XV,XW,XX,XY,XZ,Y0,Y1,Y2,Y3,Y4,Y5,Y6,Y7,Y8,Y9,Ya,Yb,Yc,Yd,Ye,Yf,Yg,Yh,Yi,Yj,Yk,Yl,Ym,Yn,Yo,Yp,Yq,Yr,Ys,Yt,Yu,Yv,Yw,Yx,Yy,Yz,YA,YB,YC,YD,YE,YF,YG,YH,YI,YJ,YK,YL,YM,YN,YO,YP,YQ,YR,YS,YT,YU,YV,YW,YX,YY,reduceIte,reduceCtorEq,ite_true,ite_false,if_true,if_false,YZ,Z0,Z1,Z2,Z3,Z4,and_true,true_and,and_self,true_imp_iff,false_imp_iff,eq_self,not_true_eq_false,not_false_eq_true,ne_eq,decide_true,decide_false,Z5,Z6,Z7,Z8,Z9,Za,Zb,Zc,Zd,Ze,Zf,Zg,Zh,Zi,Zj,Zk,Zl,Tryd.underlying3,Tryd.cs3,Tryd.bt3,Tryd.pa3,Tryd.zr3,Tryd.underlying4,Tryd.cs4,Tryd.bt4,Tryd.pa4,Tryd.ty4,Tryd.zr4,Tryd.underlying5,Tryd.cs5,Tryd.bt5,Tryd.pa5,Tryd.zr5,Tryd.underlying9,Tryd.cs9,Tryd.bt9,Tryd.pa9,Tryd.ty9,Tryd.zr9,Tryd.underlying24,Tryd.cs24,Tryd.bt24,Tryd.pa24,Tryd.ty24,Tryd.zr24,Tryd.pl24,Tryd.eq24,Tryd.fd24_0,Tryd.fd24_1,Tryd.fd24_2,Tryd.underlying27,Tryd.cs27,Tryd.bt27,Tryd.pa27,Tryd.zr27,Tryd.underlying67,Tryd.cs67,Tryd.bt67,Tryd.pa67,Tryd.ty67,Tryd.sl67,Tryd.ar67,Tryd.zr67,Tryd.pl67]
    simp -implicitDefEqProofs only [d0,Q0,Q1,Q2,Q3,Q4,Q5,Q6,Q7,Q8,Q9,Qa,Qb,Qc,Qd,Qe,Qf,Qg,Qh,Qi,Qj,Qk,Ql,Qm,Qn,Qo,Qp,Qq,Qr,Qs,Qt,Qu,Qv,Qw,Qx,Qy,Qz,QA,QB,QC,QD,QE,QF,QG,QH,QI,QJ,QK,QL,QM,QN,QO,QP,QQ,QR,QS,QT,QU,QV,QW,QX,QY,QZ,X0,X1,X2,X3,X4,X5,X6,X7,X8,X9,Xa,Xb,Xc,Xd,Xe,Xf,Xg,Xh,Xi,Xj,Xk,Xl,Xm,Xn,Xo,Xp,Xq,Xr,Xs,Xt,Xu,Xv,Xw,Xx,Xy,Xz,XA,XB,XC,XD,XE,XF,XG,XH,XI,XJ,XK,XL,XM,XN,XO,XP,XQ,XR,XS,XT,XU,XV,XW,XX,XY,XZ,Y0,Y1,Y2,Y3,Y4,Y5,Y6,Y7,Y8,Y9,Ya,Yb,Yc,Yd,Ye,Yf,Yg,Yh,Yi,Yj,Yk,Yl,Ym,Yn,Yo,Yp,Yq,Yr,Ys,Yt,Yu,Yv,Yw,Yx,Yy,Yz,YA,YB,YC,YD,YE,YF,YG,YH,YI,YJ,YK,YL,YM,YN,YO,YP,YQ,YR,YS,YT,YU,YV,YW,YX,YY,reduceIte,reduceCtorEq,ite_true,ite_false,if_true,if_false,YZ,Z0,Z1,Z2,Z3,Z4,and_true,true_and,and_self,true_imp_iff,false_imp_iff,eq_self,not_true_eq_false,not_false_eq_true,ne_eq,decide_true,decide_false,Z5,Z6,Z7,Z8,Z9,Za,Zb,Zc,Zd,Ze,Zf,Zg,Zh,Zi,Zj,Zk,Zl,Tryd.underlying3,Tryd.cs3,Tryd.bt3,Tryd.pa3,Tryd.zr3,Tryd.underlying4,Tryd.cs4,Tryd.bt4,Tryd.pa4,Tryd.ty4,Tryd.zr4,Tryd.underlying5,Tryd.cs5,Tryd.bt5,Tryd.pa5,Tryd.zr5,Tryd.underlying9,Tryd.cs9,Tryd.bt9,Tryd.pa9,Tryd.ty9,Tryd.zr9,Tryd.underlying24,Tryd.cs24,Tryd.bt24,Tryd.pa24,Tryd.ty24,Tryd.zr24,Tryd.pl24,Tryd.eq24,Tryd.fd24_0,Tryd.fd24_1,Tryd.fd24_2,Tryd.underlying27,Tryd.cs27,Tryd.bt27,Tryd.pa27,Tryd.zr27,Tryd.underlying67,Tryd.cs67,Tryd.bt67,Tryd.pa67,Tryd.ty67,Tryd.sl67,Tryd.ar67,Tryd.zr67,Tryd.pl67]

end Go.Proofs
