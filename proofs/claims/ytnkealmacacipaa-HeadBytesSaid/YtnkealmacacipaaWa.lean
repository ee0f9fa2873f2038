/-
  The Writer of package wire: contracts.
-/
import Derived.Test.YtnkealmacacipaaHk
import Derived.Test.YtnkealmacacipaaAbsAll
namespace Go.Proofs
open Go.Pa
open Go.Pa renaming vc_seq → Q0, vc_block → Q1, vc_exit → Q2, vc_ret → Q3, vc_skip → Q4, vc_region → Q5, vc_draw → Q6, vc_loop → Q7, vc_range → Q8, vc_cond → Q9, condV_true → Qa, condV_false → Qb, condV_bool → Qc, seqK_normal → Qd, seqK_ret → Qe, seqK_exit → Qf, blkK_normal → Qg, blkK_ret → Qh, blkK_exit → Qi, loopK_ret → Qj, loopK_exit → Qk, loopK_normal → Ql, vcOps_nil → Qm, vcOps_cons → Qn, vcOps_guardM → Qo, guardM_some → Qp, guardV_und → Qq, guardV_same → Qr, guardV_tf → Qs, guardV_ft → Qt, guardV_bool → Qu, vcOp_out → Qv, outV_val → Qw, outV_need → Qx, outV_no → Qy, opK_run → Qz, opK_none → QA, vcS → QB, evA → QC, evBin → QD, nilA → QE, nilOf → QF, intOp → QG, strOp → QH, evUn → QI, evConv → QJ, evField → QK, evFieldAddr → QL, evIndexAddr → QM, evIndex → QN, bnd → QO, evSlice → QP, evLen → QQ, evPick → QR, evExtract → QS, evNilCheck → QT, evMin → QU, evMax → QV, evLoadI → QW, cO_int → QX, cO_bool → QY, cO_str → QZ, cO_nils → X0, cO_emp → X1, cO_ints → X2, cO_rows → X3, cO_mvec → X4, cO_ptr → X5, cO_eptr → X6, cO_iptr → X7, cO_nilp → X8, cO_fn → X9, cO_nilf → Xa, cO_mp → Xb, cO_nilm → Xc, cO_glob → Xd, cO_agg → Xe, partsOne → Xg, intsOf → Xh, rowsAV → Xi, evBuildSlice → Xj, evBuild → Xk, fillA → Xl, splice → Xm, evBuiltin → Xn, vcE_nil → Xo, vcE_cons → Xp, vcE_guardM → Xq, guardME_some → Xr, guardD_und → Xs, guardD_same → Xt, guardD_tf → Xu, guardD_ft → Xv, guardD_bool → Xw, dK_run → Xx, dK_none → Xy, dOp_call → Xz, callA_fn → XA, dOp → XB, outA_val → XC, outA_need → XD, cl → XE, vcLoad → XF, vcStore → XG, vcMake → XH, evO_tmp → XI, evO_int → XJ, evO_bool → XK, evO_nils → XL, evO_nilp → XM, evO_nilf → XN, evO_nilm → XO, evO_str → XP, evO_func → XQ, evO_glob → XR, convA → XS, evIndexArr → XT, lookA_cons → XU, get_cons → XV, sub_cons → XW, sub_nil → XX, retK_ret → XY, retK_normal → XZ, retA → Y0, ressA → Y1, resA → Y2, envOf → Y3, vcR_skip → Y7, vcR_seq → Y8, vcR_block → Y9, vcR_exit → Ya, vcR_ret → Yb, vcR_region → Yc, vcR_draw → Yd, vcR_cond → Ye, condR_true → Yf, condR_false → Yg, condR_bool → Yh, seqR_normal → Yi, seqR_ret → Yj, seqR_exit → Yk, asgEnv → Yl, parEnv → Ym, dstAt → Z5, sto_assoc → Z6, sto_len → Z7, sto_at → Z8, sto_at0 → Z9, sto_set → Za, sto_set0 → Zb
open Go.Pa.AV renaming cell → Xf
open Go.Pa.Env renaming put → Y4
open List renaming set_cons_zero → Y5, set_cons_succ → Y6, foldl_cons → Yn, foldl_nil → Yo, map_cons → Yp, map_nil → Yq, toList_toArray → Yr, getElem?_cons_zero → Ys, getElem?_cons_succ → Yt, nil_append → Yx, append_nil → Yy, cons_append → Yz, singleton_append → YA, length_cons → YB, length_nil → YC, all_cons → YD, all_nil → YE, take_succ_cons → YF, take_zero → YG, take_nil → YH, drop_zero → YI, drop_succ_cons → YJ, drop_nil → YK, contains_nil → YL, contains_cons → YM
open Option renaming bind_some → Yu, map_some → Yv, map_none → Yw
open Bool renaming or_false → YN, false_or → YO, or_true → YP, true_or → YQ, false_eq_true → YZ, not_true → Z0, not_false → Z1, and_true → Z2, true_and → Z3, and_self → Z4
open Nat renaming reduceEqDiff → YR, reduceAdd → YS, reduceSub → YT, reduceMul → YU, reduceLT → YV, reduceLeDiff → YW, reduceBNe → YX, reduceBEq → YY, zero_add → Ze, add_zero → Zf
open UInt8 renaming reduceToNat → Zc
open Int renaming cast_ofNat_Int → Zd, reduceToNat → Zg, reduceLT → Zh, reduceLE → Zi, reduceNeg → Zj, reduceEq → Zk, reduceNe → Zl
set_option linter.unusedSimpArgs false
set_option maxRecDepth 20000

/-- The varint of a number. -/
def uintE (n : Nat) : List Int := if n < 128 then [(n : Int)] else ((128 + n % 128 : Nat) : Int) :: uintE (n / 128)
termination_by n
decreasing_by omega

theorem uintE_small {n : Nat} (h : n < 128) : uintE n = [(n : Int)] := by rw [uintE, if_pos h]
theorem uintE_big {n : Nat} (h : ¬ n < 128) : uintE n = ((128 + n % 128 : Nat) : Int) :: uintE (n / 128) := by rw [uintE, if_neg h]

/-- A Writer lies in object id, and has collected l; the objects of 'pre' beside it are as they were. -/
def WrS (pre : Store) (id : Nat) (l : List Int) (s : Store) : Prop :=
  id < pre.length ∧ pre.length ≤ s.length ∧ (∀ (i : Nat) x, i ≠ id → pre[i]? = some x → s[i]? = some x) ∧ ∃ r, s[id]? = some (.box [r]) ∧ BufI s pre.length r .u8 l

theorem take_ext (s : Store) (n : Nat) : Ext (s.take n) s := fun i y hy => by
  rw [List.getElem?_take] at hy
  split at hy
  · exact hy
  · cases hy

theorem take_len {s : Store} {n : Nat} (h : n ≤ s.length) : (s.take n).length = n := by rw [List.length_take]; omega

theorem WrS.put {pre s s2 : Store} {id : Nat} {l l2 : List Int} {r2 : AV} (h : WrS pre id l s) (hx : Ext (s.take pre.length) s2) (hb : BufI s2 (s.take pre.length).length r2 .u8 l2) : WrS pre id l2 (s2.set id (.box [r2])) := by
  obtain ⟨h1, h2, h3, r, h4, h5⟩ := h
  rw [take_len h2] at hb
  have hl := hx.len
  rw [take_len h2] at hl
  refine ⟨h1, by simp; exact hl, fun i x hi hpx => ?_, r2, by rw [List.getElem?_set_self (by omega)], ?_⟩
  · rw [List.getElem?_set_ne (Ne.symm hi)]
    have hlt := (List.getElem?_eq_some_iff.1 hpx).1
    exact hx i x (by rw [List.getElem?_take, if_pos hlt]; exact h3 i x hi hpx)
  · rcases hb with hb | ⟨k, q1, q2, q3⟩
    · exact .inl hb
    · exact .inr ⟨k, q1, by rw [List.getElem?_set_ne (by omega)]; exact q2, q3⟩

theorem WrS.box {pre s s2 : Store} {id : Nat} {l : List Int} {r : AV} (h : WrS pre id l s) (h4 : s[id]? = some (.box [r])) (hx : Ext (s.take pre.length) s2) : s2[id]? = some (.box [r]) :=
  hx id _ (by rw [List.getElem?_take, if_pos h.1]; exact h4)

theorem or128 {n : Nat} : ior .u8 (IntKind.u8.wrap (n : Int)) 128 = ((128 + n % 128 : Nat) : Int) := by
  have h0 : IntKind.u8.wrap (n : Int) = ((n % 256 : Nat) : Int) := by
    simp [IntKind.wrap, IntKind.bits, IntKind.signed]
  rw [h0]
  have key : ∀ m : Fin 256, ior .u8 ((m.val : Nat) : Int) 128 = ((128 + m.val % 128 : Nat) : Int) := by decide +kernel
  have := key ⟨n % 256, by omega⟩
  simp only at this
  rw [this]
  congr 2
  omega

theorem shr7 {n : Nat} : ishr .u64 (n : Int) 7 = ((n / 128 : Nat) : Int) := by
  have : ishr .u64 (n : Int) 7 = (n : Int).fdiv 128 := rfl
  rw [this, Int.fdiv_eq_ediv_of_nonneg _ (by omega)]
  omega

theorem uintE_len {n : Nat} (h : n < 18446744073709551616) : 1 ≤ (uintE n).length ∧ (uintE n).length ≤ 10 := by
  have key : ∀ (d n : Nat), n < 128 ^ d → (uintE n).length ≤ d ∨ d = 0 := by
    intro d
    induction d with
    | zero => intro n _; exact .inr rfl
    | succ d ih =>
      intro n hn
      by_cases h1 : n < 128
      · rw [uintE_small h1]; left; simp
      · rw [uintE_big h1]
        left
        have h2 : n / 128 < 128 ^ d := by rw [Nat.div_lt_iff_lt_mul (by omega)]; rw [Nat.pow_succ] at hn; exact hn
        rcases ih (n / 128) h2 with h3 | h3
        · simp only [List.length_cons]; omega
        · subst h3; simp at h2; omega
  refine ⟨?_, ?_⟩
  · by_cases h1 : n < 128
    · rw [uintE_small h1]; simp
    · rw [uintE_big h1]; simp
  · rcases key 10 n (by omega) with h1 | h1 <;> omega

theorem wr_uint (n : Nat) (hn : n < 18446744073709551616) {pre s : Store} {id : Nat} {l : List Int} (h : WrS pre id l s) (hl : l.length < 1000000) :
    ACalls Try.prog 42 [.ptr id 0, .int .u64 n] s (fun r s' => r = .tup [] ∧ WrS pre id (l ++ uintE n) s') := by
  have hnl := (uintE_len hn).2
  refine acalls_of_vc (fn := Try.f42) Try.call42 Try.func42 rfl (by kernel_rfl) (by simp [Try.ntmps42]) ?_; simp -implicitDefEqProofs only [Try.ntmps42,Try.results42,Q0,Q1,Q2,Q3,Q4,Q5,Q6,Q7,Q8,Q9,Qa,Qb,Qc,Qd,Qe,Qf,Qg,Qh,Qi,Qj,Qk,Ql,Qm,Qn,Qo,Qp,Qq,Qr,Qs,Qt,Qu,Qv,Qw,Qx,Qy,Qz,QA,QB,QC,QD,QE,QF,QG,QH,QI,QJ,QK,QL,QM,QN,QO,QP,QQ,QR,QS,QT,QU,QV,QW,QX,QY,QZ,X0,X1,X2,X3,X4,X5,X6,X7,X8,X9,Xa,Xb,Xc,Xd,Xe,Xf,Xg,Xh,Xi,Xj,Xk,Xl,Xm,Xn,Xo,Xp,Xq,Xr,Xs,Xt,Xu,Xv,Xw,Xx,Xy,Xz,XA,XB,XC,XD,XE,XF,XG,XH,XI,XJ,XK,XL,XM,XN,XO,XP,XQ,XR,XS,XT,XU,XV,XW,XX,XY,XZ,Y0,Y1,Y2,Y3,Y4,Y5,Y6,Y7,Y8,Y9,Ya,Yb,Yc,Yd,Ye,Yf,Yg,Yh,Yi,Yj,Yk,Yl,Ym,Yn,Yo,Yp,Yq,Yr,Ys,Yt,Yu,Yv,Yw,Yx,Yy,Yz,YA,YB,YC,YD,YE,YF,YG,YH,YI,YJ,YK,YL,YM,YN,YO,YP,YQ,YR,YS,YT,YU,YV,YW,YX,YY,reduceIte,reduceCtorEq,ite_true,ite_false,if_true,if_false,YZ,Z0,Z1,Z2,Z3,Z4,and_true,true_and,and_self,true_imp_iff,false_imp_iff,eq_self,not_true_eq_false,not_false_eq_true,ne_eq,decide_true,decide_false,Z5,Z6,Z7,Z8,Z9,Za,Zb,Zc,Zd,Ze,Zf,Zg,Zh,Zi,Zj,Zk,Zl,Try.underlying4,Try.cs4,Try.bt4,Try.pa4,Try.ty4,Try.zr4,Try.underlying5,Try.cs5,Try.bt5,Try.pa5,Try.zr5,Try.underlying22,Try.cs22,Try.bt22,Try.pa22,Try.zr22,Try.underlying46,Try.cs46,Try.bt46,Try.pa46,Try.ty46,Try.sl46,Try.zr46,Try.underlying51,Try.cs51,Try.bt51,Try.pa51,Try.ty51,Try.zr51,Try.pl51,Try.fd51_0,Try.underlying75,Try.cs75,Try.bt75,Try.pa75,Try.ty75,Try.zr75,Try.underlying91,Try.cs91,Try.bt91,Try.pa91,Try.zr91]
  refine awp_loop (fun p : Nat × List Int => [(0, .ptr id 0), (1, .int .u64 p.1)]) (fun p s' => WrS pre id p.2 s' ∧ p.1 < 18446744073709551616 ∧ p.2 ++ uintE p.1 = l ++ uintE n) (fun p => p.1) (n, l) (by kernel_rfl) (by simp [sub_cons, sub_nil, get_cons]) ⟨h, hn, rfl⟩ ?_
  rintro ⟨k, l1⟩ s1 ⟨hw, hk, he⟩
  simp only at hw hk he
  have hll : l1.length < 1100000 := by
    have := congrArg List.length he
    simp only [List.length_append] at this
    omega
  obtain ⟨r, h4, h5⟩ := hw.2.2.2
  have h5' : BufI s1 (s1.take pre.length).length r .u8 l1 := by rw [take_len hw.2.1]; exact h5
  simp -implicitDefEqProofs only [h4,Q0,Q1,Q2,Q3,Q4,Q5,Q6,Q7,Q8,Q9,Qa,Qb,Qc,Qd,Qe,Qf,Qg,Qh,Qi,Qj,Qk,Ql,Qm,Qn,Qo,Qp,Qq,Qr,Qs,Qt,Qu,Qv,Qw,Qx,Qy,Qz,QA,QB,QC,QD,QE,QF,QG,QH,QI,QJ,QK,QL,QM,QN,QO,QP,QQ,QR,QS,QT,QU,QV,QW,QX,QY,QZ,X0,X1,X2,X3,X4,X5,X6,X7,X8,X9,Xa,Xb,Xc,Xd,Xe,Xf,Xg,Xh,Xi,Xj,Xk,Xl,Xm,Xn,Xo,Xp,Xq,Xr,Xs,Xt,Xu,Xv,Xw,Xx,Xy,Xz,XA,XB,XC,XD,XE,XF,XG,XH,XI,XJ,XK,XL,XM,XN,XO,XP,XQ,XR,XS,XT,XU,XV,XW,XX,XY,XZ,Y0,Y1,Y2,Y3,Y4,Y5,Y6,Y7,Y8,Y9,Ya,Yb,Yc,Yd,Ye,Yf,Yg,Yh,Yi,Yj,Yk,Yl,Ym,Yn,Yo,Yp,Yq,Yr,Ys,Yt,Yu,Yv,Yw,Yx,Yy,Yz,YA,YB,YC,YD,YE,YF,YG,YH,YI,YJ,YK,YL,YM,YN,YO,YP,YQ,YR,YS,YT,YU,YV,YW,YX,YY,reduceIte,reduceCtorEq,ite_true,ite_false,if_true,if_false,YZ,Z0,Z1,Z2,Z3,Z4,and_true,true_and,and_self,true_imp_iff,false_imp_iff,eq_self,not_true_eq_false,not_false_eq_true,ne_eq,decide_true,decide_false,Z5,Z6,Z7,Z8,Z9,Za,Zb,Zc,Zd,Ze,Zf,Zg,Zh,Zi,Zj,Zk,Zl,Try.underlying4,Try.cs4,Try.bt4,Try.pa4,Try.ty4,Try.zr4,Try.underlying5,Try.cs5,Try.bt5,Try.pa5,Try.zr5,Try.underlying22,Try.cs22,Try.bt22,Try.pa22,Try.zr22,Try.underlying46,Try.cs46,Try.bt46,Try.pa46,Try.ty46,Try.sl46,Try.zr46,Try.underlying51,Try.cs51,Try.bt51,Try.pa51,Try.ty51,Try.zr51,Try.pl51,Try.fd51_0,Try.underlying75,Try.cs75,Try.bt75,Try.pa75,Try.ty75,Try.zr75,Try.underlying91,Try.cs91,Try.bt91,Try.pa91,Try.zr91]
  constructor
  · intro hge
    have hge' : ¬ k < 128 := by simp at hge; omega
    refine append_buf (σ := s1.take pre.length) Try.sl46 (by simp [Try.bt5]) (take_ext _ _) h5' (.inl rfl) (by simp [appFits, Try.bt5]; omega) fun r2 s2 hx2 hb2 => ?_
    have g1 := hw.box h4 hx2
    have hc := hb2.cells
    have hput := hw.put hx2 hb2
    rw [or128] at hput
    simp -implicitDefEqProofs only [g1,hc,Q0,Q1,Q2,Q3,Q4,Q5,Q6,Q7,Q8,Q9,Qa,Qb,Qc,Qd,Qe,Qf,Qg,Qh,Qi,Qj,Qk,Ql,Qm,Qn,Qo,Qp,Qq,Qr,Qs,Qt,Qu,Qv,Qw,Qx,Qy,Qz,QA,QB,QC,QD,QE,QF,QG,QH,QI,QJ,QK,QL,QM,QN,QO,QP,QQ,QR,QS,QT,QU,QV,QW,QX,QY,QZ,X0,X1,X2,X3,X4,X5,X6,X7,X8,X9,Xa,Xb,Xc,Xd,Xe,Xf,Xg,Xh,Xi,Xj,Xk,Xl,Xm,Xn,Xo,Xp,Xq,Xr,Xs,Xt,Xu,Xv,Xw,Xx,Xy,Xz,XA,XB,XC,XD,XE,XF,XG,XH,XI,XJ,XK,XL,XM,XN,XO,XP,XQ,XR,XS,XT,XU,XV,XW,XX,XY,XZ,Y0,Y1,Y2,Y3,Y4,Y5,Y6,Y7,Y8,Y9,Ya,Yb,Yc,Yd,Ye,Yf,Yg,Yh,Yi,Yj,Yk,Yl,Ym,Yn,Yo,Yp,Yq,Yr,Ys,Yt,Yu,Yv,Yw,Yx,Yy,Yz,YA,YB,YC,YD,YE,YF,YG,YH,YI,YJ,YK,YL,YM,YN,YO,YP,YQ,YR,YS,YT,YU,YV,YW,YX,YY,reduceIte,reduceCtorEq,ite_true,ite_false,if_true,if_false,YZ,Z0,Z1,Z2,Z3,Z4,and_true,true_and,and_self,true_imp_iff,false_imp_iff,eq_self,not_true_eq_false,not_false_eq_true,ne_eq,decide_true,decide_false,Z5,Z6,Z7,Z8,Z9,Za,Zb,Zc,Zd,Ze,Zf,Zg,Zh,Zi,Zj,Zk,Zl,Try.underlying4,Try.cs4,Try.bt4,Try.pa4,Try.ty4,Try.zr4,Try.underlying5,Try.cs5,Try.bt5,Try.pa5,Try.zr5,Try.underlying22,Try.cs22,Try.bt22,Try.pa22,Try.zr22,Try.underlying46,Try.cs46,Try.bt46,Try.pa46,Try.ty46,Try.sl46,Try.zr46,Try.underlying51,Try.cs51,Try.bt51,Try.pa51,Try.ty51,Try.zr51,Try.pl51,Try.fd51_0,Try.underlying75,Try.cs75,Try.bt75,Try.pa75,Try.ty75,Try.zr75,Try.underlying91,Try.cs91,Try.bt91,Try.pa91,Try.zr91]
    refine ⟨(k / 128, l1 ++ [((128 + k % 128 : Nat) : Int)]), by rw [shr7], ⟨hput, by simp only; omega, ?_⟩, by simp only; omega⟩
    rw [← he, uintE_big hge']
    simp
  · intro hlt
    have hlt' : k < 128 := by simp at hlt; omega
    have hw8 : IntKind.u8.wrap (k : Int) = (k : Int) := wrap_u8 (by omega) (by omega)
    refine append_buf (σ := s1.take pre.length) Try.sl46 (by simp [Try.bt5]) (take_ext _ _) h5' (.inl rfl) (by simp [appFits, Try.bt5]; omega) fun r2 s2 hx2 hb2 => ?_
    have g1 := hw.box h4 hx2
    have hc := hb2.cells
    have hput := hw.put hx2 hb2
    rw [hw8, ← uintE_small hlt', he] at hput
    simp -implicitDefEqProofs only [g1,hc,Q0,Q1,Q2,Q3,Q4,Q5,Q6,Q7,Q8,Q9,Qa,Qb,Qc,Qd,Qe,Qf,Qg,Qh,Qi,Qj,Qk,Ql,Qm,Qn,Qo,Qp,Qq,Qr,Qs,Qt,Qu,Qv,Qw,Qx,Qy,Qz,QA,QB,QC,QD,QE,QF,QG,QH,QI,QJ,QK,QL,QM,QN,QO,QP,QQ,QR,QS,QT,QU,QV,QW,QX,QY,QZ,X0,X1,X2,X3,X4,X5,X6,X7,X8,X9,Xa,Xb,Xc,Xd,Xe,Xf,Xg,Xh,Xi,Xj,Xk,Xl,Xm,Xn,Xo,Xp,Xq,Xr,Xs,Xt,Xu,Xv,Xw,Xx,Xy,Xz,XA,XB,XC,XD,XE,XF,XG,XH,XI,XJ,XK,XL,XM,XN,XO,XP,XQ,XR,XS,XT,XU,XV,XW,XX,XY,XZ,Y0,Y1,Y2,Y3,Y4,Y5,Y6,Y7,Y8,Y9,Ya,Yb,Yc,Yd,Ye,Yf,Yg,Yh,Yi,Yj,Yk,Yl,Ym,Yn,Yo,Yp,Yq,Yr,Ys,Yt,Yu,Yv,Yw,Yx,Yy,Yz,YA,YB,YC,YD,YE,YF,YG,YH,YI,YJ,YK,YL,YM,YN,YO,YP,YQ,YR,YS,YT,YU,YV,YW,YX,YY,reduceIte,reduceCtorEq,ite_true,ite_false,if_true,if_false,YZ,Z0,Z1,Z2,Z3,Z4,and_true,true_and,and_self,true_imp_iff,false_imp_iff,eq_self,not_true_eq_false,not_false_eq_true,ne_eq,decide_true,decide_false,Z5,Z6,Z7,Z8,Z9,Za,Zb,Zc,Zd,Ze,Zf,Zg,Zh,Zi,Zj,Zk,Zl,Try.underlying4,Try.cs4,Try.bt4,Try.pa4,Try.ty4,Try.zr4,Try.underlying5,Try.cs5,Try.bt5,Try.pa5,Try.zr5,Try.underlying22,Try.cs22,Try.bt22,Try.pa22,Try.zr22,Try.underlying46,Try.cs46,Try.bt46,Try.pa46,Try.ty46,Try.sl46,Try.zr46,Try.underlying51,Try.cs51,Try.bt51,Try.pa51,Try.ty51,Try.zr51,Try.pl51,Try.fd51_0,Try.underlying75,Try.cs75,Try.bt75,Try.pa75,Try.ty75,Try.zr75,Try.underlying91,Try.cs91,Try.bt91,Try.pa91,Try.zr91]
    exact hput

end Go.Proofs
