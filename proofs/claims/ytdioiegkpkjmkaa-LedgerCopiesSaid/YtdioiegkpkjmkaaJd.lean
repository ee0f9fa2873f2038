/-
  The ledger: the merge of two sorted runs; contract.
-/
import Derived.Test.YtdioiegkpkjmkaaJc
import Derived.Test.YtdioiegkpkjmkaaAbsG
namespace Go.Proofs
open Go.Pa
open Go.Pa renaming VB0 → Q0, VB1 → Q1, VB2 → Q2, VB3 → Q3, VB4 → Q4, VB5 → Q5, VB6 → Q6, VB7 → Q7, VB8 → Q8, VB9 → Q9, condV_bool → Qa, guardV_bool → Qb, vcS → Qc, evA → Qd, evBin → Qe, nilA → Qf, nilOf → Qg, intOp → Qh, strOp → Qi, evUn → Qj, evConv → Qk, evField → Ql, evFieldAddr → Qm, evIndexAddr → Qn, evIndex → Qo, evIndexA → Qp, bnd → Qq, evSlice → Qr, evLen → Qs, evPick → Qt, evExtract → Qu, evNilCheck → Qv, evMin → Qw, evMax → Qx, evLoadI → Qy, partsOne → QA, intsOf → QB, rowsAV → QC, evBuildSlice → QD, evBuild → QE, fillA → QF, splice → QG, evBuiltin → QH, guardD_bool → QI, dOp → QJ, cl → QK, vcLoad → QL, vcStore → QM, vcMake → QN, convA → QO, evIndexArr → QP, retA → QQ, ressA → QR, resA → QS, envOf → QT, condR_bool → QX, asgEnv → QY, parEnv → QZ, dstAt → XI, vcLook → XT, vcPut → XU, vcEnt → XV, vcESt → XW, vcMLen → XX, vcDel → XY, vcClear → XZ, vcLookD → Y0
open Go.Pa.AV renaming cell → Qz
open Go.Pa.Env renaming put → QU
open List renaming set_cons_zero → QV, set_cons_succ → QW, foldl_cons → X0, foldl_nil → X1, map_cons → X2, map_nil → X3, toList_toArray → X4, getElem?_cons_zero → X5, getElem?_cons_succ → X6, nil_append → Xa, append_nil → Xb, cons_append → Xc, singleton_append → Xd, length_cons → Xe, length_nil → Xf, all_cons → Xg, all_nil → Xh, take_succ_cons → Xi, take_zero → Xj, take_nil → Xk, drop_zero → Xl, drop_succ_cons → Xm, drop_nil → Xn, contains_nil → Xo, contains_cons → Xp
open Option renaming bind_some → X7, map_some → X8, map_none → X9
open Bool renaming or_false → Xq, false_or → Xr, or_true → Xs, true_or → Xt, false_eq_true → XC, not_true → XD, not_false → XE, and_true → XF, true_and → XG, and_self → XH
open Nat renaming reduceEqDiff → Xu, reduceAdd → Xv, reduceSub → Xw, reduceMul → Xx, reduceLT → Xy, reduceLeDiff → Xz, reduceBNe → XA, reduceBEq → XB, zero_add → XL, add_zero → XM
open UInt8 renaming reduceToNat → XJ
open Int renaming cast_ofNat_Int → XK, reduceToNat → XN, reduceLT → XO, reduceLE → XP, reduceNeg → XQ, reduceEq → XR, reduceNe → XS
set_option linter.unusedSimpArgs false
set_option linter.unusedVariables false
set_option maxRecDepth 20000
set_option maxHeartbeats 4000000

theorem awp_subJ {P : Program} {N : Nat} {c : Code} {K : Exit → Env → Store → Prop} {e : Env} {s : Store} (e' : Env) (he : e'.sub e) (h : AWp P N c K e' s) : AWp P N c K e s :=
  fun G0 G a w hg hr hw => h G0 G a w hg (hr.sub he) hw

/-- Where two sorted runs are cut, so that what is left of the cuts is below what is right of them. -/
theorem cut_ok {x1 x2 y1 y2 : List Ent} (hX : Srt (x1 ++ x2)) (hY : Srt (y1 ++ y2)) (h1 : ∀ a ∈ x1, ∀ b ∈ y2, a.day ≤ b.day) (h2 : ∀ b ∈ y1, ∀ a ∈ x2, b.day ≤ a.day) {zs zt : List Ent}
    (p1 : zs.Perm (x1 ++ y1)) (p2 : zt.Perm (x2 ++ y2)) (s1 : Srt zs) (s2 : Srt zt) : Srt (zs ++ zt) := by
  unfold Srt at *
  have hx := (List.pairwise_append.1 hX).2.2
  have hy := (List.pairwise_append.1 hY).2.2
  refine List.pairwise_append.2 ⟨s1, s2, fun a ha b hb => ?_⟩
  have ha := p1.subset ha
  have hb := p2.subset hb
  rcases List.mem_append.1 ha with ha | ha <;> rcases List.mem_append.1 hb with hb | hb
  · exact hx a ha b hb
  · exact h1 a ha b hb
  · exact h2 a ha b hb
  · exact hy a ha b hb

theorem srt_all {S T : List Ent} (hS : Srt S) (hT : Srt T) {i j : Nat} (hi : i < S.length) (hj : j < T.length) (h : (S.getD i default).day ≤ (T.getD j default).day) : ∀ a ∈ S.take (i + 1), ∀ b ∈ T.drop j, a.day ≤ b.day := by
  intro a ha b hb
  obtain ⟨u, hu, rfl⟩ := List.getElem_of_mem ha
  obtain ⟨v, hv, rfl⟩ := List.getElem_of_mem hb
  rw [List.length_take] at hu
  rw [List.length_drop] at hv
  rw [List.getElem_take, List.getElem_drop]
  have h1 := srt_le hS hi (i := u) (by omega)
  have h2 := srt_le hT (i := j) (j := j + v) (by omega) (by omega)
  rw [getD_get (by omega)] at h1
  rw [getD_get (by omega : j + v < T.length)] at h2
  omega

theorem c_sym (k : Nat) : ∀ (A X Y B : List Ent) {L : List Ent} (hL : L = A ++ X ++ Y ++ B) (hXn : X ≠ []) (hYn : Y ≠ []) (hk : X.length + Y.length ≤ k) (hl : L.length ≤ 1000000) (hD : ∀ e ∈ L, Day e) (hX : Srt X) (hY : Srt Y) {n : Nat} {a m b : Int} (h1 : n = L.length)
    (h2 : a = A.length) (h3 : m = (A.length + X.length : Nat)) (h4 : b = (A.length + X.length + Y.length : Nat)) (σ : Store) (id : Nat) (h0 : σ[id]? = some (rowsE L)),
    ACalls Try.prog 66 [.mvec id 0 n 6, .int .i64 a, .int .i64 m, .int .i64 b, cmpV] σ
      (fun r s => ∃ Z, Z.Perm (X ++ Y) ∧ Srt Z ∧ s = σ.set id (rowsE (A ++ Z ++ B))) := by
  induction k with
  | zero => intro A X Y B L _ hXn _ hk; have := List.length_pos_iff.2 hXn; omega
  | succ k ih =>
  intro A X Y B L hL hXn hYn hk hl hD hX hY n a m b h1 h2 h3 h4 σ id h0
  have lX := List.length_pos_iff.2 hXn
  have lY := List.length_pos_iff.2 hYn
  by_cases hX1 : X.length = 1
  · obtain ⟨x, rfl⟩ := List.length_eq_one_iff.1 hX1
    exact c_sym1 A Y B x hL hl hD hY h1 h2 h3 h4 σ id h0
  by_cases hY1 : Y.length = 1
  · obtain ⟨y, rfl⟩ := List.length_eq_one_iff.1 hY1
    exact c_sym2 A X B y hL hX1 hl hD hX h1 h2 h3 h4 σ id h0
  have hid : id < σ.length := (List.getElem?_eq_some_iff.1 h0).1
  have hnn : n = A.length + X.length + Y.length + B.length := by rw [h1, hL]; simp only [List.length_append]
  rw [← h1] at hl
  have hLn := h1
  clear h1
  subst h2 h3 h4
  have w1 : IntKind.i64.wrap (((A.length + X.length : Nat) : Int) - (A.length : Int)) = (X.length : Int) := by rw [wrap_i64 (by omega) (by omega)]; omega
  have w0 : IntKind.i64.wrap (((A.length + X.length + Y.length : Nat) : Int) - ((A.length + X.length : Nat) : Int)) = (Y.length : Int) := by rw [wrap_i64 (by omega) (by omega)]; omega
  have d0 : decide ((X.length : Int) = 1) = false := decide_eq_false (by omega)
  have d1 : decide ((Y.length : Int) = 1) = false := decide_eq_false (by omega)
  obtain ⟨h, hh⟩ : ∃ h, h = (X.length + Y.length) / 2 := ⟨_, rfl⟩
  have w2 : IntKind.i64.wrap ((A.length : Int) + ((A.length + X.length + Y.length : Nat) : Int)) = ((2 * A.length + (X.length + Y.length) : Nat) : Int) := by rw [wrap_i64 (by omega) (by omega)]; omega
  have w3 : IntKind.i64.wrap (ishr IntKind.u64 (IntKind.u64.wrap ((2 * A.length + (X.length + Y.length) : Nat) : Int)) 1) = ((A.length + h : Nat) : Int) := by rw [half _ (by omega)]; omega
  have w4 : IntKind.i64.wrap (((A.length + h : Nat) : Int) + ((A.length + X.length : Nat) : Int)) = ((2 * A.length + X.length + h : Nat) : Int) := by rw [wrap_i64 (by omega) (by omega)]; omega
  have w5 : IntKind.i64.wrap (((2 * A.length + X.length + h : Nat) : Int) - 1) = ((2 * A.length + X.length + h - 1 : Nat) : Int) := by rw [wrap_i64 (by omega) (by omega)]; omega
  obtain ⟨p0, hp0⟩ : ∃ p, p = h - Y.length := ⟨_, rfl⟩
  obtain ⟨r0, hr0⟩ : ∃ r, r = min h X.length := ⟨_, rfl⟩
  refine acalls_of_awp (fn := Try.f66) Try.call66 Try.func66 rfl (by simp [Try.ntmps66]) ?_
  simp only [Try.ntmps66, Try.results66]
  refine awp_seq (awp_vc (by kernel_rfl) ?_)
  simp -implicitDefEqProofs only [seqA_normal,seqA_ret,seqA_exit,w1,d0,Q0,Q1,Q2,Q3,Q4,Q5,Q6,Q7,Q8,Q9,Qa,Qb,Qc,Qd,Qe,Qf,Qg,Qh,Qi,Qj,Qk,Ql,Qm,Qn,Qo,Qp,Qq,Qr,Qs,Qt,Qu,Qv,Qw,Qx,Qy,Qz,QA,QB,QC,QD,QE,QF,QG,QH,QI,QJ,QK,QL,QM,QN,QO,QP,QQ,QR,QS,QT,QU,QV,QW,QX,QY,QZ,X0,X1,X2,X3,X4,X5,X6,X7,X8,X9,Xa,Xb,Xc,Xd,Xe,Xf,Xg,Xh,Xi,Xj,Xk,Xl,Xm,Xn,Xo,Xp,Xq,Xr,Xs,Xt,Xu,Xv,Xw,Xx,Xy,Xz,XA,XB,reduceIte,reduceCtorEq,XC,XD,XE,XF,XG,XH,XI,XJ,XK,XL,XM,XN,XO,XP,XQ,XR,XS,XT,XU,XV,XW,XX,XY,XZ,Y0,Try.q3,Try.q4,Try.q29,Try.underlying37,Try.q37,Try.q93,Try.underlying97,Try.q97]
  refine awp_seq (awp_vc (by kernel_rfl) ?_)
  simp -implicitDefEqProofs only [seqA_normal,seqA_ret,seqA_exit,w0,d1,Q0,Q1,Q2,Q3,Q4,Q5,Q6,Q7,Q8,Q9,Qa,Qb,Qc,Qd,Qe,Qf,Qg,Qh,Qi,Qj,Qk,Ql,Qm,Qn,Qo,Qp,Qq,Qr,Qs,Qt,Qu,Qv,Qw,Qx,Qy,Qz,QA,QB,QC,QD,QE,QF,QG,QH,QI,QJ,QK,QL,QM,QN,QO,QP,QQ,QR,QS,QT,QU,QV,QW,QX,QY,QZ,X0,X1,X2,X3,X4,X5,X6,X7,X8,X9,Xa,Xb,Xc,Xd,Xe,Xf,Xg,Xh,Xi,Xj,Xk,Xl,Xm,Xn,Xo,Xp,Xq,Xr,Xs,Xt,Xu,Xv,Xw,Xx,Xy,Xz,XA,XB,reduceIte,reduceCtorEq,XC,XD,XE,XF,XG,XH,XI,XJ,XK,XL,XM,XN,XO,XP,XQ,XR,XS,XT,XU,XV,XW,XX,XY,XZ,Y0,Try.q3,Try.q4,Try.q29,Try.underlying37,Try.q37,Try.q93,Try.underlying97,Try.q97]
  refine awp_seq (awp_vc (by kernel_rfl) ?_)
  simp -implicitDefEqProofs only [seqA_normal,seqA_ret,seqA_exit,w2,w3,Q0,Q1,Q2,Q3,Q4,Q5,Q6,Q7,Q8,Q9,Qa,Qb,Qc,Qd,Qe,Qf,Qg,Qh,Qi,Qj,Qk,Ql,Qm,Qn,Qo,Qp,Qq,Qr,Qs,Qt,Qu,Qv,Qw,Qx,Qy,Qz,QA,QB,QC,QD,QE,QF,QG,QH,QI,QJ,QK,QL,QM,QN,QO,QP,QQ,QR,QS,QT,QU,QV,QW,QX,QY,QZ,X0,X1,X2,X3,X4,X5,X6,X7,X8,X9,Xa,Xb,Xc,Xd,Xe,Xf,Xg,Xh,Xi,Xj,Xk,Xl,Xm,Xn,Xo,Xp,Xq,Xr,Xs,Xt,Xu,Xv,Xw,Xx,Xy,Xz,XA,XB,reduceIte,reduceCtorEq,XC,XD,XE,XF,XG,XH,XI,XJ,XK,XL,XM,XN,XO,XP,XQ,XR,XS,XT,XU,XV,XW,XX,XY,XZ,Y0,Try.q3,Try.q4,Try.q29,Try.underlying37,Try.q37,Try.q93,Try.underlying97,Try.q97]
  refine awp_seq (awp_vc (by kernel_rfl) ?_)
  simp -implicitDefEqProofs only [seqA_normal,seqA_ret,seqA_exit,w4,Q0,Q1,Q2,Q3,Q4,Q5,Q6,Q7,Q8,Q9,Qa,Qb,Qc,Qd,Qe,Qf,Qg,Qh,Qi,Qj,Qk,Ql,Qm,Qn,Qo,Qp,Qq,Qr,Qs,Qt,Qu,Qv,Qw,Qx,Qy,Qz,QA,QB,QC,QD,QE,QF,QG,QH,QI,QJ,QK,QL,QM,QN,QO,QP,QQ,QR,QS,QT,QU,QV,QW,QX,QY,QZ,X0,X1,X2,X3,X4,X5,X6,X7,X8,X9,Xa,Xb,Xc,Xd,Xe,Xf,Xg,Xh,Xi,Xj,Xk,Xl,Xm,Xn,Xo,Xp,Xq,Xr,Xs,Xt,Xu,Xv,Xw,Xx,Xy,Xz,XA,XB,reduceIte,reduceCtorEq,XC,XD,XE,XF,XG,XH,XI,XJ,XK,XL,XM,XN,XO,XP,XQ,XR,XS,XT,XU,XV,XW,XX,XY,XZ,Y0,Try.q3,Try.q4,Try.q29,Try.underlying37,Try.q37,Try.q93,Try.underlying97,Try.q97]
  refine awp_seq (awp_vc (by kernel_rfl) ?_)
  simp -implicitDefEqProofs only [seqA_normal,seqA_ret,seqA_exit,Q0,Q1,Q2,Q3,Q4,Q5,Q6,Q7,Q8,Q9,Qa,Qb,Qc,Qd,Qe,Qf,Qg,Qh,Qi,Qj,Qk,Ql,Qm,Qn,Qo,Qp,Qq,Qr,Qs,Qt,Qu,Qv,Qw,Qx,Qy,Qz,QA,QB,QC,QD,QE,QF,QG,QH,QI,QJ,QK,QL,QM,QN,QO,QP,QQ,QR,QS,QT,QU,QV,QW,QX,QY,QZ,X0,X1,X2,X3,X4,X5,X6,X7,X8,X9,Xa,Xb,Xc,Xd,Xe,Xf,Xg,Xh,Xi,Xj,Xk,Xl,Xm,Xn,Xo,Xp,Xq,Xr,Xs,Xt,Xu,Xv,Xw,Xx,Xy,Xz,XA,XB,reduceIte,reduceCtorEq,XC,XD,XE,XF,XG,XH,XI,XJ,XK,XL,XM,XN,XO,XP,XQ,XR,XS,XT,XU,XV,XW,XX,XY,XZ,Y0,Try.q3,Try.q4,Try.q29,Try.underlying37,Try.q37,Try.q93,Try.underlying97,Try.q97]
  refine awp_cutK (fun e' s' => s' = σ ∧ Env.sub [(20, .int .i64 (A.length + p0 : Nat)), (21, .int .i64 (A.length + r0 : Nat)), (18, .int .i64 (A.length + h : Nat)), (19, .int .i64 (2 * A.length + X.length + h : Nat)), (0, .mvec id 0 n 6), (1, .int .i64 A.length), (2, .int .i64 (A.length + X.length : Nat)), (3, .int .i64 (A.length + X.length + Y.length : Nat)), (4, cmpV)] e') ?_ ?_
  · refine awp_vc (by kernel_rfl) ?_
    by_cases hc : h < X.length
    · have d2 : decide (((A.length + h : Nat) : Int) < ((A.length + X.length : Nat) : Int)) = true := decide_eq_true (by omega)
      have w6 : IntKind.i64.wrap (((2 * A.length + X.length + h : Nat) : Int) - ((A.length + X.length + Y.length : Nat) : Int)) = ((A.length + p0 : Nat) : Int) := by rw [wrap_i64 (by omega) (by omega)]; omega
      have e1 : A.length + r0 = A.length + h := by omega
      simp -implicitDefEqProofs only [d2,w6,e1,cutK_normal,Q0,Q1,Q2,Q3,Q4,Q5,Q6,Q7,Q8,Q9,Qa,Qb,Qc,Qd,Qe,Qf,Qg,Qh,Qi,Qj,Qk,Ql,Qm,Qn,Qo,Qp,Qq,Qr,Qs,Qt,Qu,Qv,Qw,Qx,Qy,Qz,QA,QB,QC,QD,QE,QF,QG,QH,QI,QJ,QK,QL,QM,QN,QO,QP,QQ,QR,QS,QT,QU,QV,QW,QX,QY,QZ,X0,X1,X2,X3,X4,X5,X6,X7,X8,X9,Xa,Xb,Xc,Xd,Xe,Xf,Xg,Xh,Xi,Xj,Xk,Xl,Xm,Xn,Xo,Xp,Xq,Xr,Xs,Xt,Xu,Xv,Xw,Xx,Xy,Xz,XA,XB,reduceIte,reduceCtorEq,XC,XD,XE,XF,XG,XH,XI,XJ,XK,XL,XM,XN,XO,XP,XQ,XR,XS,XT,XU,XV,XW,XX,XY,XZ,Y0,Try.q3,Try.q4,Try.q29,Try.underlying37,Try.q37,Try.q93,Try.underlying97,Try.q97]
    · have d2 : decide (((A.length + h : Nat) : Int) < ((A.length + X.length : Nat) : Int)) = false := decide_eq_false (by omega)
      have e1 : A.length + r0 = A.length + X.length := by omega
      have e2 : A.length + p0 = A.length := by omega
      simp -implicitDefEqProofs only [d2,e1,e2,cutK_normal,Q0,Q1,Q2,Q3,Q4,Q5,Q6,Q7,Q8,Q9,Qa,Qb,Qc,Qd,Qe,Qf,Qg,Qh,Qi,Qj,Qk,Ql,Qm,Qn,Qo,Qp,Qq,Qr,Qs,Qt,Qu,Qv,Qw,Qx,Qy,Qz,QA,QB,QC,QD,QE,QF,QG,QH,QI,QJ,QK,QL,QM,QN,QO,QP,QQ,QR,QS,QT,QU,QV,QW,QX,QY,QZ,X0,X1,X2,X3,X4,X5,X6,X7,X8,X9,Xa,Xb,Xc,Xd,Xe,Xf,Xg,Xh,Xi,Xj,Xk,Xl,Xm,Xn,Xo,Xp,Xq,Xr,Xs,Xt,Xu,Xv,Xw,Xx,Xy,Xz,XA,XB,reduceIte,reduceCtorEq,XC,XD,XE,XF,XG,XH,XI,XJ,XK,XL,XM,XN,XO,XP,XQ,XR,XS,XT,XU,XV,XW,XX,XY,XZ,Y0,Try.q3,Try.q4,Try.q29,Try.underlying37,Try.q37,Try.q93,Try.underlying97,Try.q97]
  rintro e' s' ⟨rfl, he⟩
  refine awp_subJ _ he ?_
  clear he e'
  refine awp_seq (awp_vc (by kernel_rfl) ?_)
  simp -implicitDefEqProofs only [seqA_normal,seqA_ret,seqA_exit,w5,Q0,Q1,Q2,Q3,Q4,Q5,Q6,Q7,Q8,Q9,Qa,Qb,Qc,Qd,Qe,Qf,Qg,Qh,Qi,Qj,Qk,Ql,Qm,Qn,Qo,Qp,Qq,Qr,Qs,Qt,Qu,Qv,Qw,Qx,Qy,Qz,QA,QB,QC,QD,QE,QF,QG,QH,QI,QJ,QK,QL,QM,QN,QO,QP,QQ,QR,QS,QT,QU,QV,QW,QX,QY,QZ,X0,X1,X2,X3,X4,X5,X6,X7,X8,X9,Xa,Xb,Xc,Xd,Xe,Xf,Xg,Xh,Xi,Xj,Xk,Xl,Xm,Xn,Xo,Xp,Xq,Xr,Xs,Xt,Xu,Xv,Xw,Xx,Xy,Xz,XA,XB,reduceIte,reduceCtorEq,XC,XD,XE,XF,XG,XH,XI,XJ,XK,XL,XM,XN,XO,XP,XQ,XR,XS,XT,XU,XV,XW,XX,XY,XZ,Y0,Try.q3,Try.q4,Try.q29,Try.underlying37,Try.q37,Try.q93,Try.underlying97,Try.q97]
  refine awp_cutK (fun e' s => s = s' ∧ ∃ p, p ≤ h ∧ p ≤ X.length ∧ h - p ≤ Y.length ∧ (∀ a ∈ X.take p, ∀ b ∈ Y.drop (h - p), a.day ≤ b.day) ∧ (∀ b ∈ Y.take (h - p), ∀ a ∈ X.drop p, b.day ≤ a.day) ∧
    Env.sub [(20, .int .i64 (A.length + p : Nat)), (18, .int .i64 (A.length + h : Nat)), (19, .int .i64 (2 * A.length + X.length + h : Nat)), (0, .mvec id 0 n 6), (1, .int .i64 A.length), (2, .int .i64 (A.length + X.length : Nat)), (3, .int .i64 (A.length + X.length + Y.length : Nat)), (4, cmpV)] e') ?_ ?_
  · refine awp_blk ?_
    refine awp_loopW (fun z : Nat × Nat => [(20, .int .i64 (A.length + z.1 : Nat)), (21, .int .i64 (A.length + z.2 : Nat)), (22, .int .i64 (2 * A.length + X.length + h - 1 : Nat)), (18, .int .i64 (A.length + h : Nat)), (19, .int .i64 (2 * A.length + X.length + h : Nat)), (0, .mvec id 0 n 6), (1, .int .i64 A.length), (2, .int .i64 (A.length + X.length : Nat)), (3, .int .i64 (A.length + X.length + Y.length : Nat)), (4, cmpV)])
      (fun z s => s = s' ∧ p0 ≤ z.1 ∧ z.1 ≤ z.2 ∧ z.2 ≤ r0 ∧ (∀ t, p0 ≤ t → t < z.1 → (X.getD t default).day ≤ (Y.getD (h - 1 - t) default).day) ∧ (∀ t, z.2 ≤ t → t < r0 → (Y.getD (h - 1 - t) default).day ≤ (X.getD t default).day))
      (fun z => z.2 - z.1) (p0, r0) (by simp [sub_cons, sub_nil, get_cons]) ⟨rfl, by simp, by simp only; omega, by simp, fun t ht1 ht2 => absurd ht1 (Nat.not_le.2 ht2), fun t ht1 ht2 => absurd ht1 (Nat.not_le.2 ht2)⟩ ?_
    rintro ⟨p, r⟩ s ⟨rfl, hp, hpr, hr, hlo, hhi⟩
    simp only at hp hpr hr hlo hhi
    by_cases hlt : p < r
    · have d2 : decide (((A.length + p : Nat) : Int) < ((A.length + r : Nat) : Int)) = true := decide_eq_true (by omega)
      have w6 : IntKind.i64.wrap (((A.length + p : Nat) : Int) + ((A.length + r : Nat) : Int)) = ((2 * A.length + (p + r) : Nat) : Int) := by rw [wrap_i64 (by omega) (by omega)]; omega
      obtain ⟨c, hc⟩ : ∃ c, c = (p + r) / 2 := ⟨_, rfl⟩
      have w7 : IntKind.i64.wrap (ishr IntKind.u64 (IntKind.u64.wrap ((2 * A.length + (p + r) : Nat) : Int)) 1) = ((A.length + c : Nat) : Int) := by rw [half _ (by omega)]; omega
      have hc1 : p ≤ c := by omega
      have hc2 : c < r := by omega
      have hcX : c < X.length := by omega
      have hcY : h - 1 - c < Y.length := by omega
      have w8 : IntKind.i64.wrap (((2 * A.length + X.length + h - 1 : Nat) : Int) - ((A.length + c : Nat) : Int)) = ((A.length + X.length + (h - 1 - c) : Nat) : Int) := by rw [wrap_i64 (by omega) (by omega)]; omega
      have g1 : (L.map entA).getD ((A.length + X.length + (h - 1 - c) : Nat) : Int).toNat [] = entA (Y.getD (h - 1 - c) default) := by
        rw [Int.toNat_natCast, hL]
        exact row_mid (A ++ X) Y B hcY (by rw [List.length_append])
      have g2 : (L.map entA).getD ((A.length + c : Nat) : Int).toNat [] = entA (X.getD c default) := by
        rw [Int.toNat_natCast, hL, List.append_assoc (A ++ X)]
        exact row_mid A X (Y ++ B) hcX rfl
      have gl : (L.map entA).length = n := by rw [List.length_map, hLn]
      have kc := c_cmp (Y.getD (h - 1 - c) default) (X.getD c default) (hD _ (by rw [hL]; exact List.mem_append_left _ (List.mem_append_right _ (getD_mem hcY)))) (hD _ (by rw [hL]; exact List.mem_append_left _ (List.mem_append_left _ (List.mem_append_right _ (getD_mem hcX)))))
      have hmx := fun t (ht : t ≤ c) => srt_le hX hcX ht
      have hmx2 := fun t (ht : c ≤ t) (ht2 : t < X.length) => srt_le hX ht2 ht
      have hmy := fun t (ht : t ≤ h - 1 - c) => srt_le hY hcY ht
      have hmy2 := fun t (ht : h - 1 - c ≤ t) (ht2 : t < Y.length) => srt_le hY ht2 ht
      generalize hyv : Y.getD (h - 1 - c) default = y at *
      generalize hxv : X.getD c default = x at *
      have hg : s[id]? = some (.vecR 6 (L.map entA)) := h0
      generalize L.map entA = RS at *
      have wh : IntKind.i64.wrap (((A.length + c : Nat) : Int) + 1) = ((A.length + (c + 1) : Nat) : Int) := by rw [wrap_i64 (by omega) (by omega)]; omega
      refine awp_vc (by kernel_rfl) ?_
      simp -implicitDefEqProofs only [d2,Q0,Q1,Q2,Q3,Q4,Q5,Q6,Q7,Q8,Q9,Qa,Qb,Qc,Qd,Qe,Qf,Qg,Qh,Qi,Qj,Qk,Ql,Qm,Qn,Qo,Qp,Qq,Qr,Qs,Qt,Qu,Qv,Qw,Qx,Qy,Qz,QA,QB,QC,QD,QE,QF,QG,QH,QI,QJ,QK,QL,QM,QN,QO,QP,QQ,QR,QS,QT,QU,QV,QW,QX,QY,QZ,X0,X1,X2,X3,X4,X5,X6,X7,X8,X9,Xa,Xb,Xc,Xd,Xe,Xf,Xg,Xh,Xi,Xj,Xk,Xl,Xm,Xn,Xo,Xp,Xq,Xr,Xs,Xt,Xu,Xv,Xw,Xx,Xy,Xz,XA,XB,reduceIte,reduceCtorEq,XC,XD,XE,XF,XG,XH,XI,XJ,XK,XL,XM,XN,XO,XP,XQ,XR,XS,XT,XU,XV,XW,XX,XY,XZ,Y0,Try.q3,Try.q4,Try.q29,Try.underlying37,Try.q37,Try.q93,Try.underlying97,Try.q97]
      refine awp_draws [] Try.mixed (by kernel_rfl) ?_
      simp -implicitDefEqProofs only [w6,w7,w8,hg,g1,g2,gl,entA_take,entA_six,entA_all,Q0,Q1,Q2,Q3,Q4,Q5,Q6,Q7,Q8,Q9,Qa,Qb,Qc,Qd,Qe,Qf,Qg,Qh,Qi,Qj,Qk,Ql,Qm,Qn,Qo,Qp,Qq,Qr,Qs,Qt,Qu,Qv,Qw,Qx,Qy,Qz,QA,QB,QC,QD,QE,QF,QG,QH,QI,QJ,QK,QL,QM,QN,QO,QP,QQ,QR,QS,QT,QU,QV,QW,QX,QY,QZ,X0,X1,X2,X3,X4,X5,X6,X7,X8,X9,Xa,Xb,Xc,Xd,Xe,Xf,Xg,Xh,Xi,Xj,Xk,Xl,Xm,Xn,Xo,Xp,Xq,Xr,Xs,Xt,Xu,Xv,Xw,Xx,Xy,Xz,XA,XB,reduceIte,reduceCtorEq,XC,XD,XE,XF,XG,XH,XI,XJ,XK,XL,XM,XN,XO,XP,XQ,XR,XS,XT,XU,XV,XW,XX,XY,XZ,Y0,Try.q3,Try.q4,Try.q29,Try.underlying37,Try.q37,Try.q93,Try.underlying97,Try.q97]
      refine ⟨by omega, by omega, by omega, by omega, ?_⟩
      by_cases hyx : y.day < x.day
      · have d3 : decide (y.day - x.day < 0) = true := decide_eq_true (by omega)
        refine dCall_of (kc _) (by decide) ?_
        simp -implicitDefEqProofs only [d3,Q0,Q1,Q2,Q3,Q4,Q5,Q6,Q7,Q8,Q9,Qa,Qb,Qc,Qd,Qe,Qf,Qg,Qh,Qi,Qj,Qk,Ql,Qm,Qn,Qo,Qp,Qq,Qr,Qs,Qt,Qu,Qv,Qw,Qx,Qy,Qz,QA,QB,QC,QD,QE,QF,QG,QH,QI,QJ,QK,QL,QM,QN,QO,QP,QQ,QR,QS,QT,QU,QV,QW,QX,QY,QZ,X0,X1,X2,X3,X4,X5,X6,X7,X8,X9,Xa,Xb,Xc,Xd,Xe,Xf,Xg,Xh,Xi,Xj,Xk,Xl,Xm,Xn,Xo,Xp,Xq,Xr,Xs,Xt,Xu,Xv,Xw,Xx,Xy,Xz,XA,XB,reduceIte,reduceCtorEq,XC,XD,XE,XF,XG,XH,XI,XJ,XK,XL,XM,XN,XO,XP,XQ,XR,XS,XT,XU,XV,XW,XX,XY,XZ,Y0,Try.q3,Try.q4,Try.q29,Try.underlying37,Try.q37,Try.q93,Try.underlying97,Try.q97]
        refine ⟨(p, c), by simp, ⟨hp, hc1, by simp only; omega, hlo, fun t ht ht2 => ?_⟩, by simp only; omega⟩
        have a1 := hmx2 t ht (by omega)
        have a2 := hmy (h - 1 - t) (by simp only at ht; omega)
        omega
      · have d3 : decide (y.day - x.day < 0) = false := decide_eq_false (by omega)
        refine dCall_of (kc _) (by decide) ?_
        simp -implicitDefEqProofs only [d3,wh,Q0,Q1,Q2,Q3,Q4,Q5,Q6,Q7,Q8,Q9,Qa,Qb,Qc,Qd,Qe,Qf,Qg,Qh,Qi,Qj,Qk,Ql,Qm,Qn,Qo,Qp,Qq,Qr,Qs,Qt,Qu,Qv,Qw,Qx,Qy,Qz,QA,QB,QC,QD,QE,QF,QG,QH,QI,QJ,QK,QL,QM,QN,QO,QP,QQ,QR,QS,QT,QU,QV,QW,QX,QY,QZ,X0,X1,X2,X3,X4,X5,X6,X7,X8,X9,Xa,Xb,Xc,Xd,Xe,Xf,Xg,Xh,Xi,Xj,Xk,Xl,Xm,Xn,Xo,Xp,Xq,Xr,Xs,Xt,Xu,Xv,Xw,Xx,Xy,Xz,XA,XB,reduceIte,reduceCtorEq,XC,XD,XE,XF,XG,XH,XI,XJ,XK,XL,XM,XN,XO,XP,XQ,XR,XS,XT,XU,XV,XW,XX,XY,XZ,Y0,Try.q3,Try.q4,Try.q29,Try.underlying37,Try.q37,Try.q93,Try.underlying97,Try.q97]
        refine ⟨(c + 1, r), by simp, ⟨by simp only; omega, by simp only; omega, hr, fun t ht ht2 => ?_, hhi⟩, by simp only; omega⟩
        simp only at ht2
        have a1 := hmx t (by omega)
        have a2 := hmy2 (h - 1 - t) (by omega) (by omega)
        omega
    · have d2 : decide (((A.length + p : Nat) : Int) < ((A.length + r : Nat) : Int)) = false := decide_eq_false (by omega)
      have : p = r := by omega
      subst this
      refine awp_vc (by kernel_rfl) ?_
      simp -implicitDefEqProofs only [d2,cutK_normal,Q0,Q1,Q2,Q3,Q4,Q5,Q6,Q7,Q8,Q9,Qa,Qb,Qc,Qd,Qe,Qf,Qg,Qh,Qi,Qj,Qk,Ql,Qm,Qn,Qo,Qp,Qq,Qr,Qs,Qt,Qu,Qv,Qw,Qx,Qy,Qz,QA,QB,QC,QD,QE,QF,QG,QH,QI,QJ,QK,QL,QM,QN,QO,QP,QQ,QR,QS,QT,QU,QV,QW,QX,QY,QZ,X0,X1,X2,X3,X4,X5,X6,X7,X8,X9,Xa,Xb,Xc,Xd,Xe,Xf,Xg,Xh,Xi,Xj,Xk,Xl,Xm,Xn,Xo,Xp,Xq,Xr,Xs,Xt,Xu,Xv,Xw,Xx,Xy,Xz,XA,XB,reduceIte,reduceCtorEq,XC,XD,XE,XF,XG,XH,XI,XJ,XK,XL,XM,XN,XO,XP,XQ,XR,XS,XT,XU,XV,XW,XX,XY,XZ,Y0,Try.q3,Try.q4,Try.q29,Try.underlying37,Try.q37,Try.q93,Try.underlying97,Try.q97]
      refine ⟨p, by omega, by omega, by omega, ?_, ?_, by simp [sub_cons, sub_nil, get_cons]⟩
      · intro a ha b hb
        rcases Nat.lt_or_ge p0 p with h1 | h1
        · obtain ⟨q, rfl⟩ : ∃ q, p = q + 1 := ⟨p - 1, by omega⟩
          have h2 := hlo q (by omega) (by omega)
          rw [show h - 1 - q = h - (q + 1) by omega] at h2
          by_cases hy : h - (q + 1) < Y.length
          · exact srt_all hX hY (by omega) hy h2 a ha b hb
          · rw [List.drop_eq_nil_of_le (by omega)] at hb; cases hb
        · by_cases hp00 : p = 0
          · subst hp00; simp at ha
          · rw [List.drop_eq_nil_of_le (by omega)] at hb; cases hb
      · intro b hb a ha
        by_cases h1 : p < r0
        · have h2 := hhi p (Nat.le_refl _) h1
          obtain ⟨q, hq⟩ : ∃ q, h - p = q + 1 := ⟨h - p - 1, by omega⟩
          rw [hq] at hb
          rw [show h - 1 - p = q by omega] at h2
          exact srt_all hY hX (by omega) (by omega) h2 b hb a ha
        · by_cases h3 : h = p
          · subst h3; simp at hb
          · rw [List.drop_eq_nil_of_le (by omega)] at ha; cases ha
  rintro e' s ⟨rfl, p, hp, hpX, hpY, hc1, hc2, he⟩
  refine awp_subJ _ he ?_
  clear he e'
  obtain ⟨q, hq⟩ : ∃ q, q = h - p := ⟨_, rfl⟩
  rw [← hq] at hpY hc1 hc2
  have eX := (List.take_append_drop p X).symm
  have eY := (List.take_append_drop q Y).symm
  have l1 : (X.take p).length = p := by rw [List.length_take]; omega
  have l2 : (X.drop p).length = X.length - p := List.length_drop
  have l3 : (Y.take q).length = q := by rw [List.length_take]; omega
  have l4 : (Y.drop q).length = Y.length - q := List.length_drop
  generalize X.take p = x1 at *
  generalize X.drop p = x2 at *
  generalize Y.take q = y1 at *
  generalize Y.drop q = y2 at *
  have w6 : IntKind.i64.wrap (((2 * A.length + X.length + h : Nat) : Int) - ((A.length + p : Nat) : Int)) = ((A.length + X.length + q : Nat) : Int) := by rw [wrap_i64 (by omega) (by omega)]; omega
  refine awp_seq (awp_vc (by kernel_rfl) ?_)
  simp -implicitDefEqProofs only [seqA_normal,seqA_ret,seqA_exit,w6,Q0,Q1,Q2,Q3,Q4,Q5,Q6,Q7,Q8,Q9,Qa,Qb,Qc,Qd,Qe,Qf,Qg,Qh,Qi,Qj,Qk,Ql,Qm,Qn,Qo,Qp,Qq,Qr,Qs,Qt,Qu,Qv,Qw,Qx,Qy,Qz,QA,QB,QC,QD,QE,QF,QG,QH,QI,QJ,QK,QL,QM,QN,QO,QP,QQ,QR,QS,QT,QU,QV,QW,QX,QY,QZ,X0,X1,X2,X3,X4,X5,X6,X7,X8,X9,Xa,Xb,Xc,Xd,Xe,Xf,Xg,Xh,Xi,Xj,Xk,Xl,Xm,Xn,Xo,Xp,Xq,Xr,Xs,Xt,Xu,Xv,Xw,Xx,Xy,Xz,XA,XB,reduceIte,reduceCtorEq,XC,XD,XE,XF,XG,XH,XI,XJ,XK,XL,XM,XN,XO,XP,XQ,XR,XS,XT,XU,XV,XW,XX,XY,XZ,Y0,Try.q3,Try.q4,Try.q29,Try.underlying37,Try.q37,Try.q93,Try.underlying97,Try.q97]
  refine awp_cutK (fun e' s' => s' = s.set id (rowsE (A ++ x1 ++ y1 ++ x2 ++ y2 ++ B)) ∧
    Env.sub [(20, .int .i64 (A.length + p : Nat)), (24, .int .i64 (A.length + X.length + q : Nat)), (18, .int .i64 (A.length + h : Nat)), (0, .mvec id 0 n 6), (1, .int .i64 A.length), (3, .int .i64 (A.length + X.length + Y.length : Nat)), (4, cmpV)] e') ?_ ?_
  · refine awp_vc (by kernel_rfl) ?_
    by_cases c1 : x2 = [] ∨ y1 = []
    · have e1 : s = s.set id (rowsE (A ++ x1 ++ y1 ++ x2 ++ y2 ++ B)) := by
        rw [hL, eX, eY] at h0
        refine (set_same ?_).symm
        rw [h0]
        rcases c1 with rfl | rfl <;> simp
      by_cases d2 : p < X.length
      · have d3 : decide (((A.length + p : Nat) : Int) < ((A.length + X.length : Nat) : Int)) = true := decide_eq_true (by omega)
        have d4 : decide (((A.length + X.length : Nat) : Int) < ((A.length + X.length + q : Nat) : Int)) = false := decide_eq_false (by
          rcases c1 with rfl | rfl
          · simp at l2; omega
          · simp at l3; omega)
        simp -implicitDefEqProofs only [d3,d4,cutK_normal,Q0,Q1,Q2,Q3,Q4,Q5,Q6,Q7,Q8,Q9,Qa,Qb,Qc,Qd,Qe,Qf,Qg,Qh,Qi,Qj,Qk,Ql,Qm,Qn,Qo,Qp,Qq,Qr,Qs,Qt,Qu,Qv,Qw,Qx,Qy,Qz,QA,QB,QC,QD,QE,QF,QG,QH,QI,QJ,QK,QL,QM,QN,QO,QP,QQ,QR,QS,QT,QU,QV,QW,QX,QY,QZ,X0,X1,X2,X3,X4,X5,X6,X7,X8,X9,Xa,Xb,Xc,Xd,Xe,Xf,Xg,Xh,Xi,Xj,Xk,Xl,Xm,Xn,Xo,Xp,Xq,Xr,Xs,Xt,Xu,Xv,Xw,Xx,Xy,Xz,XA,XB,reduceIte,reduceCtorEq,XC,XD,XE,XF,XG,XH,XI,XJ,XK,XL,XM,XN,XO,XP,XQ,XR,XS,XT,XU,XV,XW,XX,XY,XZ,Y0,Try.q3,Try.q4,Try.q29,Try.underlying37,Try.q37,Try.q93,Try.underlying97,Try.q97]
        exact e1
      · have d3 : decide (((A.length + p : Nat) : Int) < ((A.length + X.length : Nat) : Int)) = false := decide_eq_false (by omega)
        simp -implicitDefEqProofs only [d3,cutK_normal,Q0,Q1,Q2,Q3,Q4,Q5,Q6,Q7,Q8,Q9,Qa,Qb,Qc,Qd,Qe,Qf,Qg,Qh,Qi,Qj,Qk,Ql,Qm,Qn,Qo,Qp,Qq,Qr,Qs,Qt,Qu,Qv,Qw,Qx,Qy,Qz,QA,QB,QC,QD,QE,QF,QG,QH,QI,QJ,QK,QL,QM,QN,QO,QP,QQ,QR,QS,QT,QU,QV,QW,QX,QY,QZ,X0,X1,X2,X3,X4,X5,X6,X7,X8,X9,Xa,Xb,Xc,Xd,Xe,Xf,Xg,Xh,Xi,Xj,Xk,Xl,Xm,Xn,Xo,Xp,Xq,Xr,Xs,Xt,Xu,Xv,Xw,Xx,Xy,Xz,XA,XB,reduceIte,reduceCtorEq,XC,XD,XE,XF,XG,XH,XI,XJ,XK,XL,XM,XN,XO,XP,XQ,XR,XS,XT,XU,XV,XW,XX,XY,XZ,Y0,Try.q3,Try.q4,Try.q29,Try.underlying37,Try.q37,Try.q93,Try.underlying97,Try.q97]
        exact e1
    · have c2 : x2 ≠ [] ∧ y1 ≠ [] := ⟨fun h => c1 (.inl h), fun h => c1 (.inr h)⟩
      have lx := List.length_pos_iff.2 c2.1
      have ly := List.length_pos_iff.2 c2.2
      have d3 : decide (((A.length + p : Nat) : Int) < ((A.length + X.length : Nat) : Int)) = true := decide_eq_true (by omega)
      have d4 : decide (((A.length + X.length : Nat) : Int) < ((A.length + X.length + q : Nat) : Int)) = true := decide_eq_true (by omega)
      have kr := c_rot (A ++ x1) x2 y1 (y2 ++ B) c2.1 c2.2 (L := L) (by rw [hL, eX, eY]; simp) (by rw [← hLn]; exact hl) (n := n) hLn (a := (A.length + p : Nat)) (by rw [List.length_append, l1]) (m := (A.length + X.length : Nat)) (by simp only [List.length_append]; omega) (b := (A.length + X.length + q : Nat)) (by simp only [List.length_append]; omega) cmpV s id h0
      simp -implicitDefEqProofs only [d3,d4,Q0,Q1,Q2,Q3,Q4,Q5,Q6,Q7,Q8,Q9,Qa,Qb,Qc,Qd,Qe,Qf,Qg,Qh,Qi,Qj,Qk,Ql,Qm,Qn,Qo,Qp,Qq,Qr,Qs,Qt,Qu,Qv,Qw,Qx,Qy,Qz,QA,QB,QC,QD,QE,QF,QG,QH,QI,QJ,QK,QL,QM,QN,QO,QP,QQ,QR,QS,QT,QU,QV,QW,QX,QY,QZ,X0,X1,X2,X3,X4,X5,X6,X7,X8,X9,Xa,Xb,Xc,Xd,Xe,Xf,Xg,Xh,Xi,Xj,Xk,Xl,Xm,Xn,Xo,Xp,Xq,Xr,Xs,Xt,Xu,Xv,Xw,Xx,Xy,Xz,XA,XB,reduceIte,reduceCtorEq,XC,XD,XE,XF,XG,XH,XI,XJ,XK,XL,XM,XN,XO,XP,XQ,XR,XS,XT,XU,XV,XW,XX,XY,XZ,Y0,Try.q3,Try.q4,Try.q29,Try.underlying37,Try.q37,Try.q93,Try.underlying97,Try.q97]
      refine ACalls.mono kr ?_
      rintro r s2 rfl
      simp -implicitDefEqProofs only [cutK_normal,Q0,Q1,Q2,Q3,Q4,Q5,Q6,Q7,Q8,Q9,Qa,Qb,Qc,Qd,Qe,Qf,Qg,Qh,Qi,Qj,Qk,Ql,Qm,Qn,Qo,Qp,Qq,Qr,Qs,Qt,Qu,Qv,Qw,Qx,Qy,Qz,QA,QB,QC,QD,QE,QF,QG,QH,QI,QJ,QK,QL,QM,QN,QO,QP,QQ,QR,QS,QT,QU,QV,QW,QX,QY,QZ,X0,X1,X2,X3,X4,X5,X6,X7,X8,X9,Xa,Xb,Xc,Xd,Xe,Xf,Xg,Xh,Xi,Xj,Xk,Xl,Xm,Xn,Xo,Xp,Xq,Xr,Xs,Xt,Xu,Xv,Xw,Xx,Xy,Xz,XA,XB,reduceIte,reduceCtorEq,XC,XD,XE,XF,XG,XH,XI,XJ,XK,XL,XM,XN,XO,XP,XQ,XR,XS,XT,XU,XV,XW,XX,XY,XZ,Y0,Try.q3,Try.q4,Try.q29,Try.underlying37,Try.q37,Try.q93,Try.underlying97,Try.q97]
      simp only [List.append_assoc]
  rintro e' s1 ⟨hs1, he⟩
  refine awp_subJ _ he ?_
  clear he e'
  have h01 : s1[id]? = some (rowsE (A ++ x1 ++ y1 ++ x2 ++ y2 ++ B)) := by rw [hs1]; exact List.getElem?_set_self hid
  have eL : (A ++ x1 ++ y1 ++ x2 ++ y2 ++ B).length = n := by simp only [List.length_append]; omega
  have hDm : ∀ e ∈ A ++ x1 ++ y1 ++ x2 ++ y2 ++ B, Day e := by
    intro e he
    refine hD e ?_
    rw [hL, eX, eY]
    simp only [List.mem_append] at he ⊢
    rcases he with ((((h | h) | h) | h) | h) | h <;> simp [h]
  have sx1 : Srt x1 := by rw [eX] at hX; exact (List.pairwise_append.1 hX).1
  have sx2 : Srt x2 := by rw [eX] at hX; exact (List.pairwise_append.1 hX).2.1
  have sy1 : Srt y1 := by rw [eY] at hY; exact (List.pairwise_append.1 hY).1
  have sy2 : Srt y2 := by rw [eY] at hY; exact (List.pairwise_append.1 hY).2.1
  refine awp_cutK (fun e' s' => (∃ Z, Z.Perm (x1 ++ y1) ∧ Srt Z ∧ s' = s.set id (rowsE (A ++ Z ++ x2 ++ y2 ++ B))) ∧
    Env.sub [(24, .int .i64 (A.length + X.length + q : Nat)), (18, .int .i64 (A.length + h : Nat)), (0, .mvec id 0 n 6), (3, .int .i64 (A.length + X.length + Y.length : Nat)), (4, cmpV)] e') ?_ ?_
  · refine awp_vc (by kernel_rfl) ?_
    by_cases c1 : x1 = [] ∨ y1 = []
    · have e1 : ∃ Z, Z.Perm (x1 ++ y1) ∧ Srt Z ∧ s1 = s.set id (rowsE (A ++ Z ++ x2 ++ y2 ++ B)) := by
        refine ⟨x1 ++ y1, .refl _, ?_, by rw [hs1]; simp⟩
        rcases c1 with rfl | rfl
        · simpa using sy1
        · simpa using sx1
      by_cases d2 : 0 < p
      · have d3 : decide ((A.length : Int) < ((A.length + p : Nat) : Int)) = true := decide_eq_true (by omega)
        have d4 : decide (((A.length + p : Nat) : Int) < ((A.length + h : Nat) : Int)) = false := decide_eq_false (by
          rcases c1 with rfl | rfl
          · simp at l1; omega
          · simp at l3; omega)
        simp -implicitDefEqProofs only [d3,d4,cutK_normal,Q0,Q1,Q2,Q3,Q4,Q5,Q6,Q7,Q8,Q9,Qa,Qb,Qc,Qd,Qe,Qf,Qg,Qh,Qi,Qj,Qk,Ql,Qm,Qn,Qo,Qp,Qq,Qr,Qs,Qt,Qu,Qv,Qw,Qx,Qy,Qz,QA,QB,QC,QD,QE,QF,QG,QH,QI,QJ,QK,QL,QM,QN,QO,QP,QQ,QR,QS,QT,QU,QV,QW,QX,QY,QZ,X0,X1,X2,X3,X4,X5,X6,X7,X8,X9,Xa,Xb,Xc,Xd,Xe,Xf,Xg,Xh,Xi,Xj,Xk,Xl,Xm,Xn,Xo,Xp,Xq,Xr,Xs,Xt,Xu,Xv,Xw,Xx,Xy,Xz,XA,XB,reduceIte,reduceCtorEq,XC,XD,XE,XF,XG,XH,XI,XJ,XK,XL,XM,XN,XO,XP,XQ,XR,XS,XT,XU,XV,XW,XX,XY,XZ,Y0,Try.q3,Try.q4,Try.q29,Try.underlying37,Try.q37,Try.q93,Try.underlying97,Try.q97]
        exact e1
      · have d3 : decide ((A.length : Int) < ((A.length + p : Nat) : Int)) = false := decide_eq_false (by omega)
        simp -implicitDefEqProofs only [d3,cutK_normal,Q0,Q1,Q2,Q3,Q4,Q5,Q6,Q7,Q8,Q9,Qa,Qb,Qc,Qd,Qe,Qf,Qg,Qh,Qi,Qj,Qk,Ql,Qm,Qn,Qo,Qp,Qq,Qr,Qs,Qt,Qu,Qv,Qw,Qx,Qy,Qz,QA,QB,QC,QD,QE,QF,QG,QH,QI,QJ,QK,QL,QM,QN,QO,QP,QQ,QR,QS,QT,QU,QV,QW,QX,QY,QZ,X0,X1,X2,X3,X4,X5,X6,X7,X8,X9,Xa,Xb,Xc,Xd,Xe,Xf,Xg,Xh,Xi,Xj,Xk,Xl,Xm,Xn,Xo,Xp,Xq,Xr,Xs,Xt,Xu,Xv,Xw,Xx,Xy,Xz,XA,XB,reduceIte,reduceCtorEq,XC,XD,XE,XF,XG,XH,XI,XJ,XK,XL,XM,XN,XO,XP,XQ,XR,XS,XT,XU,XV,XW,XX,XY,XZ,Y0,Try.q3,Try.q4,Try.q29,Try.underlying37,Try.q37,Try.q93,Try.underlying97,Try.q97]
        exact e1
    · have c2 : x1 ≠ [] ∧ y1 ≠ [] := ⟨fun h => c1 (.inl h), fun h => c1 (.inr h)⟩
      have lx := List.length_pos_iff.2 c2.1
      have ly := List.length_pos_iff.2 c2.2
      have d3 : decide ((A.length : Int) < ((A.length + p : Nat) : Int)) = true := decide_eq_true (by omega)
      have d4 : decide (((A.length + p : Nat) : Int) < ((A.length + h : Nat) : Int)) = true := decide_eq_true (by omega)
      have kr := ih A x1 y1 (x2 ++ y2 ++ B) (L := A ++ x1 ++ y1 ++ x2 ++ y2 ++ B) (by simp only [List.append_assoc]) c2.1 c2.2 (by omega) (by omega) hDm sx1 sy1 (n := n) eL.symm (a := A.length) rfl (m := (A.length + p : Nat)) (by omega) (b := (A.length + h : Nat)) (by omega) s1 id h01
      simp -implicitDefEqProofs only [d3,d4,Q0,Q1,Q2,Q3,Q4,Q5,Q6,Q7,Q8,Q9,Qa,Qb,Qc,Qd,Qe,Qf,Qg,Qh,Qi,Qj,Qk,Ql,Qm,Qn,Qo,Qp,Qq,Qr,Qs,Qt,Qu,Qv,Qw,Qx,Qy,Qz,QA,QB,QC,QD,QE,QF,QG,QH,QI,QJ,QK,QL,QM,QN,QO,QP,QQ,QR,QS,QT,QU,QV,QW,QX,QY,QZ,X0,X1,X2,X3,X4,X5,X6,X7,X8,X9,Xa,Xb,Xc,Xd,Xe,Xf,Xg,Xh,Xi,Xj,Xk,Xl,Xm,Xn,Xo,Xp,Xq,Xr,Xs,Xt,Xu,Xv,Xw,Xx,Xy,Xz,XA,XB,reduceIte,reduceCtorEq,XC,XD,XE,XF,XG,XH,XI,XJ,XK,XL,XM,XN,XO,XP,XQ,XR,XS,XT,XU,XV,XW,XX,XY,XZ,Y0,Try.q3,Try.q4,Try.q29,Try.underlying37,Try.q37,Try.q93,Try.underlying97,Try.q97]
      refine ACalls.mono kr ?_
      rintro r s2 ⟨Z, z1, z2, rfl⟩
      simp -implicitDefEqProofs only [cutK_normal,Q0,Q1,Q2,Q3,Q4,Q5,Q6,Q7,Q8,Q9,Qa,Qb,Qc,Qd,Qe,Qf,Qg,Qh,Qi,Qj,Qk,Ql,Qm,Qn,Qo,Qp,Qq,Qr,Qs,Qt,Qu,Qv,Qw,Qx,Qy,Qz,QA,QB,QC,QD,QE,QF,QG,QH,QI,QJ,QK,QL,QM,QN,QO,QP,QQ,QR,QS,QT,QU,QV,QW,QX,QY,QZ,X0,X1,X2,X3,X4,X5,X6,X7,X8,X9,Xa,Xb,Xc,Xd,Xe,Xf,Xg,Xh,Xi,Xj,Xk,Xl,Xm,Xn,Xo,Xp,Xq,Xr,Xs,Xt,Xu,Xv,Xw,Xx,Xy,Xz,XA,XB,reduceIte,reduceCtorEq,XC,XD,XE,XF,XG,XH,XI,XJ,XK,XL,XM,XN,XO,XP,XQ,XR,XS,XT,XU,XV,XW,XX,XY,XZ,Y0,Try.q3,Try.q4,Try.q29,Try.underlying37,Try.q37,Try.q93,Try.underlying97,Try.q97]
      refine ⟨Z, z1, z2, ?_⟩
      rw [hs1]
      simp only [List.append_assoc, List.set_set]
  rintro e' s2 ⟨⟨zs, p1, z1, hs2⟩, he⟩
  refine awp_subJ _ he ?_
  clear he e'
  have h02 : s2[id]? = some (rowsE (A ++ zs ++ x2 ++ y2 ++ B)) := by rw [hs2]; exact List.getElem?_set_self hid
  have lz := p1.length_eq
  rw [List.length_append] at lz
  have eL2 : (A ++ zs ++ x2 ++ y2 ++ B).length = n := by simp only [List.length_append]; omega
  have hDm2 : ∀ e ∈ A ++ zs ++ x2 ++ y2 ++ B, Day e := by
    intro e he
    refine hDm e ?_
    have hz : e ∈ zs → e ∈ x1 ∨ e ∈ y1 := fun h => List.mem_append.1 (p1.subset h)
    simp only [List.mem_append] at he ⊢
    rcases he with (((h | h) | h) | h) | h
    · simp [h]
    · rcases hz h with h | h <;> simp [h]
    · simp [h]
    · simp [h]
    · simp [h]
  have fin : ∀ zt, zt.Perm (x2 ++ y2) → Srt zt → ∃ Z, Z.Perm (X ++ Y) ∧ Srt Z ∧ s.set id (rowsE (A ++ zs ++ zt ++ B)) = s.set id (rowsE (A ++ Z ++ B)) := by
    intro zt p2 z2
    refine ⟨zs ++ zt, ?_, cut_ok (by rw [← eX]; exact hX) (by rw [← eY]; exact hY) hc1 hc2 p1 p2 z1 z2, by simp only [List.append_assoc]⟩
    refine (p1.append p2).trans ?_
    rw [eX, eY]
    simp only [List.append_assoc]
    refine List.Perm.append_left _ ?_
    rw [← List.append_assoc, ← List.append_assoc]
    exact List.Perm.append_right _ List.perm_append_comm
  refine awp_vc (by kernel_rfl) ?_
  by_cases c1 : x2 = [] ∨ y2 = []
  · have e1 : ∃ Z, Z.Perm (X ++ Y) ∧ Srt Z ∧ s2 = s.set id (rowsE (A ++ Z ++ B)) := by
      obtain ⟨Z, f1, f2, f3⟩ := fin (x2 ++ y2) (.refl _) (by
        rcases c1 with rfl | rfl
        · simpa using sy2
        · simpa using sx2)
      exact ⟨Z, f1, f2, by rw [← f3, hs2]; simp⟩
    by_cases d2 : h < X.length + q
    · have d3 : decide (((A.length + h : Nat) : Int) < ((A.length + X.length + q : Nat) : Int)) = true := decide_eq_true (by omega)
      have d4 : decide (((A.length + X.length + q : Nat) : Int) < ((A.length + X.length + Y.length : Nat) : Int)) = false := decide_eq_false (by
        rcases c1 with rfl | rfl
        · simp at l2; omega
        · simp at l4; omega)
      simp -implicitDefEqProofs only [d3,d4,Q0,Q1,Q2,Q3,Q4,Q5,Q6,Q7,Q8,Q9,Qa,Qb,Qc,Qd,Qe,Qf,Qg,Qh,Qi,Qj,Qk,Ql,Qm,Qn,Qo,Qp,Qq,Qr,Qs,Qt,Qu,Qv,Qw,Qx,Qy,Qz,QA,QB,QC,QD,QE,QF,QG,QH,QI,QJ,QK,QL,QM,QN,QO,QP,QQ,QR,QS,QT,QU,QV,QW,QX,QY,QZ,X0,X1,X2,X3,X4,X5,X6,X7,X8,X9,Xa,Xb,Xc,Xd,Xe,Xf,Xg,Xh,Xi,Xj,Xk,Xl,Xm,Xn,Xo,Xp,Xq,Xr,Xs,Xt,Xu,Xv,Xw,Xx,Xy,Xz,XA,XB,reduceIte,reduceCtorEq,XC,XD,XE,XF,XG,XH,XI,XJ,XK,XL,XM,XN,XO,XP,XQ,XR,XS,XT,XU,XV,XW,XX,XY,XZ,Y0,Try.q3,Try.q4,Try.q29,Try.underlying37,Try.q37,Try.q93,Try.underlying97,Try.q97]
      exact e1
    · have d3 : decide (((A.length + h : Nat) : Int) < ((A.length + X.length + q : Nat) : Int)) = false := decide_eq_false (by omega)
      simp -implicitDefEqProofs only [d3,Q0,Q1,Q2,Q3,Q4,Q5,Q6,Q7,Q8,Q9,Qa,Qb,Qc,Qd,Qe,Qf,Qg,Qh,Qi,Qj,Qk,Ql,Qm,Qn,Qo,Qp,Qq,Qr,Qs,Qt,Qu,Qv,Qw,Qx,Qy,Qz,QA,QB,QC,QD,QE,QF,QG,QH,QI,QJ,QK,QL,QM,QN,QO,QP,QQ,QR,QS,QT,QU,QV,QW,QX,QY,QZ,X0,X1,X2,X3,X4,X5,X6,X7,X8,X9,Xa,Xb,Xc,Xd,Xe,Xf,Xg,Xh,Xi,Xj,Xk,Xl,Xm,Xn,Xo,Xp,Xq,Xr,Xs,Xt,Xu,Xv,Xw,Xx,Xy,Xz,XA,XB,reduceIte,reduceCtorEq,XC,XD,XE,XF,XG,XH,XI,XJ,XK,XL,XM,XN,XO,XP,XQ,XR,XS,XT,XU,XV,XW,XX,XY,XZ,Y0,Try.q3,Try.q4,Try.q29,Try.underlying37,Try.q37,Try.q93,Try.underlying97,Try.q97]
      exact e1
  · have c2 : x2 ≠ [] ∧ y2 ≠ [] := ⟨fun h => c1 (.inl h), fun h => c1 (.inr h)⟩
    have lx := List.length_pos_iff.2 c2.1
    have ly := List.length_pos_iff.2 c2.2
    have d3 : decide (((A.length + h : Nat) : Int) < ((A.length + X.length + q : Nat) : Int)) = true := decide_eq_true (by omega)
    have d4 : decide (((A.length + X.length + q : Nat) : Int) < ((A.length + X.length + Y.length : Nat) : Int)) = true := decide_eq_true (by omega)
    have kr := ih (A ++ zs) x2 y2 B (L := A ++ zs ++ x2 ++ y2 ++ B) rfl c2.1 c2.2 (by omega) (by omega) hDm2 sx2 sy2 (n := n) eL2.symm (a := (A.length + h : Nat)) (by rw [List.length_append]; omega) (m := (A.length + X.length + q : Nat)) (by rw [List.length_append]; omega) (b := (A.length + X.length + Y.length : Nat)) (by rw [List.length_append]; omega) s2 id h02
    simp -implicitDefEqProofs only [d3,d4,Q0,Q1,Q2,Q3,Q4,Q5,Q6,Q7,Q8,Q9,Qa,Qb,Qc,Qd,Qe,Qf,Qg,Qh,Qi,Qj,Qk,Ql,Qm,Qn,Qo,Qp,Qq,Qr,Qs,Qt,Qu,Qv,Qw,Qx,Qy,Qz,QA,QB,QC,QD,QE,QF,QG,QH,QI,QJ,QK,QL,QM,QN,QO,QP,QQ,QR,QS,QT,QU,QV,QW,QX,QY,QZ,X0,X1,X2,X3,X4,X5,X6,X7,X8,X9,Xa,Xb,Xc,Xd,Xe,Xf,Xg,Xh,Xi,Xj,Xk,Xl,Xm,Xn,Xo,Xp,Xq,Xr,Xs,Xt,Xu,Xv,Xw,Xx,Xy,Xz,XA,XB,reduceIte,reduceCtorEq,XC,XD,XE,XF,XG,XH,XI,XJ,XK,XL,XM,XN,XO,XP,XQ,XR,XS,XT,XU,XV,XW,XX,XY,XZ,Y0,Try.q3,Try.q4,Try.q29,Try.underlying37,Try.q37,Try.q93,Try.underlying97,Try.q97]
    refine ACalls.mono kr ?_
    rintro r s3 ⟨zt, z3, z4, rfl⟩
    simp -implicitDefEqProofs only [Q0,Q1,Q2,Q3,Q4,Q5,Q6,Q7,Q8,Q9,Qa,Qb,Qc,Qd,Qe,Qf,Qg,Qh,Qi,Qj,Qk,Ql,Qm,Qn,Qo,Qp,Qq,Qr,Qs,Qt,Qu,Qv,Qw,Qx,Qy,Qz,QA,QB,QC,QD,QE,QF,QG,QH,QI,QJ,QK,QL,QM,QN,QO,QP,QQ,QR,QS,QT,QU,QV,QW,QX,QY,QZ,X0,X1,X2,X3,X4,X5,X6,X7,X8,X9,Xa,Xb,Xc,Xd,Xe,Xf,Xg,Xh,Xi,Xj,Xk,Xl,Xm,Xn,Xo,Xp,Xq,Xr,Xs,Xt,Xu,Xv,Xw,Xx,Xy,Xz,XA,XB,reduceIte,reduceCtorEq,XC,XD,XE,XF,XG,XH,XI,XJ,XK,XL,XM,XN,XO,XP,XQ,XR,XS,XT,XU,XV,XW,XX,XY,XZ,Y0,Try.q3,Try.q4,Try.q29,Try.underlying37,Try.q37,Try.q93,Try.underlying97,Try.q97]
    obtain ⟨Z, f1, f2, f3⟩ := fin zt z3 z4
    refine ⟨Z, f1, f2, ?_⟩
    rw [hs2, List.set_set]
    exact f3

end Go.Proofs
