/-
  The ledger: the merge of two sorted runs, one of them of a single entry; contracts.
-/
import Derived.Test.YtdioiegkpkjmkaaJb
namespace Go.Proofs
open Go.Pa
open Go.Pa renaming VB0 → Q0, VB1 → Q1, VB2 → Q2, VB3 → Q3, VB4 → Q4, VB5 → Q5, VB6 → Q6, VB7 → Q7, VB8 → Q8, VB9 → Q9, condV_bool → Qa, guardV_bool → Qb, vcS → Qc, evA → Qd, evBin → Qe, nilA → Qf, nilOf → Qg, intOp → Qh, strOp → Qi, evUn → Qj, evConv → Qk, evField → Ql, evFieldAddr → Qm, evIndexAddr → Qn, evIndex → Qo, evIndexA → Qp, bnd → Qq, evSlice → Qr, evLen → Qs, evPick → Qt, evExtract → Qu, evNilCheck → Qv, evMin → Qw, evMax → Qx, evLoadI → Qy, partsOne → QA, intsOf → QB, rowsAV → QC, evBuildSlice → QD, evBuild → QE, fillA → QF, splice → QG, evBuiltin → QH, guardD_bool → QI, dOp → QJ, cl → QK, vcLoad → QL, vcStore → QM, vcMake → QN, convA → QO, evIndexArr → QP, retA → QQ, ressA → QR, resA → QS, envOf → QT, condR_bool → QX, asgEnv → QY, parEnv → QZ, dstAt → XI, vcLook → XT, vcPut → XU, vcEnt → XV, vcESt → XW, vcMLen → XX, vcDel → XY, vcClear → XZ, vcLookD → Y0
open Go.Pa.AV renaming cell → Qz
open Go.Pa.Env renaming put → QU
open List renaming set_cons_zero → QV, set_cons_succ → QW, foldl_cons → X0, foldl_nil → X1, map_cons → X2, map_nil → X3, toList_toArray → X4, getElem?_cons_zero → X5, getElem?_cons_succ → X6, nil_append → Xa, append_nil → Xb, cons_append → Xc, singleton_append → Xd, length_cons → Xe, length_nil → Xf, all_cons → Xg, all_nil → Xh, take_succ_cons → Xi, take_zero → Xj, take_nil → Xk, drop_zero → Xl, drop_succ_cons → Xm, drop_nil → Xn, contains_nil → Xo, contains_cons → Xp
open Option renaming bind_some → X7, map_some → X8, map_none → X9
open Bool renaming or_false → Xq, false_or → Xr, or_true → Xs, true_or → Xt, false_eq_true → XC, not_true → XD, not_false → XE, and_true → XF, true_and → XG, and_self → XH
open Nat renaming reduceEqDiff → Xu, reduceAdd → Xv, reduceSub → Xw, reduceMul → Xx, reduceLT → Xy, reduceLeDiff → Xz, reduceBNe → XA, reduceBEq → XB, zero_add → XL, add_zero → XM
open UInt8 renaming reduceToNat → XJ
open Int renaming cast_ofNat_Int → XK, reduceToNat → XN, reduceLT → XO, reduceLE → XP, reduceNeg → XQ, reduceEq → XR, reduceNe → XS
set_option linter.unusedSimpArgs false
set_option linter.unusedVariables false
set_option maxRecDepth 20000
set_option maxHeartbeats 4000000

theorem half (x : Nat) (hx : x < 10000000) : IntKind.i64.wrap (ishr IntKind.u64 (IntKind.u64.wrap (x : Int)) 1) = ((x / 2 : Nat) : Int) := by
  have h1 : IntKind.u64.wrap (x : Int) = (x : Int) := by
    simp only [IntKind.wrap, IntKind.min, IntKind.max, IntKind.signed, IntKind.bits]
    simp
    omega
  have h2 : ishr IntKind.u64 (x : Int) 1 = (x : Int) / 2 := by
    unfold ishr
    rw [Int.fdiv_eq_ediv_of_nonneg _ (by decide)]
    rfl
  rw [h1, h2, wrap_i64 (by omega) (by omega)]
  omega

theorem srt_le {S : List Ent} (h : Srt S) {i j : Nat} (hj : j < S.length) (hij : i ≤ j) : (S.getD i default).day ≤ (S.getD j default).day := by
  rcases Nat.lt_or_ge i j with h1 | h1
  · have := (List.pairwise_iff_getElem.1 h) i j (by omega) hj h1
    rwa [getD_get hj, getD_get (by omega)]
  · have : i = j := by omega
    subst this; exact Int.le_refl _

theorem getD_mem {S : List Ent} {i : Nat} (h : i < S.length) : S.getD i default ∈ S := by rw [getD_get h]; exact List.getElem_mem h

theorem row_mid (A Y : List Ent) (B : List Ent) {t n : Nat} (ht : t < Y.length) (hn : n = A.length + t) : ((A ++ Y ++ B).map entA).getD n [] = entA (Y.getD t default) := by
  subst hn
  have e : A ++ Y ++ B = (A ++ Y.take t) ++ Y.getD t default :: (Y.drop (t + 1) ++ B) := by
    rw [getD_get ht]
    have h := (List.take_append_drop t Y).symm
    rw [List.drop_eq_getElem_cons ht] at h
    conv => lhs; rw [h]
    simp only [List.append_assoc, List.cons_append]
  rw [e]
  exact row_at _ _ _ (by rw [List.length_append, List.length_take]; omega)

theorem adj1 (U W : List Ent) (x y : Ent) {n : Nat} (h : n = U.length + 1) : ((U ++ x :: y :: W).map entA).getD ((n : Nat) : Int).toNat [] = entA y := by
  subst h
  rw [Int.toNat_natCast, show U ++ x :: y :: W = (U ++ [x]) ++ y :: W by simp]; exact row_at _ W y (by simp)
theorem adj0 (U W : List Ent) (x y : Ent) {n : Nat} (h : n = U.length) : ((U ++ x :: y :: W).map entA).getD ((n : Nat) : Int).toNat [] = entA x := by rw [Int.toNat_natCast]; exact row_at U _ x h
theorem adjS1 (U W : List Ent) (x y z : Ent) {n : Nat} (h : n = U.length + 1) : ((U ++ x :: y :: W).map entA).set ((n : Nat) : Int).toNat (entA z) = (U ++ x :: z :: W).map entA := by
  subst h
  rw [Int.toNat_natCast, show U ++ x :: y :: W = (U ++ [x]) ++ y :: W by simp, show U ++ x :: z :: W = (U ++ [x]) ++ z :: W by simp]; exact row_set _ W y z (by simp)
theorem adjS0 (U W : List Ent) (x y z : Ent) {n : Nat} (h : n = U.length) : ((U ++ x :: y :: W).map entA).set ((n : Nat) : Int).toNat (entA z) = (U ++ z :: y :: W).map entA := by rw [Int.toNat_natCast]; exact row_set U _ x z h
theorem adjL (U W : List Ent) (x y : Ent) {n : Nat} (h : U.length + 2 + W.length = n) : ((U ++ x :: y :: W).map entA).length = n := by
  subst h; simp; omega

theorem c_sym1 (A Y B : List Ent) (x : Ent) {L : List Ent} (hL : L = A ++ [x] ++ Y ++ B) (hl : L.length ≤ 1000000) (hD : ∀ e ∈ L, Day e) (hY : Srt Y) {n : Nat} {a m b : Int} (h1 : n = L.length) (h2 : a = A.length) (h3 : m = (A.length + 1 : Nat)) (h4 : b = (A.length + 1 + Y.length : Nat))
    (σ : Store) (id : Nat) (h0 : σ[id]? = some (rowsE L)) :
    ACalls Try.prog 66 [.mvec id 0 n 6, .int .i64 a, .int .i64 m, .int .i64 b, cmpV] σ
      (fun r s => ∃ Z, Z.Perm ([x] ++ Y) ∧ Srt Z ∧ s = σ.set id (rowsE (A ++ Z ++ B))) := by
  have hid : id < σ.length := (List.getElem?_eq_some_iff.1 h0).1
  have hσ : σ = σ.set id (rowsE (A ++ [x] ++ Y ++ B)) := by rw [← hL]; exact (set_same h0).symm
  have hnn : n = A.length + 1 + Y.length + B.length := by rw [h1, hL]; simp only [List.length_append, List.length_cons, List.length_nil]
  rw [← h1] at hl
  have hDx : Day x := hD x (by rw [hL]; simp)
  have hDY : ∀ e ∈ Y, Day e := fun e he => hD e (by rw [hL]; simp [he])
  clear h1
  subst h2 h3 h4
  have w1 : IntKind.i64.wrap (((A.length + 1 : Nat) : Int) - (A.length : Int)) = 1 := by rw [wrap_i64 (by omega) (by omega)]; omega
  have d1 : decide ((1 : Int) = 1) = true := rfl
  refine acalls_of_vc (fn := Try.f66) Try.call66 Try.func66 rfl (by kernel_rfl) (by simp [Try.ntmps66]) ?_; simp -implicitDefEqProofs only [Try.ntmps66,Try.results66,Q0,Q1,Q2,Q3,Q4,Q5,Q6,Q7,Q8,Q9,Qa,Qb,Qc,Qd,Qe,Qf,Qg,Qh,Qi,Qj,Qk,Ql,Qm,Qn,Qo,Qp,Qq,Qr,Qs,Qt,Qu,Qv,Qw,Qx,Qy,Qz,QA,QB,QC,QD,QE,QF,QG,QH,QI,QJ,QK,QL,QM,QN,QO,QP,QQ,QR,QS,QT,QU,QV,QW,QX,QY,QZ,X0,X1,X2,X3,X4,X5,X6,X7,X8,X9,Xa,Xb,Xc,Xd,Xe,Xf,Xg,Xh,Xi,Xj,Xk,Xl,Xm,Xn,Xo,Xp,Xq,Xr,Xs,Xt,Xu,Xv,Xw,Xx,Xy,Xz,XA,XB,reduceIte,reduceCtorEq,XC,XD,XE,XF,XG,XH,XI,XJ,XK,XL,XM,XN,XO,XP,XQ,XR,XS,XT,XU,XV,XW,XX,XY,XZ,Y0,Try.q3,Try.q4,Try.q29,Try.underlying37,Try.q37,Try.q93,Try.underlying97,Try.q97]
  simp -implicitDefEqProofs only [w1,d1,Q0,Q1,Q2,Q3,Q4,Q5,Q6,Q7,Q8,Q9,Qa,Qb,Qc,Qd,Qe,Qf,Qg,Qh,Qi,Qj,Qk,Ql,Qm,Qn,Qo,Qp,Qq,Qr,Qs,Qt,Qu,Qv,Qw,Qx,Qy,Qz,QA,QB,QC,QD,QE,QF,QG,QH,QI,QJ,QK,QL,QM,QN,QO,QP,QQ,QR,QS,QT,QU,QV,QW,QX,QY,QZ,X0,X1,X2,X3,X4,X5,X6,X7,X8,X9,Xa,Xb,Xc,Xd,Xe,Xf,Xg,Xh,Xi,Xj,Xk,Xl,Xm,Xn,Xo,Xp,Xq,Xr,Xs,Xt,Xu,Xv,Xw,Xx,Xy,Xz,XA,XB,reduceIte,reduceCtorEq,XC,XD,XE,XF,XG,XH,XI,XJ,XK,XL,XM,XN,XO,XP,XQ,XR,XS,XT,XU,XV,XW,XX,XY,XZ,Y0,Try.q3,Try.q4,Try.q29,Try.underlying37,Try.q37,Try.q93,Try.underlying97,Try.q97]
  refine awp_loop (fun z : Nat × Nat => [(10, .int .i64 ((A.length + 1 + z.1 : Nat) : Int)), (11, .int .i64 ((A.length + 1 + z.2 : Nat) : Int)), (0, .mvec id 0 n 6), (1, .int .i64 A.length), (4, cmpV)])
    (fun z s => s = σ ∧ z.1 ≤ z.2 ∧ z.2 ≤ Y.length ∧ (∀ t, t < z.1 → (Y.getD t default).day ≤ x.day) ∧ (∀ t, z.2 ≤ t → t < Y.length → x.day ≤ (Y.getD t default).day)) (fun z => z.2 - z.1) (0, Y.length) (by kernel_rfl) (by simp [sub_cons, sub_nil, get_cons])
    ⟨rfl, by simp, by simp, by simp, fun t h1 h2 => absurd h1 (Nat.not_le.2 h2)⟩ ?_
  rintro ⟨p, q⟩ s ⟨rfl, hpq, hq, hlo, hhi⟩
  simp only at hpq hq hlo hhi
  by_cases hlt : p < q
  · have d2 : decide (((A.length + 1 + p : Nat) : Int) < ((A.length + 1 + q : Nat) : Int)) = true := decide_eq_true (by omega)
    simp -implicitDefEqProofs only [d2,Q0,Q1,Q2,Q3,Q4,Q5,Q6,Q7,Q8,Q9,Qa,Qb,Qc,Qd,Qe,Qf,Qg,Qh,Qi,Qj,Qk,Ql,Qm,Qn,Qo,Qp,Qq,Qr,Qs,Qt,Qu,Qv,Qw,Qx,Qy,Qz,QA,QB,QC,QD,QE,QF,QG,QH,QI,QJ,QK,QL,QM,QN,QO,QP,QQ,QR,QS,QT,QU,QV,QW,QX,QY,QZ,X0,X1,X2,X3,X4,X5,X6,X7,X8,X9,Xa,Xb,Xc,Xd,Xe,Xf,Xg,Xh,Xi,Xj,Xk,Xl,Xm,Xn,Xo,Xp,Xq,Xr,Xs,Xt,Xu,Xv,Xw,Xx,Xy,Xz,XA,XB,reduceIte,reduceCtorEq,XC,XD,XE,XF,XG,XH,XI,XJ,XK,XL,XM,XN,XO,XP,XQ,XR,XS,XT,XU,XV,XW,XX,XY,XZ,Y0,Try.q3,Try.q4,Try.q29,Try.underlying37,Try.q37,Try.q93,Try.underlying97,Try.q97]
    have w2 : IntKind.i64.wrap (((A.length + 1 + p : Nat) : Int) + ((A.length + 1 + q : Nat) : Int)) = ((2 * (A.length + 1) + (p + q) : Nat) : Int) := by rw [wrap_i64 (by omega) (by omega)]; omega
    obtain ⟨h, hh⟩ : ∃ h, h = (p + q) / 2 := ⟨_, rfl⟩
    have w3 : IntKind.i64.wrap (ishr IntKind.u64 (IntKind.u64.wrap ((2 * (A.length + 1) + (p + q) : Nat) : Int)) 1) = ((A.length + 1 + h : Nat) : Int) := by rw [half _ (by omega)]; omega
    have hp : p ≤ h := by omega
    have hq1 : h < q := by omega
    have hhY : h < Y.length := by omega
    have g1 : (L.map entA).getD ((A.length + 1 + h : Nat) : Int).toNat [] = entA (Y.getD h default) := by
      rw [Int.toNat_natCast, hL]
      exact row_mid (A ++ [x]) Y B hhY (by rw [List.length_append]; rfl)
    have g2 : (L.map entA).getD ((A.length : Nat) : Int).toNat [] = entA x := by
      rw [Int.toNat_natCast, hL, List.append_assoc, List.append_assoc]
      exact row_at A _ x rfl
    have gl : (L.map entA).length = n := by rw [List.length_map, hL]; simp only [List.length_append, List.length_cons, List.length_nil]; omega
    have k := c_cmp (Y.getD h default) x (hDY _ (getD_mem hhY)) hDx
    have hlow := fun t (ht : t ≤ h) => srt_le hY hhY ht
    have hhigh := fun t (ht : h ≤ t) (ht2 : t < Y.length) => srt_le hY ht2 ht
    generalize Y.getD h default = y at *
    have hg : s[id]? = some (.vecR 6 (L.map entA)) := h0
    generalize L.map entA = RS at *
    have wh : IntKind.i64.wrap (((A.length + 1 + h : Nat) : Int) + 1) = ((A.length + 1 + (h + 1) : Nat) : Int) := by rw [wrap_i64 (by omega) (by omega)]; omega
    refine awp_draws [] Try.mixed (by kernel_rfl) ?_
    simp -implicitDefEqProofs only [w2,w3,hg,g1,g2,gl,entA_take,entA_six,entA_all,Q0,Q1,Q2,Q3,Q4,Q5,Q6,Q7,Q8,Q9,Qa,Qb,Qc,Qd,Qe,Qf,Qg,Qh,Qi,Qj,Qk,Ql,Qm,Qn,Qo,Qp,Qq,Qr,Qs,Qt,Qu,Qv,Qw,Qx,Qy,Qz,QA,QB,QC,QD,QE,QF,QG,QH,QI,QJ,QK,QL,QM,QN,QO,QP,QQ,QR,QS,QT,QU,QV,QW,QX,QY,QZ,X0,X1,X2,X3,X4,X5,X6,X7,X8,X9,Xa,Xb,Xc,Xd,Xe,Xf,Xg,Xh,Xi,Xj,Xk,Xl,Xm,Xn,Xo,Xp,Xq,Xr,Xs,Xt,Xu,Xv,Xw,Xx,Xy,Xz,XA,XB,reduceIte,reduceCtorEq,XC,XD,XE,XF,XG,XH,XI,XJ,XK,XL,XM,XN,XO,XP,XQ,XR,XS,XT,XU,XV,XW,XX,XY,XZ,Y0,Try.q3,Try.q4,Try.q29,Try.underlying37,Try.q37,Try.q93,Try.underlying97,Try.q97]
    refine ⟨by omega, by omega, by omega, by omega, ?_⟩
    by_cases hyx : y.day < x.day
    · have d3 : decide (y.day - x.day < 0) = true := decide_eq_true (by omega)
      refine dCall_of (k _) (by decide) ?_
      simp -implicitDefEqProofs only [d3,wh,Q0,Q1,Q2,Q3,Q4,Q5,Q6,Q7,Q8,Q9,Qa,Qb,Qc,Qd,Qe,Qf,Qg,Qh,Qi,Qj,Qk,Ql,Qm,Qn,Qo,Qp,Qq,Qr,Qs,Qt,Qu,Qv,Qw,Qx,Qy,Qz,QA,QB,QC,QD,QE,QF,QG,QH,QI,QJ,QK,QL,QM,QN,QO,QP,QQ,QR,QS,QT,QU,QV,QW,QX,QY,QZ,X0,X1,X2,X3,X4,X5,X6,X7,X8,X9,Xa,Xb,Xc,Xd,Xe,Xf,Xg,Xh,Xi,Xj,Xk,Xl,Xm,Xn,Xo,Xp,Xq,Xr,Xs,Xt,Xu,Xv,Xw,Xx,Xy,Xz,XA,XB,reduceIte,reduceCtorEq,XC,XD,XE,XF,XG,XH,XI,XJ,XK,XL,XM,XN,XO,XP,XQ,XR,XS,XT,XU,XV,XW,XX,XY,XZ,Y0,Try.q3,Try.q4,Try.q29,Try.underlying37,Try.q37,Try.q93,Try.underlying97,Try.q97]
      exact ⟨(h + 1, q), by simp, ⟨by simp only; omega, hq, fun t ht => by have := hlow t (by simp only at ht; omega); omega, hhi⟩, by simp only; omega⟩
    · have d3 : decide (y.day - x.day < 0) = false := decide_eq_false (by omega)
      refine dCall_of (k _) (by decide) ?_
      simp -implicitDefEqProofs only [d3,Q0,Q1,Q2,Q3,Q4,Q5,Q6,Q7,Q8,Q9,Qa,Qb,Qc,Qd,Qe,Qf,Qg,Qh,Qi,Qj,Qk,Ql,Qm,Qn,Qo,Qp,Qq,Qr,Qs,Qt,Qu,Qv,Qw,Qx,Qy,Qz,QA,QB,QC,QD,QE,QF,QG,QH,QI,QJ,QK,QL,QM,QN,QO,QP,QQ,QR,QS,QT,QU,QV,QW,QX,QY,QZ,X0,X1,X2,X3,X4,X5,X6,X7,X8,X9,Xa,Xb,Xc,Xd,Xe,Xf,Xg,Xh,Xi,Xj,Xk,Xl,Xm,Xn,Xo,Xp,Xq,Xr,Xs,Xt,Xu,Xv,Xw,Xx,Xy,Xz,XA,XB,reduceIte,reduceCtorEq,XC,XD,XE,XF,XG,XH,XI,XJ,XK,XL,XM,XN,XO,XP,XQ,XR,XS,XT,XU,XV,XW,XX,XY,XZ,Y0,Try.q3,Try.q4,Try.q29,Try.underlying37,Try.q37,Try.q93,Try.underlying97,Try.q97]
      exact ⟨(p, h), by simp, ⟨hp, by simp only; omega, hlo, fun t ht ht2 => by have := hhigh t ht ht2; omega⟩, by simp only; omega⟩
  · have d2 : decide (((A.length + 1 + p : Nat) : Int) < ((A.length + 1 + q : Nat) : Int)) = false := decide_eq_false (by omega)
    have hpq1 : p = q := by omega
    subst hpq1
    have w5 : IntKind.i64.wrap (((A.length + 1 + p : Nat) : Int) - 1) = ((A.length + p : Nat) : Int) := by rw [wrap_i64 (by omega) (by omega)]; omega
    simp -implicitDefEqProofs only [d2,Q0,Q1,Q2,Q3,Q4,Q5,Q6,Q7,Q8,Q9,Qa,Qb,Qc,Qd,Qe,Qf,Qg,Qh,Qi,Qj,Qk,Ql,Qm,Qn,Qo,Qp,Qq,Qr,Qs,Qt,Qu,Qv,Qw,Qx,Qy,Qz,QA,QB,QC,QD,QE,QF,QG,QH,QI,QJ,QK,QL,QM,QN,QO,QP,QQ,QR,QS,QT,QU,QV,QW,QX,QY,QZ,X0,X1,X2,X3,X4,X5,X6,X7,X8,X9,Xa,Xb,Xc,Xd,Xe,Xf,Xg,Xh,Xi,Xj,Xk,Xl,Xm,Xn,Xo,Xp,Xq,Xr,Xs,Xt,Xu,Xv,Xw,Xx,Xy,Xz,XA,XB,reduceIte,reduceCtorEq,XC,XD,XE,XF,XG,XH,XI,XJ,XK,XL,XM,XN,XO,XP,XQ,XR,XS,XT,XU,XV,XW,XX,XY,XZ,Y0,Try.q3,Try.q4,Try.q29,Try.underlying37,Try.q37,Try.q93,Try.underlying97,Try.q97]
    refine awp_loop (fun t : Nat => [(13, .int .i64 ((A.length + t : Nat) : Int)), (10, .int .i64 ((A.length + 1 + p : Nat) : Int)), (0, .mvec id 0 n 6)])
      (fun t s1 => t ≤ p ∧ s1 = s.set id (rowsE (A ++ (Y.take t ++ x :: Y.drop t) ++ B))) (fun t => p - t) 0 (by kernel_rfl) (by simp [sub_cons, sub_nil, get_cons])
      ⟨by omega, by rw [hσ]; simp⟩ ?_
    rintro t s1 ⟨ht, hs1⟩
    by_cases hlt2 : t < p
    · have d3 : decide (((A.length + t : Nat) : Int) < ((A.length + p : Nat) : Int)) = true := decide_eq_true (by omega)
      have htY : t < Y.length := by omega
      obtain ⟨U, hU⟩ : ∃ U, U = A ++ Y.take t := ⟨_, rfl⟩
      obtain ⟨W, hW⟩ : ∃ W, W = Y.drop (t + 1) ++ B := ⟨_, rfl⟩
      have e1 : A ++ (Y.take t ++ x :: Y.drop t) ++ B = U ++ x :: Y[t] :: W := by simp only [hU, hW, List.drop_eq_getElem_cons htY, List.append_assoc, List.cons_append]
      have e2 : A ++ (Y.take (t + 1) ++ x :: Y.drop (t + 1)) ++ B = U ++ Y[t] :: x :: W := by simp only [hU, hW, List.take_succ_eq_append_getElem htY, List.append_assoc, List.cons_append, List.nil_append]
      have lU : A.length + t = U.length := by rw [hU, List.length_append, List.length_take]; omega
      have ln : U.length + 2 + W.length = n := by rw [hU, hW]; simp only [List.length_append, List.length_take, List.length_drop]; omega
      generalize Y[t] = y at *
      have g1 := adj1 U W x y (n := A.length + (t + 1)) (by omega)
      have g2 := adj0 U W x y (n := A.length + t) (by omega)
      have g3 := adjS0 U W x y y (n := A.length + t) (by omega)
      have g4 := adj1 U W y y (n := A.length + (t + 1)) (by omega)
      have g5 := adjS1 U W y y x (n := A.length + (t + 1)) (by omega)
      have gl := adjL U W x y ln
      have gl1 := adjL U W y y ln
      have e2' : rowsE (A ++ (Y.take (t + 1) ++ x :: Y.drop (t + 1)) ++ B) = rowsE (U ++ y :: x :: W) := by rw [e2]
      rw [e1] at hs1
      unfold rowsE at hs1 e2'
      generalize (U ++ x :: y :: W).map entA = RS at *
      generalize (U ++ y :: y :: W).map entA = RT at *
      have hg : s1[id]? = some (.vecR 6 RS) := by rw [hs1]; exact List.getElem?_set_self hid
      have hss : ∀ x, s1.set id x = s.set id x := by intro x; rw [hs1]; simp
      have hss2 : ∀ x y, (s.set id x).set id y = s.set id y := by intro x y; simp
      have hg2 : ∀ x, (s.set id x)[id]? = some x := fun x => List.getElem?_set_self hid
      have w6 : IntKind.i64.wrap (((A.length + t : Nat) : Int) + 1) = ((A.length + (t + 1) : Nat) : Int) := by rw [wrap_i64 (by omega) (by omega)]; omega
      simp -implicitDefEqProofs only [w5,d3,Q0,Q1,Q2,Q3,Q4,Q5,Q6,Q7,Q8,Q9,Qa,Qb,Qc,Qd,Qe,Qf,Qg,Qh,Qi,Qj,Qk,Ql,Qm,Qn,Qo,Qp,Qq,Qr,Qs,Qt,Qu,Qv,Qw,Qx,Qy,Qz,QA,QB,QC,QD,QE,QF,QG,QH,QI,QJ,QK,QL,QM,QN,QO,QP,QQ,QR,QS,QT,QU,QV,QW,QX,QY,QZ,X0,X1,X2,X3,X4,X5,X6,X7,X8,X9,Xa,Xb,Xc,Xd,Xe,Xf,Xg,Xh,Xi,Xj,Xk,Xl,Xm,Xn,Xo,Xp,Xq,Xr,Xs,Xt,Xu,Xv,Xw,Xx,Xy,Xz,XA,XB,reduceIte,reduceCtorEq,XC,XD,XE,XF,XG,XH,XI,XJ,XK,XL,XM,XN,XO,XP,XQ,XR,XS,XT,XU,XV,XW,XX,XY,XZ,Y0,Try.q3,Try.q4,Try.q29,Try.underlying37,Try.q37,Try.q93,Try.underlying97,Try.q97]
      refine awp_draws [15, 17, 100009, 100013] Try.mixed (by kernel_rfl) ?_
      simp -implicitDefEqProofs only [w6,hg,hss,hss2,hg2,g1,g2,g3,g4,g5,gl,gl1,entA_take,entA_six,entA_all,entA_drop,Xb,Q0,Q1,Q2,Q3,Q4,Q5,Q6,Q7,Q8,Q9,Qa,Qb,Qc,Qd,Qe,Qf,Qg,Qh,Qi,Qj,Qk,Ql,Qm,Qn,Qo,Qp,Qq,Qr,Qs,Qt,Qu,Qv,Qw,Qx,Qy,Qz,QA,QB,QC,QD,QE,QF,QG,QH,QI,QJ,QK,QL,QM,QN,QO,QP,QQ,QR,QS,QT,QU,QV,QW,QX,QY,QZ,X0,X1,X2,X3,X4,X5,X6,X7,X8,X9,Xa,Xb,Xc,Xd,Xe,Xf,Xg,Xh,Xi,Xj,Xk,Xl,Xm,Xn,Xo,Xp,Xq,Xr,Xs,Xt,Xu,Xv,Xw,Xx,Xy,Xz,XA,XB,reduceIte,reduceCtorEq,XC,XD,XE,XF,XG,XH,XI,XJ,XK,XL,XM,XN,XO,XP,XQ,XR,XS,XT,XU,XV,XW,XX,XY,XZ,Y0,Try.q3,Try.q4,Try.q29,Try.underlying37,Try.q37,Try.q93,Try.underlying97,Try.q97]
      refine ⟨by omega, by omega, by omega, by omega, by omega, by omega, by omega, by omega, t + 1, rfl, ⟨by omega, ?_⟩, by omega⟩
      exact congrArg (fun o => s.set id o) e2'.symm
    · have d3 : decide (((A.length + t : Nat) : Int) < ((A.length + p : Nat) : Int)) = false := decide_eq_false (by omega)
      have : t = p := by omega
      subst this
      simp -implicitDefEqProofs only [w5,d3,Q0,Q1,Q2,Q3,Q4,Q5,Q6,Q7,Q8,Q9,Qa,Qb,Qc,Qd,Qe,Qf,Qg,Qh,Qi,Qj,Qk,Ql,Qm,Qn,Qo,Qp,Qq,Qr,Qs,Qt,Qu,Qv,Qw,Qx,Qy,Qz,QA,QB,QC,QD,QE,QF,QG,QH,QI,QJ,QK,QL,QM,QN,QO,QP,QQ,QR,QS,QT,QU,QV,QW,QX,QY,QZ,X0,X1,X2,X3,X4,X5,X6,X7,X8,X9,Xa,Xb,Xc,Xd,Xe,Xf,Xg,Xh,Xi,Xj,Xk,Xl,Xm,Xn,Xo,Xp,Xq,Xr,Xs,Xt,Xu,Xv,Xw,Xx,Xy,Xz,XA,XB,reduceIte,reduceCtorEq,XC,XD,XE,XF,XG,XH,XI,XJ,XK,XL,XM,XN,XO,XP,XQ,XR,XS,XT,XU,XV,XW,XX,XY,XZ,Y0,Try.q3,Try.q4,Try.q29,Try.underlying37,Try.q37,Try.q93,Try.underlying97,Try.q97]
      refine ⟨Y.take t ++ x :: Y.drop t, ?_, ?_, hs1⟩
      · refine List.perm_middle.trans ?_
        simp
      · refine srt_ins (by rw [List.take_append_drop]; exact hY) ?_ ?_
        · intro z hz
          obtain ⟨i, hi, rfl⟩ := List.getElem_of_mem hz
          rw [List.length_take] at hi
          rw [List.getElem_take]
          have := hlo i (by omega)
          rwa [getD_get (by omega)] at this
        · intro z hz
          obtain ⟨i, hi, rfl⟩ := List.getElem_of_mem hz
          rw [List.length_drop] at hi
          rw [List.getElem_drop]
          have := hhi (t + i) (by omega) (by omega)
          rwa [getD_get (by omega)] at this

theorem c_sym2 (A X B : List Ent) (y : Ent) {L : List Ent} (hL : L = A ++ X ++ [y] ++ B) (hX2 : X.length ≠ 1) (hl : L.length ≤ 1000000) (hD : ∀ e ∈ L, Day e) (hX : Srt X) {n : Nat} {a m b : Int} (h1 : n = L.length) (h2 : a = A.length) (h3 : m = (A.length + X.length : Nat)) (h4 : b = (A.length + X.length + 1 : Nat))
    (σ : Store) (id : Nat) (h0 : σ[id]? = some (rowsE L)) :
    ACalls Try.prog 66 [.mvec id 0 n 6, .int .i64 a, .int .i64 m, .int .i64 b, cmpV] σ
      (fun r s => ∃ Z, Z.Perm (X ++ [y]) ∧ Srt Z ∧ s = σ.set id (rowsE (A ++ Z ++ B))) := by
  have hid : id < σ.length := (List.getElem?_eq_some_iff.1 h0).1
  have hσ : σ = σ.set id (rowsE (A ++ X ++ [y] ++ B)) := by rw [← hL]; exact (set_same h0).symm
  have hnn : n = A.length + X.length + 1 + B.length := by rw [h1, hL]; simp only [List.length_append, List.length_cons, List.length_nil]
  rw [← h1] at hl
  have hDy : Day y := hD y (by rw [hL]; simp)
  have hDX : ∀ e ∈ X, Day e := fun e he => hD e (by rw [hL]; simp [he])
  clear h1
  subst h2 h3 h4
  have w1 : IntKind.i64.wrap (((A.length + X.length : Nat) : Int) - (A.length : Int)) = (X.length : Int) := by rw [wrap_i64 (by omega) (by omega)]; omega
  have w0 : IntKind.i64.wrap (((A.length + X.length + 1 : Nat) : Int) - ((A.length + X.length : Nat) : Int)) = 1 := by rw [wrap_i64 (by omega) (by omega)]; omega
  have d0 : decide ((X.length : Int) = 1) = false := decide_eq_false (by omega)
  have d1 : decide ((1 : Int) = 1) = true := rfl
  refine acalls_of_vc (fn := Try.f66) Try.call66 Try.func66 rfl (by kernel_rfl) (by simp [Try.ntmps66]) ?_; simp -implicitDefEqProofs only [Try.ntmps66,Try.results66,Q0,Q1,Q2,Q3,Q4,Q5,Q6,Q7,Q8,Q9,Qa,Qb,Qc,Qd,Qe,Qf,Qg,Qh,Qi,Qj,Qk,Ql,Qm,Qn,Qo,Qp,Qq,Qr,Qs,Qt,Qu,Qv,Qw,Qx,Qy,Qz,QA,QB,QC,QD,QE,QF,QG,QH,QI,QJ,QK,QL,QM,QN,QO,QP,QQ,QR,QS,QT,QU,QV,QW,QX,QY,QZ,X0,X1,X2,X3,X4,X5,X6,X7,X8,X9,Xa,Xb,Xc,Xd,Xe,Xf,Xg,Xh,Xi,Xj,Xk,Xl,Xm,Xn,Xo,Xp,Xq,Xr,Xs,Xt,Xu,Xv,Xw,Xx,Xy,Xz,XA,XB,reduceIte,reduceCtorEq,XC,XD,XE,XF,XG,XH,XI,XJ,XK,XL,XM,XN,XO,XP,XQ,XR,XS,XT,XU,XV,XW,XX,XY,XZ,Y0,Try.q3,Try.q4,Try.q29,Try.underlying37,Try.q37,Try.q93,Try.underlying97,Try.q97]
  simp -implicitDefEqProofs only [w1,d0,w0,d1,Q0,Q1,Q2,Q3,Q4,Q5,Q6,Q7,Q8,Q9,Qa,Qb,Qc,Qd,Qe,Qf,Qg,Qh,Qi,Qj,Qk,Ql,Qm,Qn,Qo,Qp,Qq,Qr,Qs,Qt,Qu,Qv,Qw,Qx,Qy,Qz,QA,QB,QC,QD,QE,QF,QG,QH,QI,QJ,QK,QL,QM,QN,QO,QP,QQ,QR,QS,QT,QU,QV,QW,QX,QY,QZ,X0,X1,X2,X3,X4,X5,X6,X7,X8,X9,Xa,Xb,Xc,Xd,Xe,Xf,Xg,Xh,Xi,Xj,Xk,Xl,Xm,Xn,Xo,Xp,Xq,Xr,Xs,Xt,Xu,Xv,Xw,Xx,Xy,Xz,XA,XB,reduceIte,reduceCtorEq,XC,XD,XE,XF,XG,XH,XI,XJ,XK,XL,XM,XN,XO,XP,XQ,XR,XS,XT,XU,XV,XW,XX,XY,XZ,Y0,Try.q3,Try.q4,Try.q29,Try.underlying37,Try.q37,Try.q93,Try.underlying97,Try.q97]
  refine awp_loop (fun z : Nat × Nat => [(14, .int .i64 ((A.length + z.1 : Nat) : Int)), (15, .int .i64 ((A.length + z.2 : Nat) : Int)), (0, .mvec id 0 n 6), (2, .int .i64 (A.length + X.length : Nat)), (4, cmpV)])
    (fun z s => s = σ ∧ z.1 ≤ z.2 ∧ z.2 ≤ X.length ∧ (∀ t, t < z.1 → (X.getD t default).day ≤ y.day) ∧ (∀ t, z.2 ≤ t → t < X.length → y.day ≤ (X.getD t default).day)) (fun z => z.2 - z.1) (0, X.length) (by kernel_rfl) (by simp [sub_cons, sub_nil, get_cons])
    ⟨rfl, by simp, by simp, by simp, fun t h1 h2 => absurd h1 (Nat.not_le.2 h2)⟩ ?_
  rintro ⟨p, q⟩ s ⟨rfl, hpq, hq, hlo, hhi⟩
  simp only at hpq hq hlo hhi
  by_cases hlt : p < q
  · have d2 : decide (((A.length + p : Nat) : Int) < ((A.length + q : Nat) : Int)) = true := decide_eq_true (by omega)
    simp -implicitDefEqProofs only [d2,Q0,Q1,Q2,Q3,Q4,Q5,Q6,Q7,Q8,Q9,Qa,Qb,Qc,Qd,Qe,Qf,Qg,Qh,Qi,Qj,Qk,Ql,Qm,Qn,Qo,Qp,Qq,Qr,Qs,Qt,Qu,Qv,Qw,Qx,Qy,Qz,QA,QB,QC,QD,QE,QF,QG,QH,QI,QJ,QK,QL,QM,QN,QO,QP,QQ,QR,QS,QT,QU,QV,QW,QX,QY,QZ,X0,X1,X2,X3,X4,X5,X6,X7,X8,X9,Xa,Xb,Xc,Xd,Xe,Xf,Xg,Xh,Xi,Xj,Xk,Xl,Xm,Xn,Xo,Xp,Xq,Xr,Xs,Xt,Xu,Xv,Xw,Xx,Xy,Xz,XA,XB,reduceIte,reduceCtorEq,XC,XD,XE,XF,XG,XH,XI,XJ,XK,XL,XM,XN,XO,XP,XQ,XR,XS,XT,XU,XV,XW,XX,XY,XZ,Y0,Try.q3,Try.q4,Try.q29,Try.underlying37,Try.q37,Try.q93,Try.underlying97,Try.q97]
    have w2 : IntKind.i64.wrap (((A.length + p : Nat) : Int) + ((A.length + q : Nat) : Int)) = ((2 * A.length + (p + q) : Nat) : Int) := by rw [wrap_i64 (by omega) (by omega)]; omega
    obtain ⟨h, hh⟩ : ∃ h, h = (p + q) / 2 := ⟨_, rfl⟩
    have w3 : IntKind.i64.wrap (ishr IntKind.u64 (IntKind.u64.wrap ((2 * A.length + (p + q) : Nat) : Int)) 1) = ((A.length + h : Nat) : Int) := by rw [half _ (by omega)]; omega
    have hp : p ≤ h := by omega
    have hq1 : h < q := by omega
    have hhX : h < X.length := by omega
    have g1 : (L.map entA).getD ((A.length + h : Nat) : Int).toNat [] = entA (X.getD h default) := by
      rw [Int.toNat_natCast, hL, List.append_assoc (A ++ X)]
      exact row_mid A X ([y] ++ B) hhX rfl
    have g2 : (L.map entA).getD ((A.length + X.length : Nat) : Int).toNat [] = entA y := by
      rw [Int.toNat_natCast, hL, List.append_assoc (A ++ X)]
      exact row_at (A ++ X) _ y (by rw [List.length_append])
    have gl : (L.map entA).length = n := by rw [List.length_map, hL]; simp only [List.length_append, List.length_cons, List.length_nil]; omega
    have k := c_cmp y (X.getD h default) hDy (hDX _ (getD_mem hhX))
    have hlow := fun t (ht : t ≤ h) => srt_le hX hhX ht
    have hhigh := fun t (ht : h ≤ t) (ht2 : t < X.length) => srt_le hX ht2 ht
    generalize X.getD h default = x at *
    have hg : s[id]? = some (.vecR 6 (L.map entA)) := h0
    generalize L.map entA = RS at *
    have wh : IntKind.i64.wrap (((A.length + h : Nat) : Int) + 1) = ((A.length + (h + 1) : Nat) : Int) := by rw [wrap_i64 (by omega) (by omega)]; omega
    refine awp_draws [] Try.mixed (by kernel_rfl) ?_
    simp -implicitDefEqProofs only [w2,w3,hg,g1,g2,gl,entA_take,entA_six,entA_all,Q0,Q1,Q2,Q3,Q4,Q5,Q6,Q7,Q8,Q9,Qa,Qb,Qc,Qd,Qe,Qf,Qg,Qh,Qi,Qj,Qk,Ql,Qm,Qn,Qo,Qp,Qq,Qr,Qs,Qt,Qu,Qv,Qw,Qx,Qy,Qz,QA,QB,QC,QD,QE,QF,QG,QH,QI,QJ,QK,QL,QM,QN,QO,QP,QQ,QR,QS,QT,QU,QV,QW,QX,QY,QZ,X0,X1,X2,X3,X4,X5,X6,X7,X8,X9,Xa,Xb,Xc,Xd,Xe,Xf,Xg,Xh,Xi,Xj,Xk,Xl,Xm,Xn,Xo,Xp,Xq,Xr,Xs,Xt,Xu,Xv,Xw,Xx,Xy,Xz,XA,XB,reduceIte,reduceCtorEq,XC,XD,XE,XF,XG,XH,XI,XJ,XK,XL,XM,XN,XO,XP,XQ,XR,XS,XT,XU,XV,XW,XX,XY,XZ,Y0,Try.q3,Try.q4,Try.q29,Try.underlying37,Try.q37,Try.q93,Try.underlying97,Try.q97]
    refine ⟨by omega, by omega, by omega, by omega, ?_⟩
    by_cases hyx : y.day < x.day
    · have d3 : decide (y.day - x.day < 0) = true := decide_eq_true (by omega)
      refine dCall_of (k _) (by decide) ?_
      simp -implicitDefEqProofs only [d3,Q0,Q1,Q2,Q3,Q4,Q5,Q6,Q7,Q8,Q9,Qa,Qb,Qc,Qd,Qe,Qf,Qg,Qh,Qi,Qj,Qk,Ql,Qm,Qn,Qo,Qp,Qq,Qr,Qs,Qt,Qu,Qv,Qw,Qx,Qy,Qz,QA,QB,QC,QD,QE,QF,QG,QH,QI,QJ,QK,QL,QM,QN,QO,QP,QQ,QR,QS,QT,QU,QV,QW,QX,QY,QZ,X0,X1,X2,X3,X4,X5,X6,X7,X8,X9,Xa,Xb,Xc,Xd,Xe,Xf,Xg,Xh,Xi,Xj,Xk,Xl,Xm,Xn,Xo,Xp,Xq,Xr,Xs,Xt,Xu,Xv,Xw,Xx,Xy,Xz,XA,XB,reduceIte,reduceCtorEq,XC,XD,XE,XF,XG,XH,XI,XJ,XK,XL,XM,XN,XO,XP,XQ,XR,XS,XT,XU,XV,XW,XX,XY,XZ,Y0,Try.q3,Try.q4,Try.q29,Try.underlying37,Try.q37,Try.q93,Try.underlying97,Try.q97]
      exact ⟨(p, h), by simp, ⟨hp, by simp only; omega, hlo, fun t ht ht2 => by have := hhigh t ht ht2; omega⟩, by simp only; omega⟩
    · have d3 : decide (y.day - x.day < 0) = false := decide_eq_false (by omega)
      refine dCall_of (k _) (by decide) ?_
      simp -implicitDefEqProofs only [d3,wh,Q0,Q1,Q2,Q3,Q4,Q5,Q6,Q7,Q8,Q9,Qa,Qb,Qc,Qd,Qe,Qf,Qg,Qh,Qi,Qj,Qk,Ql,Qm,Qn,Qo,Qp,Qq,Qr,Qs,Qt,Qu,Qv,Qw,Qx,Qy,Qz,QA,QB,QC,QD,QE,QF,QG,QH,QI,QJ,QK,QL,QM,QN,QO,QP,QQ,QR,QS,QT,QU,QV,QW,QX,QY,QZ,X0,X1,X2,X3,X4,X5,X6,X7,X8,X9,Xa,Xb,Xc,Xd,Xe,Xf,Xg,Xh,Xi,Xj,Xk,Xl,Xm,Xn,Xo,Xp,Xq,Xr,Xs,Xt,Xu,Xv,Xw,Xx,Xy,Xz,XA,XB,reduceIte,reduceCtorEq,XC,XD,XE,XF,XG,XH,XI,XJ,XK,XL,XM,XN,XO,XP,XQ,XR,XS,XT,XU,XV,XW,XX,XY,XZ,Y0,Try.q3,Try.q4,Try.q29,Try.underlying37,Try.q37,Try.q93,Try.underlying97,Try.q97]
      exact ⟨(h + 1, q), by simp, ⟨by simp only; omega, hq, fun t ht => by have := hlow t (by simp only at ht; omega); omega, hhi⟩, by simp only; omega⟩
  · have d2 : decide (((A.length + p : Nat) : Int) < ((A.length + q : Nat) : Int)) = false := decide_eq_false (by omega)
    have hpq1 : p = q := by omega
    subst hpq1
    simp -implicitDefEqProofs only [d2,Q0,Q1,Q2,Q3,Q4,Q5,Q6,Q7,Q8,Q9,Qa,Qb,Qc,Qd,Qe,Qf,Qg,Qh,Qi,Qj,Qk,Ql,Qm,Qn,Qo,Qp,Qq,Qr,Qs,Qt,Qu,Qv,Qw,Qx,Qy,Qz,QA,QB,QC,QD,QE,QF,QG,QH,QI,QJ,QK,QL,QM,QN,QO,QP,QQ,QR,QS,QT,QU,QV,QW,QX,QY,QZ,X0,X1,X2,X3,X4,X5,X6,X7,X8,X9,Xa,Xb,Xc,Xd,Xe,Xf,Xg,Xh,Xi,Xj,Xk,Xl,Xm,Xn,Xo,Xp,Xq,Xr,Xs,Xt,Xu,Xv,Xw,Xx,Xy,Xz,XA,XB,reduceIte,reduceCtorEq,XC,XD,XE,XF,XG,XH,XI,XJ,XK,XL,XM,XN,XO,XP,XQ,XR,XS,XT,XU,XV,XW,XX,XY,XZ,Y0,Try.q3,Try.q4,Try.q29,Try.underlying37,Try.q37,Try.q93,Try.underlying97,Try.q97]
    refine awp_loop (fun t : Nat => [(17, .int .i64 ((A.length + t : Nat) : Int)), (14, .int .i64 ((A.length + p : Nat) : Int)), (0, .mvec id 0 n 6)])
      (fun t s1 => p ≤ t ∧ t ≤ X.length ∧ s1 = s.set id (rowsE (A ++ (X.take t ++ y :: X.drop t) ++ B))) (fun t => t - p) X.length (by kernel_rfl) (by simp [sub_cons, sub_nil, get_cons])
      ⟨by omega, by omega, by rw [hσ]; simp⟩ ?_
    rintro t s1 ⟨ht, htX, hs1⟩
    by_cases hlt2 : p < t
    · have d3 : decide (((A.length + p : Nat) : Int) < ((A.length + t : Nat) : Int)) = true := decide_eq_true (by omega)
      obtain ⟨u, rfl⟩ : ∃ u, t = u + 1 := ⟨t - 1, by omega⟩
      have huX : u < X.length := by omega
      obtain ⟨U, hU⟩ : ∃ U, U = A ++ X.take u := ⟨_, rfl⟩
      obtain ⟨W, hW⟩ : ∃ W, W = X.drop (u + 1) ++ B := ⟨_, rfl⟩
      have e1 : A ++ (X.take (u + 1) ++ y :: X.drop (u + 1)) ++ B = U ++ X[u] :: y :: W := by simp only [hU, hW, List.take_succ_eq_append_getElem huX, List.append_assoc, List.cons_append, List.nil_append]
      have e2 : A ++ (X.take u ++ y :: X.drop u) ++ B = U ++ y :: X[u] :: W := by simp only [hU, hW, List.drop_eq_getElem_cons huX, List.append_assoc, List.cons_append]
      have lU : A.length + u = U.length := by rw [hU, List.length_append, List.length_take]; omega
      have ln : U.length + 2 + W.length = n := by rw [hU, hW]; simp only [List.length_append, List.length_take, List.length_drop]; omega
      generalize X[u] = x at *
      have g1 := adj1 U W x y (n := A.length + (u + 1)) (by omega)
      have g2 := adj0 U W x y (n := A.length + u) (by omega)
      have g3 := adjS1 U W x y x (n := A.length + (u + 1)) (by omega)
      have g4 := adj0 U W x x (n := A.length + u) (by omega)
      have g5 := adjS0 U W x x y (n := A.length + u) (by omega)
      have gl := adjL U W x y ln
      have gl1 := adjL U W x x ln
      have e2' : rowsE (A ++ (X.take u ++ y :: X.drop u) ++ B) = rowsE (U ++ y :: x :: W) := by rw [e2]
      rw [e1] at hs1
      unfold rowsE at hs1 e2'
      generalize (U ++ x :: y :: W).map entA = RS at *
      generalize (U ++ x :: x :: W).map entA = RT at *
      have hg : s1[id]? = some (.vecR 6 RS) := by rw [hs1]; exact List.getElem?_set_self hid
      have hss : ∀ x, s1.set id x = s.set id x := by intro x; rw [hs1]; simp
      have hss2 : ∀ x y, (s.set id x).set id y = s.set id y := by intro x y; simp
      have hg2 : ∀ x, (s.set id x)[id]? = some x := fun x => List.getElem?_set_self hid
      have w6 : IntKind.i64.wrap (((A.length + (u + 1) : Nat) : Int) - 1) = ((A.length + u : Nat) : Int) := by rw [wrap_i64 (by omega) (by omega)]; omega
      simp -implicitDefEqProofs only [d3,Q0,Q1,Q2,Q3,Q4,Q5,Q6,Q7,Q8,Q9,Qa,Qb,Qc,Qd,Qe,Qf,Qg,Qh,Qi,Qj,Qk,Ql,Qm,Qn,Qo,Qp,Qq,Qr,Qs,Qt,Qu,Qv,Qw,Qx,Qy,Qz,QA,QB,QC,QD,QE,QF,QG,QH,QI,QJ,QK,QL,QM,QN,QO,QP,QQ,QR,QS,QT,QU,QV,QW,QX,QY,QZ,X0,X1,X2,X3,X4,X5,X6,X7,X8,X9,Xa,Xb,Xc,Xd,Xe,Xf,Xg,Xh,Xi,Xj,Xk,Xl,Xm,Xn,Xo,Xp,Xq,Xr,Xs,Xt,Xu,Xv,Xw,Xx,Xy,Xz,XA,XB,reduceIte,reduceCtorEq,XC,XD,XE,XF,XG,XH,XI,XJ,XK,XL,XM,XN,XO,XP,XQ,XR,XS,XT,XU,XV,XW,XX,XY,XZ,Y0,Try.q3,Try.q4,Try.q29,Try.underlying37,Try.q37,Try.q93,Try.underlying97,Try.q97]
      refine awp_draws [15, 17, 100009, 100013] Try.mixed (by kernel_rfl) ?_
      simp -implicitDefEqProofs only [w6,hg,hss,hss2,hg2,g1,g2,g3,g4,g5,gl,gl1,entA_take,entA_six,entA_all,entA_drop,Xb,Q0,Q1,Q2,Q3,Q4,Q5,Q6,Q7,Q8,Q9,Qa,Qb,Qc,Qd,Qe,Qf,Qg,Qh,Qi,Qj,Qk,Ql,Qm,Qn,Qo,Qp,Qq,Qr,Qs,Qt,Qu,Qv,Qw,Qx,Qy,Qz,QA,QB,QC,QD,QE,QF,QG,QH,QI,QJ,QK,QL,QM,QN,QO,QP,QQ,QR,QS,QT,QU,QV,QW,QX,QY,QZ,X0,X1,X2,X3,X4,X5,X6,X7,X8,X9,Xa,Xb,Xc,Xd,Xe,Xf,Xg,Xh,Xi,Xj,Xk,Xl,Xm,Xn,Xo,Xp,Xq,Xr,Xs,Xt,Xu,Xv,Xw,Xx,Xy,Xz,XA,XB,reduceIte,reduceCtorEq,XC,XD,XE,XF,XG,XH,XI,XJ,XK,XL,XM,XN,XO,XP,XQ,XR,XS,XT,XU,XV,XW,XX,XY,XZ,Y0,Try.q3,Try.q4,Try.q29,Try.underlying37,Try.q37,Try.q93,Try.underlying97,Try.q97]
      refine ⟨by omega, by omega, by omega, by omega, by omega, by omega, by omega, by omega, u, rfl, ⟨by omega, by omega, ?_⟩, by omega⟩
      exact congrArg (fun o => s.set id o) e2'.symm
    · have d3 : decide (((A.length + p : Nat) : Int) < ((A.length + t : Nat) : Int)) = false := decide_eq_false (by omega)
      have : t = p := by omega
      subst this
      simp -implicitDefEqProofs only [d3,Q0,Q1,Q2,Q3,Q4,Q5,Q6,Q7,Q8,Q9,Qa,Qb,Qc,Qd,Qe,Qf,Qg,Qh,Qi,Qj,Qk,Ql,Qm,Qn,Qo,Qp,Qq,Qr,Qs,Qt,Qu,Qv,Qw,Qx,Qy,Qz,QA,QB,QC,QD,QE,QF,QG,QH,QI,QJ,QK,QL,QM,QN,QO,QP,QQ,QR,QS,QT,QU,QV,QW,QX,QY,QZ,X0,X1,X2,X3,X4,X5,X6,X7,X8,X9,Xa,Xb,Xc,Xd,Xe,Xf,Xg,Xh,Xi,Xj,Xk,Xl,Xm,Xn,Xo,Xp,Xq,Xr,Xs,Xt,Xu,Xv,Xw,Xx,Xy,Xz,XA,XB,reduceIte,reduceCtorEq,XC,XD,XE,XF,XG,XH,XI,XJ,XK,XL,XM,XN,XO,XP,XQ,XR,XS,XT,XU,XV,XW,XX,XY,XZ,Y0,Try.q3,Try.q4,Try.q29,Try.underlying37,Try.q37,Try.q93,Try.underlying97,Try.q97]
      refine ⟨X.take t ++ y :: X.drop t, ?_, ?_, hs1⟩
      · refine List.perm_middle.trans ?_
        rw [List.take_append_drop]
        exact List.perm_append_comm (l₁ := [y])
      · refine srt_ins (by rw [List.take_append_drop]; exact hX) ?_ ?_
        · intro z hz
          obtain ⟨i, hi, rfl⟩ := List.getElem_of_mem hz
          rw [List.length_take] at hi
          rw [List.getElem_take]
          have := hlo i (by omega)
          rwa [getD_get (by omega)] at this
        · intro z hz
          obtain ⟨i, hi, rfl⟩ := List.getElem_of_mem hz
          rw [List.length_drop] at hi
          rw [List.getElem_drop]
          have := hhi (t + i) (by omega) (by omega)
          rwa [getD_get (by omega)] at this

end Go.Proofs
