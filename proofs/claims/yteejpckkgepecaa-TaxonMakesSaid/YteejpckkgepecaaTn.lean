/-
  Taxonomies: membership, and classes made from numbers; contracts.
-/
import Derived.Test.YteejpckkgepecaaTm
namespace Go.Proofs
open Go.Pa
open Go.Pa renaming VB0 → Q0, VB1 → Q1, VB2 → Q2, VB3 → Q3, VB4 → Q4, VB5 → Q5, VB6 → Q6, VB7 → Q7, condV_bool → Q8, guardV_bool → Q9, vcS → Qa, evA → Qb, evBin → Qc, nilA → Qd, nilOf → Qe, intOp → Qf, strOp → Qg, evUn → Qh, evConv → Qi, evField → Qj, evFieldAddr → Qk, evIndexAddr → Ql, evIndex → Qm, evIndexA → Qn, bnd → Qo, evSlice → Qp, evLen → Qq, evPick → Qr, evExtract → Qs, evNilCheck → Qt, evMin → Qu, evMax → Qv, evLoadI → Qw, partsOne → Qy, intsOf → Qz, rowsAV → QA, evBuildSlice → QB, evBuild → QC, fillA → QD, splice → QE, evBuiltin → QF, guardD_bool → QG, dOp → QH, cl → QI, vcLoad → QJ, vcStore → QK, vcMake → QL, convA → QM, evIndexArr → QN, retA → QO, ressA → QP, resA → QQ, envOf → QR, condR_bool → QV, asgEnv → QW, parEnv → QX, dstAt → XG, vcLook → XR, vcPut → XS, vcEnt → XT, vcESt → XU, vcMLen → XV, vcDel → XW, vcClear → XX, vcLookD → XY
open Go.Pa.AV renaming cell → Qx
open Go.Pa.Env renaming put → QS
open List renaming set_cons_zero → QT, set_cons_succ → QU, foldl_cons → QY, foldl_nil → QZ, map_cons → X0, map_nil → X1, toList_toArray → X2, getElem?_cons_zero → X3, getElem?_cons_succ → X4, nil_append → X8, append_nil → X9, cons_append → Xa, singleton_append → Xb, length_cons → Xc, length_nil → Xd, all_cons → Xe, all_nil → Xf, take_succ_cons → Xg, take_zero → Xh, take_nil → Xi, drop_zero → Xj, drop_succ_cons → Xk, drop_nil → Xl, contains_nil → Xm, contains_cons → Xn
open Option renaming bind_some → X5, map_some → X6, map_none → X7
open Bool renaming or_false → Xo, false_or → Xp, or_true → Xq, true_or → Xr, false_eq_true → XA, not_true → XB, not_false → XC, and_true → XD, true_and → XE, and_self → XF
open Nat renaming reduceEqDiff → Xs, reduceAdd → Xt, reduceSub → Xu, reduceMul → Xv, reduceLT → Xw, reduceLeDiff → Xx, reduceBNe → Xy, reduceBEq → Xz, zero_add → XJ, add_zero → XK
open UInt8 renaming reduceToNat → XH
open Int renaming cast_ofNat_Int → XI, reduceToNat → XL, reduceLT → XM, reduceLE → XN, reduceNeg → XO, reduceEq → XP, reduceNe → XQ
set_option linter.unusedSimpArgs false
set_option linter.unusedVariables false
set_option maxRecDepth 20000
set_option maxHeartbeats 2000000

theorem r_has (l : List Int) (n : Int) (hl : l.length ≤ 1000000) (σ : Store) : ACalls Try.prog 24 [.ints .i64 l, .int .i64 n] σ (fun r s => r = .bool (decide (n ∈ l)) ∧ s = σ) := by
  refine acalls_of_vc (fn := Try.f24) Try.call24 Try.func24 rfl (by kernel_rfl) (by simp [Try.ntmps24]) ?_; simp -implicitDefEqProofs only [Try.ntmps24,Try.results24,Q0,Q1,Q2,Q3,Q4,Q5,Q6,Q7,Q8,Q9,Qa,Qb,Qc,Qd,Qe,Qf,Qg,Qh,Qi,Qj,Qk,Ql,Qm,Qn,Qo,Qp,Qq,Qr,Qs,Qt,Qu,Qv,Qw,Qx,Qy,Qz,QA,QB,QC,QD,QE,QF,QG,QH,QI,QJ,QK,QL,QM,QN,QO,QP,QQ,QR,QS,QT,QU,QV,QW,QX,QY,QZ,X0,X1,X2,X3,X4,X5,X6,X7,X8,X9,Xa,Xb,Xc,Xd,Xe,Xf,Xg,Xh,Xi,Xj,Xk,Xl,Xm,Xn,Xo,Xp,Xq,Xr,Xs,Xt,Xu,Xv,Xw,Xx,Xy,Xz,reduceIte,reduceCtorEq,ite_true,ite_false,if_true,if_false,XA,XB,XC,XD,XE,XF,and_true,true_and,and_self,true_imp_iff,false_imp_iff,eq_self,not_true_eq_false,not_false_eq_true,ne_eq,decide_true,decide_false,XG,XH,XI,XJ,XK,XL,XM,XN,XO,XP,XQ,XR,XS,XT,XU,XV,XW,XX,XY,Try.underlying3,Try.q3,Try.underlying4,Try.q4,Try.underlying22,Try.q22]
  refine awp_loop (fun i : Nat => [(5, .int .i64 i), (0, .ints .i64 l), (1, .int .i64 n)]) (fun i s => i ≤ l.length ∧ n ∉ l.take i ∧ s = σ) (fun i => l.length - i) 0 (by kernel_rfl) (by simp [sub_cons, sub_nil, get_cons]) ⟨by omega, by simp, rfl⟩ ?_
  rintro i s ⟨hi, hno, rfl⟩
  by_cases hlt : i < l.length
  · have d1 : decide ((i : Int) < (l.length : Int)) = true := decide_eq_true (by omega)
    have hget : l.getD ((i : Int).toNat) 0 = l[i] := by rw [Int.toNat_natCast, getD_get hlt]
    have wi : IntKind.i64.wrap ((i : Int) + 1) = ((i + 1 : Nat) : Int) := by rw [wrap_i64 (by omega) (by omega)]; rfl
    by_cases h : l[i] = n
    · have d2 : decide (l[i] = n) = true := decide_eq_true h
      have dm : decide (n ∈ l) = true := decide_eq_true (h ▸ List.getElem_mem hlt)
      rw [dm]
      simp -implicitDefEqProofs only [d1,hget,d2,Q0,Q1,Q2,Q3,Q4,Q5,Q6,Q7,Q8,Q9,Qa,Qb,Qc,Qd,Qe,Qf,Qg,Qh,Qi,Qj,Qk,Ql,Qm,Qn,Qo,Qp,Qq,Qr,Qs,Qt,Qu,Qv,Qw,Qx,Qy,Qz,QA,QB,QC,QD,QE,QF,QG,QH,QI,QJ,QK,QL,QM,QN,QO,QP,QQ,QR,QS,QT,QU,QV,QW,QX,QY,QZ,X0,X1,X2,X3,X4,X5,X6,X7,X8,X9,Xa,Xb,Xc,Xd,Xe,Xf,Xg,Xh,Xi,Xj,Xk,Xl,Xm,Xn,Xo,Xp,Xq,Xr,Xs,Xt,Xu,Xv,Xw,Xx,Xy,Xz,reduceIte,reduceCtorEq,ite_true,ite_false,if_true,if_false,XA,XB,XC,XD,XE,XF,and_true,true_and,and_self,true_imp_iff,false_imp_iff,eq_self,not_true_eq_false,not_false_eq_true,ne_eq,decide_true,decide_false,XG,XH,XI,XJ,XK,XL,XM,XN,XO,XP,XQ,XR,XS,XT,XU,XV,XW,XX,XY,Try.underlying3,Try.q3,Try.underlying4,Try.q4,Try.underlying22,Try.q22]
      omega
    · have d2 : decide (l[i] = n) = false := decide_eq_false h
      simp -implicitDefEqProofs only [d1,hget,d2,wi,Q0,Q1,Q2,Q3,Q4,Q5,Q6,Q7,Q8,Q9,Qa,Qb,Qc,Qd,Qe,Qf,Qg,Qh,Qi,Qj,Qk,Ql,Qm,Qn,Qo,Qp,Qq,Qr,Qs,Qt,Qu,Qv,Qw,Qx,Qy,Qz,QA,QB,QC,QD,QE,QF,QG,QH,QI,QJ,QK,QL,QM,QN,QO,QP,QQ,QR,QS,QT,QU,QV,QW,QX,QY,QZ,X0,X1,X2,X3,X4,X5,X6,X7,X8,X9,Xa,Xb,Xc,Xd,Xe,Xf,Xg,Xh,Xi,Xj,Xk,Xl,Xm,Xn,Xo,Xp,Xq,Xr,Xs,Xt,Xu,Xv,Xw,Xx,Xy,Xz,reduceIte,reduceCtorEq,ite_true,ite_false,if_true,if_false,XA,XB,XC,XD,XE,XF,and_true,true_and,and_self,true_imp_iff,false_imp_iff,eq_self,not_true_eq_false,not_false_eq_true,ne_eq,decide_true,decide_false,XG,XH,XI,XJ,XK,XL,XM,XN,XO,XP,XQ,XR,XS,XT,XU,XV,XW,XX,XY,Try.underlying3,Try.q3,Try.underlying4,Try.q4,Try.underlying22,Try.q22]
      refine ⟨by omega, i + 1, rfl, ⟨by omega, ?_⟩, by omega⟩
      rw [List.take_add_one, List.getElem?_eq_getElem hlt, Option.toList_some, List.mem_append]
      rintro (h1 | h1)
      · exact hno h1
      · exact h (List.mem_singleton.1 h1).symm
  · have d1 : decide ((i : Int) < (l.length : Int)) = false := decide_eq_false (by omega)
    rw [List.take_of_length_le (by omega)] at hno
    have dm : decide (n ∈ l) = false := decide_eq_false hno
    rw [dm]
    simp -implicitDefEqProofs only [d1,Q0,Q1,Q2,Q3,Q4,Q5,Q6,Q7,Q8,Q9,Qa,Qb,Qc,Qd,Qe,Qf,Qg,Qh,Qi,Qj,Qk,Ql,Qm,Qn,Qo,Qp,Qq,Qr,Qs,Qt,Qu,Qv,Qw,Qx,Qy,Qz,QA,QB,QC,QD,QE,QF,QG,QH,QI,QJ,QK,QL,QM,QN,QO,QP,QQ,QR,QS,QT,QU,QV,QW,QX,QY,QZ,X0,X1,X2,X3,X4,X5,X6,X7,X8,X9,Xa,Xb,Xc,Xd,Xe,Xf,Xg,Xh,Xi,Xj,Xk,Xl,Xm,Xn,Xo,Xp,Xq,Xr,Xs,Xt,Xu,Xv,Xw,Xx,Xy,Xz,reduceIte,reduceCtorEq,ite_true,ite_false,if_true,if_false,XA,XB,XC,XD,XE,XF,and_true,true_and,and_self,true_imp_iff,false_imp_iff,eq_self,not_true_eq_false,not_false_eq_true,ne_eq,decide_true,decide_false,XG,XH,XI,XJ,XK,XL,XM,XN,XO,XP,XQ,XR,XS,XT,XU,XV,XW,XX,XY,Try.underlying3,Try.q3,Try.underlying4,Try.q4,Try.underlying22,Try.q22]

def someV (n : Nat) (k : Int) : Int := if k < 50 * (n : Int) then k.tmod n else [(-1 : Int), (n : Int), 64].getD (k - 50 * (n : Int)).toNat 0
def someI (n : Nat) (l : List Int) : List Int := (List.range (min l.length 6)).map fun i : Nat => someV n (pickI l (i : Int) (50 * (n : Int) + 3))
theorem someI_len (n : Nat) (l : List Int) : (someI n l).length = min l.length 6 := by simp [someI]
theorem someI_take (n : Nat) (l : List Int) {i : Nat} (h : i < min l.length 6) : (someI n l).take (i + 1) = (someI n l).take i ++ [someV n (pickI l (i : Int) (50 * (n : Int) + 3))] := by
  rw [List.take_succ_eq_append_getElem (by rw [someI_len]; exact h)]
  simp [someI]

theorem r_some (rs : List (List AV)) (h1 : 1 ≤ rs.length) (h64 : rs.length ≤ 64) (l : List Int) (hl : ∀ x ∈ l, Okk .i64 x) (σ : Store) :
    ACalls Try.prog 18 [.rows 1 rs, .ints .i64 l] σ (fun r s => r = .ints .i64 (someI rs.length l) ∧ s = σ) := by
  refine ACalls.freshFrozen (ACalls.fresh ?_)
  obtain ⟨n, hn⟩ : ∃ n, n = rs.length := ⟨_, rfl⟩
  rw [← hn] at h1 h64 ⊢
  have w50 : IntKind.i64.wrap (50 * (n : Int)) = 50 * (n : Int) := wrap_i64 (by omega) (by omega)
  have w53 : IntKind.i64.wrap (50 * (n : Int) + 3) = 50 * (n : Int) + 3 := wrap_i64 (by omega) (by omega)
  have n0 : (n : Int) ≠ 0 := by omega
  have hml : rs.length = n := hn.symm
  refine acalls_of_vc (fn := Try.f18) Try.call18 Try.func18 rfl (by kernel_rfl) (by simp [Try.ntmps18]) ?_; simp -implicitDefEqProofs only [Try.ntmps18,Try.results18,Q0,Q1,Q2,Q3,Q4,Q5,Q6,Q7,Q8,Q9,Qa,Qb,Qc,Qd,Qe,Qf,Qg,Qh,Qi,Qj,Qk,Ql,Qm,Qn,Qo,Qp,Qq,Qr,Qs,Qt,Qu,Qv,Qw,Qx,Qy,Qz,QA,QB,QC,QD,QE,QF,QG,QH,QI,QJ,QK,QL,QM,QN,QO,QP,QQ,QR,QS,QT,QU,QV,QW,QX,QY,QZ,X0,X1,X2,X3,X4,X5,X6,X7,X8,X9,Xa,Xb,Xc,Xd,Xe,Xf,Xg,Xh,Xi,Xj,Xk,Xl,Xm,Xn,Xo,Xp,Xq,Xr,Xs,Xt,Xu,Xv,Xw,Xx,Xy,Xz,reduceIte,reduceCtorEq,ite_true,ite_false,if_true,if_false,XA,XB,XC,XD,XE,XF,and_true,true_and,and_self,true_imp_iff,false_imp_iff,eq_self,not_true_eq_false,not_false_eq_true,ne_eq,decide_true,decide_false,XG,XH,XI,XJ,XK,XL,XM,XN,XO,XP,XQ,XR,XS,XT,XU,XV,XW,XX,XY,Try.underlying3,Try.q3,Try.underlying4,Try.q4,Try.underlying22,Try.q22,Try.underlying23,Try.q23]
  refine awp_loop (fun q : Nat × AV => [(6, .int .i64 q.1), (5, q.2), (0, .rows 1 rs), (1, .ints .i64 l)]) (fun q s => q.1 ≤ min l.length 6 ∧ Ext σ s ∧ BufI s σ.length q.2 .i64 ((someI n l).take q.1)) (fun q => 6 - q.1) (0, .nils) (by kernel_rfl) (by simp [sub_cons, sub_nil, get_cons]) ⟨by simp, .refl _, .inl ⟨.inl rfl, rfl⟩⟩ ?_
  rintro ⟨i, r⟩ s ⟨hi, hx, hbuf⟩
  simp only at hi hbuf
  by_cases hlt : i < min l.length 6
  · have d1 : decide ((i : Int) < (l.length : Int)) = true := decide_eq_true (by omega)
    have d2 : decide ((i : Int) < 6) = true := decide_eq_true (by omega)
    have wi : IntKind.i64.wrap ((i : Int) + 1) = ((i + 1 : Nat) : Int) := by rw [wrap_i64 (by omega) (by omega)]; rfl
    have kp := fun σ => r_pick l (i : Int) (50 * (n : Int) + 3) (by omega) σ
    have bp := pick_bound hl (i : Int) (m := 50 * (n : Int) + 3) (by omega)
    have ht := someI_take n l hlt
    have hlen : ((someI n l).take i).length = i := by rw [List.length_take, someI_len]; omega
    generalize pickI l (i : Int) (50 * (n : Int) + 3) = K at kp bp ht
    simp -implicitDefEqProofs only [d1,d2,hml,w50,w53,Q0,Q1,Q2,Q3,Q4,Q5,Q6,Q7,Q8,Q9,Qa,Qb,Qc,Qd,Qe,Qf,Qg,Qh,Qi,Qj,Qk,Ql,Qm,Qn,Qo,Qp,Qq,Qr,Qs,Qt,Qu,Qv,Qw,Qx,Qy,Qz,QA,QB,QC,QD,QE,QF,QG,QH,QI,QJ,QK,QL,QM,QN,QO,QP,QQ,QR,QS,QT,QU,QV,QW,QX,QY,QZ,X0,X1,X2,X3,X4,X5,X6,X7,X8,X9,Xa,Xb,Xc,Xd,Xe,Xf,Xg,Xh,Xi,Xj,Xk,Xl,Xm,Xn,Xo,Xp,Xq,Xr,Xs,Xt,Xu,Xv,Xw,Xx,Xy,Xz,reduceIte,reduceCtorEq,ite_true,ite_false,if_true,if_false,XA,XB,XC,XD,XE,XF,and_true,true_and,and_self,true_imp_iff,false_imp_iff,eq_self,not_true_eq_false,not_false_eq_true,ne_eq,decide_true,decide_false,XG,XH,XI,XJ,XK,XL,XM,XN,XO,XP,XQ,XR,XS,XT,XU,XV,XW,XX,XY,Try.underlying3,Try.q3,Try.underlying4,Try.q4,Try.underlying22,Try.q22,Try.underlying23,Try.q23]
    refine acalls_then (kp _) ?_
    by_cases hK : K < 50 * (n : Int)
    · have d3 : decide (K < 50 * (n : Int)) = true := decide_eq_true hK
      have hv : someV n K = K.tmod n := by unfold someV; rw [if_pos hK]
      rw [hv] at ht
      simp -implicitDefEqProofs only [d3,hml,w50,Q0,Q1,Q2,Q3,Q4,Q5,Q6,Q7,Q8,Q9,Qa,Qb,Qc,Qd,Qe,Qf,Qg,Qh,Qi,Qj,Qk,Ql,Qm,Qn,Qo,Qp,Qq,Qr,Qs,Qt,Qu,Qv,Qw,Qx,Qy,Qz,QA,QB,QC,QD,QE,QF,QG,QH,QI,QJ,QK,QL,QM,QN,QO,QP,QQ,QR,QS,QT,QU,QV,QW,QX,QY,QZ,X0,X1,X2,X3,X4,X5,X6,X7,X8,X9,Xa,Xb,Xc,Xd,Xe,Xf,Xg,Xh,Xi,Xj,Xk,Xl,Xm,Xn,Xo,Xp,Xq,Xr,Xs,Xt,Xu,Xv,Xw,Xx,Xy,Xz,reduceIte,reduceCtorEq,ite_true,ite_false,if_true,if_false,XA,XB,XC,XD,XE,XF,and_true,true_and,and_self,true_imp_iff,false_imp_iff,eq_self,not_true_eq_false,not_false_eq_true,ne_eq,decide_true,decide_false,XG,XH,XI,XJ,XK,XL,XM,XN,XO,XP,XQ,XR,XS,XT,XU,XV,XW,XX,XY,Try.underlying3,Try.q3,Try.underlying4,Try.q4,Try.underlying22,Try.q22,Try.underlying23,Try.q23]
      refine ⟨n0, ?_⟩
      refine append_buf Try.sl22 (by simp [Try.bt3]) hx hbuf (.inl rfl) (by simp [appFits, Try.bt3, hlen]; omega) fun r2 s2 hx2 hb2 => ?_
      simp -implicitDefEqProofs only [wi,Q0,Q1,Q2,Q3,Q4,Q5,Q6,Q7,Q8,Q9,Qa,Qb,Qc,Qd,Qe,Qf,Qg,Qh,Qi,Qj,Qk,Ql,Qm,Qn,Qo,Qp,Qq,Qr,Qs,Qt,Qu,Qv,Qw,Qx,Qy,Qz,QA,QB,QC,QD,QE,QF,QG,QH,QI,QJ,QK,QL,QM,QN,QO,QP,QQ,QR,QS,QT,QU,QV,QW,QX,QY,QZ,X0,X1,X2,X3,X4,X5,X6,X7,X8,X9,Xa,Xb,Xc,Xd,Xe,Xf,Xg,Xh,Xi,Xj,Xk,Xl,Xm,Xn,Xo,Xp,Xq,Xr,Xs,Xt,Xu,Xv,Xw,Xx,Xy,Xz,reduceIte,reduceCtorEq,ite_true,ite_false,if_true,if_false,XA,XB,XC,XD,XE,XF,and_true,true_and,and_self,true_imp_iff,false_imp_iff,eq_self,not_true_eq_false,not_false_eq_true,ne_eq,decide_true,decide_false,XG,XH,XI,XJ,XK,XL,XM,XN,XO,XP,XQ,XR,XS,XT,XU,XV,XW,XX,XY,Try.underlying3,Try.q3,Try.underlying4,Try.q4,Try.underlying22,Try.q22,Try.underlying23,Try.q23]
      exact ⟨(i + 1, r2), ⟨rfl, rfl⟩, ⟨by simp only; omega, hx2, by simp only; rw [ht]; exact hb2⟩, by simp only; omega⟩
    · have d3 : decide (K < 50 * (n : Int)) = false := decide_eq_false hK
      have hv : someV n K = [(-1 : Int), (n : Int), 64].getD (K - 50 * (n : Int)).toNat 0 := by unfold someV; rw [if_neg hK]
      have wk : IntKind.i64.wrap (K - 50 * (n : Int)) = K - 50 * (n : Int) := wrap_i64 (by omega) (by omega)
      rw [hv] at ht
      simp -implicitDefEqProofs only [d3,hml,w50,wk,Q0,Q1,Q2,Q3,Q4,Q5,Q6,Q7,Q8,Q9,Qa,Qb,Qc,Qd,Qe,Qf,Qg,Qh,Qi,Qj,Qk,Ql,Qm,Qn,Qo,Qp,Qq,Qr,Qs,Qt,Qu,Qv,Qw,Qx,Qy,Qz,QA,QB,QC,QD,QE,QF,QG,QH,QI,QJ,QK,QL,QM,QN,QO,QP,QQ,QR,QS,QT,QU,QV,QW,QX,QY,QZ,X0,X1,X2,X3,X4,X5,X6,X7,X8,X9,Xa,Xb,Xc,Xd,Xe,Xf,Xg,Xh,Xi,Xj,Xk,Xl,Xm,Xn,Xo,Xp,Xq,Xr,Xs,Xt,Xu,Xv,Xw,Xx,Xy,Xz,reduceIte,reduceCtorEq,ite_true,ite_false,if_true,if_false,XA,XB,XC,XD,XE,XF,and_true,true_and,and_self,true_imp_iff,false_imp_iff,eq_self,not_true_eq_false,not_false_eq_true,ne_eq,decide_true,decide_false,XG,XH,XI,XJ,XK,XL,XM,XN,XO,XP,XQ,XR,XS,XT,XU,XV,XW,XX,XY,Try.underlying3,Try.q3,Try.underlying4,Try.q4,Try.underlying22,Try.q22,Try.underlying23,Try.q23]
      refine ⟨⟨by omega, by omega⟩, ?_⟩
      generalize [(-1 : Int), (n : Int), 64].getD (K - 50 * (n : Int)).toNat 0 = V at ht ⊢
      refine append_buf Try.sl22 (by simp [Try.bt3]) hx hbuf (.inl rfl) (by simp [appFits, Try.bt3, hlen]; omega) fun r2 s2 hx2 hb2 => ?_
      simp -implicitDefEqProofs only [wi,Q0,Q1,Q2,Q3,Q4,Q5,Q6,Q7,Q8,Q9,Qa,Qb,Qc,Qd,Qe,Qf,Qg,Qh,Qi,Qj,Qk,Ql,Qm,Qn,Qo,Qp,Qq,Qr,Qs,Qt,Qu,Qv,Qw,Qx,Qy,Qz,QA,QB,QC,QD,QE,QF,QG,QH,QI,QJ,QK,QL,QM,QN,QO,QP,QQ,QR,QS,QT,QU,QV,QW,QX,QY,QZ,X0,X1,X2,X3,X4,X5,X6,X7,X8,X9,Xa,Xb,Xc,Xd,Xe,Xf,Xg,Xh,Xi,Xj,Xk,Xl,Xm,Xn,Xo,Xp,Xq,Xr,Xs,Xt,Xu,Xv,Xw,Xx,Xy,Xz,reduceIte,reduceCtorEq,ite_true,ite_false,if_true,if_false,XA,XB,XC,XD,XE,XF,and_true,true_and,and_self,true_imp_iff,false_imp_iff,eq_self,not_true_eq_false,not_false_eq_true,ne_eq,decide_true,decide_false,XG,XH,XI,XJ,XK,XL,XM,XN,XO,XP,XQ,XR,XS,XT,XU,XV,XW,XX,XY,Try.underlying3,Try.q3,Try.underlying4,Try.q4,Try.underlying22,Try.q22,Try.underlying23,Try.q23]
      exact ⟨(i + 1, r2), ⟨rfl, rfl⟩, ⟨by simp only; omega, hx2, by simp only; rw [ht]; exact hb2⟩, by simp only; omega⟩
  · have hfin : (someI n l).take i = someI n l := List.take_of_length_le (by rw [someI_len]; omega)
    rw [hfin] at hbuf
    by_cases h2 : i < l.length
    · have d1 : decide ((i : Int) < (l.length : Int)) = true := decide_eq_true (by omega)
      have d2 : decide ((i : Int) < 6) = false := decide_eq_false (by omega)
      simp -implicitDefEqProofs only [d1,d2,Q0,Q1,Q2,Q3,Q4,Q5,Q6,Q7,Q8,Q9,Qa,Qb,Qc,Qd,Qe,Qf,Qg,Qh,Qi,Qj,Qk,Ql,Qm,Qn,Qo,Qp,Qq,Qr,Qs,Qt,Qu,Qv,Qw,Qx,Qy,Qz,QA,QB,QC,QD,QE,QF,QG,QH,QI,QJ,QK,QL,QM,QN,QO,QP,QQ,QR,QS,QT,QU,QV,QW,QX,QY,QZ,X0,X1,X2,X3,X4,X5,X6,X7,X8,X9,Xa,Xb,Xc,Xd,Xe,Xf,Xg,Xh,Xi,Xj,Xk,Xl,Xm,Xn,Xo,Xp,Xq,Xr,Xs,Xt,Xu,Xv,Xw,Xx,Xy,Xz,reduceIte,reduceCtorEq,ite_true,ite_false,if_true,if_false,XA,XB,XC,XD,XE,XF,and_true,true_and,and_self,true_imp_iff,false_imp_iff,eq_self,not_true_eq_false,not_false_eq_true,ne_eq,decide_true,decide_false,XG,XH,XI,XJ,XK,XL,XM,XN,XO,XP,XQ,XR,XS,XT,XU,XV,XW,XX,XY,Try.underlying3,Try.q3,Try.underlying4,Try.q4,Try.underlying22,Try.q22,Try.underlying23,Try.q23]
      exact ⟨hx, hbuf⟩
    · have d1 : decide ((i : Int) < (l.length : Int)) = false := decide_eq_false (by omega)
      simp -implicitDefEqProofs only [d1,Q0,Q1,Q2,Q3,Q4,Q5,Q6,Q7,Q8,Q9,Qa,Qb,Qc,Qd,Qe,Qf,Qg,Qh,Qi,Qj,Qk,Ql,Qm,Qn,Qo,Qp,Qq,Qr,Qs,Qt,Qu,Qv,Qw,Qx,Qy,Qz,QA,QB,QC,QD,QE,QF,QG,QH,QI,QJ,QK,QL,QM,QN,QO,QP,QQ,QR,QS,QT,QU,QV,QW,QX,QY,QZ,X0,X1,X2,X3,X4,X5,X6,X7,X8,X9,Xa,Xb,Xc,Xd,Xe,Xf,Xg,Xh,Xi,Xj,Xk,Xl,Xm,Xn,Xo,Xp,Xq,Xr,Xs,Xt,Xu,Xv,Xw,Xx,Xy,Xz,reduceIte,reduceCtorEq,ite_true,ite_false,if_true,if_false,XA,XB,XC,XD,XE,XF,and_true,true_and,and_self,true_imp_iff,false_imp_iff,eq_self,not_true_eq_false,not_false_eq_true,ne_eq,decide_true,decide_false,XG,XH,XI,XJ,XK,XL,XM,XN,XO,XP,XQ,XR,XS,XT,XU,XV,XW,XX,XY,Try.underlying3,Try.q3,Try.underlying4,Try.q4,Try.underlying22,Try.q22,Try.underlying23,Try.q23]
      exact ⟨hx, hbuf⟩

end Go.Proofs
