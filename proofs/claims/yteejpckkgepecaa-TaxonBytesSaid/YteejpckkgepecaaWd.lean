/-
  The Reader of package wire: Uint.
-/
import Derived.Test.YteejpckkgepecaaWc
namespace Go.Proofs
open Go.Pa
open Go.Pa renaming VB0 → Q0, VB1 → Q1, VB2 → Q2, VB3 → Q3, VB4 → Q4, VB5 → Q5, VB6 → Q6, VB7 → Q7, VB8 → Q8, VB9 → Q9, condV_bool → Qa, guardV_bool → Qb, vcS → Qc, evA → Qd, evBin → Qe, nilA → Qf, nilOf → Qg, intOp → Qh, strOp → Qi, evUn → Qj, evConv → Qk, evField → Ql, evFieldAddr → Qm, evIndexAddr → Qn, evIndex → Qo, evIndexA → Qp, bnd → Qq, evSlice → Qr, evLen → Qs, evPick → Qt, evExtract → Qu, evNilCheck → Qv, evMin → Qw, evMax → Qx, evLoadI → Qy, partsOne → QA, intsOf → QB, rowsAV → QC, evBuildSlice → QD, evBuild → QE, fillA → QF, splice → QG, evBuiltin → QH, guardD_bool → QI, dOp → QJ, cl → QK, vcLoad → QL, vcStore → QM, vcMake → QN, convA → QO, evIndexArr → QP, retA → QQ, ressA → QR, resA → QS, envOf → QT, condR_bool → QX, asgEnv → QY, parEnv → QZ, dstAt → XI, vcLook → XT, vcPut → XU, vcEnt → XV, vcESt → XW, vcMLen → XX, vcDel → XY, vcClear → XZ, vcLookD → Y0
open Go.Pa.AV renaming cell → Qz
open Go.Pa.Env renaming put → QU
open List renaming set_cons_zero → QV, set_cons_succ → QW, foldl_cons → X0, foldl_nil → X1, map_cons → X2, map_nil → X3, toList_toArray → X4, getElem?_cons_zero → X5, getElem?_cons_succ → X6, nil_append → Xa, append_nil → Xb, cons_append → Xc, singleton_append → Xd, length_cons → Xe, length_nil → Xf, all_cons → Xg, all_nil → Xh, take_succ_cons → Xi, take_zero → Xj, take_nil → Xk, drop_zero → Xl, drop_succ_cons → Xm, drop_nil → Xn, contains_nil → Xo, contains_cons → Xp
open Option renaming bind_some → X7, map_some → X8, map_none → X9
open Bool renaming or_false → Xq, false_or → Xr, or_true → Xs, true_or → Xt, false_eq_true → XC, not_true → XD, not_false → XE, and_true → XF, true_and → XG, and_self → XH
open Nat renaming reduceEqDiff → Xu, reduceAdd → Xv, reduceSub → Xw, reduceMul → Xx, reduceLT → Xy, reduceLeDiff → Xz, reduceBNe → XA, reduceBEq → XB, zero_add → XL, add_zero → XM
open UInt8 renaming reduceToNat → XJ
open Int renaming cast_ofNat_Int → XK, reduceToNat → XN, reduceLT → XO, reduceLE → XP, reduceNeg → XQ, reduceEq → XR, reduceNe → XS
set_option linter.unusedSimpArgs false
set_option maxRecDepth 20000
set_option maxHeartbeats 2000000

def addR (n c : Int) (i : Nat) : Int := ior .u64 n (ishl .u64 (IntKind.u64.wrap (iandnot .u8 c 128)) (7 * i))

/-- A varint is read: the number, what is left, the error. -/
def uintR : Nat → Nat → Int → List Int → Int × List Int × Int
  | 0, _, _, l => (0, l, 2)
  | f + 1, i, n, l => match l with
    | [] => (0, [], 3)
    | c :: l' => if (i = 9 ∧ 1 < c) ∨ (0 < i ∧ c = 0) then (0, l', 2) else if c < 128 then (addR n c i, l', 0) else uintR f (i + 1) (addR n c i) l'

def uintF (l : List Int) (e : Int) : Int × List Int × Int := if e = 0 then uintR 10 0 0 l else (0, l, e)

theorem rd_uint (l : List Int) (e : Int) (hl : l.length < 2000000) {s : Store} {id : Nat} (h : s[id]? = some (rdO l e)) :
    ACalls Try.prog 63 [.ptr id 0] s (fun r s' => r = .int .u64 (uintF l e).1 ∧ s' = s.set id (rdO (uintF l e).2.1 (uintF l e).2.2)) := by
  obtain ⟨T, hT⟩ : ∃ T, T = uintF l e := ⟨_, rfl⟩
  rw [← hT]
  refine acalls_of_vc (fn := Try.f63) Try.call63 Try.func63 rfl (by kernel_rfl) (by simp [Try.ntmps63]) ?_; simp -implicitDefEqProofs only [Try.ntmps63,Try.results63,Q0,Q1,Q2,Q3,Q4,Q5,Q6,Q7,Q8,Q9,Qa,Qb,Qc,Qd,Qe,Qf,Qg,Qh,Qi,Qj,Qk,Ql,Qm,Qn,Qo,Qp,Qq,Qr,Qs,Qt,Qu,Qv,Qw,Qx,Qy,Qz,QA,QB,QC,QD,QE,QF,QG,QH,QI,QJ,QK,QL,QM,QN,QO,QP,QQ,QR,QS,QT,QU,QV,QW,QX,QY,QZ,X0,X1,X2,X3,X4,X5,X6,X7,X8,X9,Xa,Xb,Xc,Xd,Xe,Xf,Xg,Xh,Xi,Xj,Xk,Xl,Xm,Xn,Xo,Xp,Xq,Xr,Xs,Xt,Xu,Xv,Xw,Xx,Xy,Xz,XA,XB,reduceIte,reduceCtorEq,XC,XD,XE,XF,XG,XH,XI,XJ,XK,XL,XM,XN,XO,XP,XQ,XR,XS,XT,XU,XV,XW,XX,XY,XZ,Y0,Try.q3,Try.q4,Try.q5,Try.q26,Try.q52,Try.q55,Try.underlying83,Try.q83,Try.q87]
  refine awp_loop (fun p : Nat × Int × List Int × Int => [(4, .int .i64 p.1), (3, .int .u64 p.2.1), (0, .ptr id 0)])
    (fun p s1 => s1 = s.set id (rdO p.2.2.1 p.2.2.2) ∧ p.2.2.1.length < 2000000 ∧ (p.2.2.2 = 0 → p.1 < 10 ∧ uintR (10 - p.1) p.1 p.2.1 p.2.2.1 = T) ∧ (p.2.2.2 ≠ 0 → T = (0, p.2.2.1, p.2.2.2)))
    (fun p => if p.2.2.2 = 0 then 11 - p.1 else 0) (0, 0, l, e) (by kernel_rfl) (by simp [sub_cons, sub_nil, get_cons])
    ⟨(sto_same h).symm, hl, fun he => ⟨by simp only; omega, by simp only at he; rw [hT, uintF, if_pos he]; rfl⟩, fun he => by simp only at he; rw [hT, uintF, if_neg he]⟩ ?_
  rintro ⟨i, n, l1, e1⟩ s1 ⟨rfl, hl1, hz, hnz⟩
  simp only at hl1 hz hnz
  have hh := sto_here (y := rdO l1 e1) h
  have hh' : (s.set id (rdO l1 e1))[id]? = some (.box [.ints .u8 l1, .int .i64 e1]) := hh
  by_cases he : e1 = 0
  · subst he
    obtain ⟨hi, hT1⟩ := hz rfl
    have w7 : IntKind.i64.wrap (7 * (i : Int)) = 7 * (i : Int) := wrap_i64 (by omega) (by omega)
    have wi : IntKind.i64.wrap ((i : Int) + 1) = ((i + 1 : Nat) : Int) := by rw [wrap_i64 (by omega) (by omega)]; rfl
    have d0 : decide ((0 : Int) = 0) = true := rfl
    have hf : 10 - i = (9 - i) + 1 := by omega
    rw [hf] at hT1
    simp -implicitDefEqProofs only [hh',Q0,Q1,Q2,Q3,Q4,Q5,Q6,Q7,Q8,Q9,Qa,Qb,Qc,Qd,Qe,Qf,Qg,Qh,Qi,Qj,Qk,Ql,Qm,Qn,Qo,Qp,Qq,Qr,Qs,Qt,Qu,Qv,Qw,Qx,Qy,Qz,QA,QB,QC,QD,QE,QF,QG,QH,QI,QJ,QK,QL,QM,QN,QO,QP,QQ,QR,QS,QT,QU,QV,QW,QX,QY,QZ,X0,X1,X2,X3,X4,X5,X6,X7,X8,X9,Xa,Xb,Xc,Xd,Xe,Xf,Xg,Xh,Xi,Xj,Xk,Xl,Xm,Xn,Xo,Xp,Xq,Xr,Xs,Xt,Xu,Xv,Xw,Xx,Xy,Xz,XA,XB,reduceIte,reduceCtorEq,XC,XD,XE,XF,XG,XH,XI,XJ,XK,XL,XM,XN,XO,XP,XQ,XR,XS,XT,XU,XV,XW,XX,XY,XZ,Y0,Try.q3,Try.q4,Try.q5,Try.q26,Try.q52,Try.q55,Try.underlying83,Try.q83,Try.q87]
    refine ACalls.mono (rd_next l1 0 hl1 hh) ?_
    rintro _ _ ⟨rfl, rfl⟩
    cases l1 with
    | nil =>
      have hn1 : nextR [] 0 = (0, [], 3) := rfl
      rw [hn1]
      have hq := sto_here (y := rdO [] 3) hh
      rw [List.set_set] at hq
      have hset : (s.set id (rdO [] 0)).set id (rdO [] 3) = s.set id (rdO [] 3) := by rw [List.set_set]
      simp only
      rw [hset]
      have hq' : (s.set id (rdO [] 3))[id]? = some (.box [.ints .u8 [], .int .i64 3]) := hq
      have hT2 : T = (0, [], 3) := by rw [← hT1]; rfl
      have d9 : decide ((1 : Int) < 0) = false := rfl
      by_cases h0 : 0 < i
      · have e0 : decide ((0 : Int) < (i : Int)) = true := decide_eq_true (by omega)
        by_cases h9 : i = 9
        · have e9 : decide ((i : Int) = 9) = true := decide_eq_true (by omega)
          simp -implicitDefEqProofs only [hq',e0,e9,d9,d0,Q0,Q1,Q2,Q3,Q4,Q5,Q6,Q7,Q8,Q9,Qa,Qb,Qc,Qd,Qe,Qf,Qg,Qh,Qi,Qj,Qk,Ql,Qm,Qn,Qo,Qp,Qq,Qr,Qs,Qt,Qu,Qv,Qw,Qx,Qy,Qz,QA,QB,QC,QD,QE,QF,QG,QH,QI,QJ,QK,QL,QM,QN,QO,QP,QQ,QR,QS,QT,QU,QV,QW,QX,QY,QZ,X0,X1,X2,X3,X4,X5,X6,X7,X8,X9,Xa,Xb,Xc,Xd,Xe,Xf,Xg,Xh,Xi,Xj,Xk,Xl,Xm,Xn,Xo,Xp,Xq,Xr,Xs,Xt,Xu,Xv,Xw,Xx,Xy,Xz,XA,XB,reduceIte,reduceCtorEq,XC,XD,XE,XF,XG,XH,XI,XJ,XK,XL,XM,XN,XO,XP,XQ,XR,XS,XT,XU,XV,XW,XX,XY,XZ,Y0,Try.q3,Try.q4,Try.q5,Try.q26,Try.q52,Try.q55,Try.underlying83,Try.q83,Try.q87]
          refine ACalls.mono (rd_fail 3 2 [] hq) ?_
          rintro _ _ ⟨rfl, rfl⟩
          have hset2 : (s.set id (rdO [] 3)).set id (rdO [] (if (3 : Int) = 0 then 2 else 3)) = s.set id (rdO [] 3) := by rw [List.set_set]; rfl
          rw [hset2]
          simp -implicitDefEqProofs only [hq',e0,e9,d9,d0,w7,wi,Q0,Q1,Q2,Q3,Q4,Q5,Q6,Q7,Q8,Q9,Qa,Qb,Qc,Qd,Qe,Qf,Qg,Qh,Qi,Qj,Qk,Ql,Qm,Qn,Qo,Qp,Qq,Qr,Qs,Qt,Qu,Qv,Qw,Qx,Qy,Qz,QA,QB,QC,QD,QE,QF,QG,QH,QI,QJ,QK,QL,QM,QN,QO,QP,QQ,QR,QS,QT,QU,QV,QW,QX,QY,QZ,X0,X1,X2,X3,X4,X5,X6,X7,X8,X9,Xa,Xb,Xc,Xd,Xe,Xf,Xg,Xh,Xi,Xj,Xk,Xl,Xm,Xn,Xo,Xp,Xq,Xr,Xs,Xt,Xu,Xv,Xw,Xx,Xy,Xz,XA,XB,reduceIte,reduceCtorEq,XC,XD,XE,XF,XG,XH,XI,XJ,XK,XL,XM,XN,XO,XP,XQ,XR,XS,XT,XU,XV,XW,XX,XY,XZ,Y0,Try.q3,Try.q4,Try.q5,Try.q26,Try.q52,Try.q55,Try.underlying83,Try.q83,Try.q87]
          exact ⟨by omega, (i + 1, addR n 0 i, [], 3), ⟨rfl, rfl⟩, ⟨rfl, hl1, fun q => absurd q (by simp), fun _ => hT2⟩, by simp only; rw [if_neg (by decide)]; omega⟩
        · have e9 : decide ((i : Int) = 9) = false := decide_eq_false (by omega)
          simp -implicitDefEqProofs only [hq',e0,e9,d9,d0,Q0,Q1,Q2,Q3,Q4,Q5,Q6,Q7,Q8,Q9,Qa,Qb,Qc,Qd,Qe,Qf,Qg,Qh,Qi,Qj,Qk,Ql,Qm,Qn,Qo,Qp,Qq,Qr,Qs,Qt,Qu,Qv,Qw,Qx,Qy,Qz,QA,QB,QC,QD,QE,QF,QG,QH,QI,QJ,QK,QL,QM,QN,QO,QP,QQ,QR,QS,QT,QU,QV,QW,QX,QY,QZ,X0,X1,X2,X3,X4,X5,X6,X7,X8,X9,Xa,Xb,Xc,Xd,Xe,Xf,Xg,Xh,Xi,Xj,Xk,Xl,Xm,Xn,Xo,Xp,Xq,Xr,Xs,Xt,Xu,Xv,Xw,Xx,Xy,Xz,XA,XB,reduceIte,reduceCtorEq,XC,XD,XE,XF,XG,XH,XI,XJ,XK,XL,XM,XN,XO,XP,XQ,XR,XS,XT,XU,XV,XW,XX,XY,XZ,Y0,Try.q3,Try.q4,Try.q5,Try.q26,Try.q52,Try.q55,Try.underlying83,Try.q83,Try.q87]
          refine ACalls.mono (rd_fail 3 2 [] hq) ?_
          rintro _ _ ⟨rfl, rfl⟩
          have hset2 : (s.set id (rdO [] 3)).set id (rdO [] (if (3 : Int) = 0 then 2 else 3)) = s.set id (rdO [] 3) := by rw [List.set_set]; rfl
          rw [hset2]
          simp -implicitDefEqProofs only [hq',e0,e9,d9,d0,w7,wi,Q0,Q1,Q2,Q3,Q4,Q5,Q6,Q7,Q8,Q9,Qa,Qb,Qc,Qd,Qe,Qf,Qg,Qh,Qi,Qj,Qk,Ql,Qm,Qn,Qo,Qp,Qq,Qr,Qs,Qt,Qu,Qv,Qw,Qx,Qy,Qz,QA,QB,QC,QD,QE,QF,QG,QH,QI,QJ,QK,QL,QM,QN,QO,QP,QQ,QR,QS,QT,QU,QV,QW,QX,QY,QZ,X0,X1,X2,X3,X4,X5,X6,X7,X8,X9,Xa,Xb,Xc,Xd,Xe,Xf,Xg,Xh,Xi,Xj,Xk,Xl,Xm,Xn,Xo,Xp,Xq,Xr,Xs,Xt,Xu,Xv,Xw,Xx,Xy,Xz,XA,XB,reduceIte,reduceCtorEq,XC,XD,XE,XF,XG,XH,XI,XJ,XK,XL,XM,XN,XO,XP,XQ,XR,XS,XT,XU,XV,XW,XX,XY,XZ,Y0,Try.q3,Try.q4,Try.q5,Try.q26,Try.q52,Try.q55,Try.underlying83,Try.q83,Try.q87]
          exact ⟨by omega, (i + 1, addR n 0 i, [], 3), ⟨rfl, rfl⟩, ⟨rfl, hl1, fun q => absurd q (by simp), fun _ => hT2⟩, by simp only; rw [if_neg (by decide)]; omega⟩
      · have e0 : decide ((0 : Int) < (i : Int)) = false := decide_eq_false (by omega)
        have e9 : decide ((i : Int) = 9) = false := decide_eq_false (by omega)
        simp -implicitDefEqProofs only [hq',e0,e9,d9,d0,w7,wi,Q0,Q1,Q2,Q3,Q4,Q5,Q6,Q7,Q8,Q9,Qa,Qb,Qc,Qd,Qe,Qf,Qg,Qh,Qi,Qj,Qk,Ql,Qm,Qn,Qo,Qp,Qq,Qr,Qs,Qt,Qu,Qv,Qw,Qx,Qy,Qz,QA,QB,QC,QD,QE,QF,QG,QH,QI,QJ,QK,QL,QM,QN,QO,QP,QQ,QR,QS,QT,QU,QV,QW,QX,QY,QZ,X0,X1,X2,X3,X4,X5,X6,X7,X8,X9,Xa,Xb,Xc,Xd,Xe,Xf,Xg,Xh,Xi,Xj,Xk,Xl,Xm,Xn,Xo,Xp,Xq,Xr,Xs,Xt,Xu,Xv,Xw,Xx,Xy,Xz,XA,XB,reduceIte,reduceCtorEq,XC,XD,XE,XF,XG,XH,XI,XJ,XK,XL,XM,XN,XO,XP,XQ,XR,XS,XT,XU,XV,XW,XX,XY,XZ,Y0,Try.q3,Try.q4,Try.q5,Try.q26,Try.q52,Try.q55,Try.underlying83,Try.q83,Try.q87]
        exact ⟨by omega, (i + 1, addR n 0 i, [], 3), ⟨rfl, rfl⟩, ⟨rfl, hl1, fun q => absurd q (by simp), fun _ => hT2⟩, by simp only; rw [if_neg (by decide)]; omega⟩
    | cons c l' =>
      have hn1 : nextR (c :: l') 0 = (c, l', 0) := rfl
      rw [hn1]
      have hq := sto_here (y := rdO l' 0) hh
      rw [List.set_set] at hq
      have hset : (s.set id (rdO (c :: l') 0)).set id (rdO l' 0) = s.set id (rdO l' 0) := by rw [List.set_set]
      simp only
      rw [hset]
      have hq' : (s.set id (rdO l' 0))[id]? = some (.box [.ints .u8 l', .int .i64 0]) := hq
      have hl2 : l'.length < 2000000 := by simp only [List.length_cons] at hl1; omega
      have hk : (i = 9 ∧ 1 < c) ∨ (i = 9 ∧ c = 0) ∨ (i = 9 ∧ c ≤ 1 ∧ c ≠ 0) ∨ (i ≠ 9 ∧ 0 < i ∧ c = 0) ∨ (i ≠ 9 ∧ 0 < i ∧ c ≠ 0) ∨ (i = 0) := by omega
      rcases hk with hk | hk | hk | hk | hk | hk
      · have e0 : decide ((0 : Int) < (i : Int)) = true := decide_eq_true (by omega)
        have e9 : decide ((i : Int) = 9) = true := decide_eq_true (by omega)
        have e1 : decide (1 < c) = true := decide_eq_true (by omega)
        have ez : decide (c = 0) = false := decide_eq_false (by omega)
        simp -implicitDefEqProofs only [hq',e0,e9,d0,e1,ez,Q0,Q1,Q2,Q3,Q4,Q5,Q6,Q7,Q8,Q9,Qa,Qb,Qc,Qd,Qe,Qf,Qg,Qh,Qi,Qj,Qk,Ql,Qm,Qn,Qo,Qp,Qq,Qr,Qs,Qt,Qu,Qv,Qw,Qx,Qy,Qz,QA,QB,QC,QD,QE,QF,QG,QH,QI,QJ,QK,QL,QM,QN,QO,QP,QQ,QR,QS,QT,QU,QV,QW,QX,QY,QZ,X0,X1,X2,X3,X4,X5,X6,X7,X8,X9,Xa,Xb,Xc,Xd,Xe,Xf,Xg,Xh,Xi,Xj,Xk,Xl,Xm,Xn,Xo,Xp,Xq,Xr,Xs,Xt,Xu,Xv,Xw,Xx,Xy,Xz,XA,XB,reduceIte,reduceCtorEq,XC,XD,XE,XF,XG,XH,XI,XJ,XK,XL,XM,XN,XO,XP,XQ,XR,XS,XT,XU,XV,XW,XX,XY,XZ,Y0,Try.q3,Try.q4,Try.q5,Try.q26,Try.q52,Try.q55,Try.underlying83,Try.q83,Try.q87]
        refine ACalls.mono (rd_fail 0 2 l' hq) ?_
        rintro _ _ ⟨rfl, rfl⟩
        have hset2 : (s.set id (rdO l' 0)).set id (rdO l' (if (0 : Int) = 0 then 2 else 0)) = s.set id (rdO l' 2) := by rw [List.set_set]; rfl
        rw [hset2]
        have hT2 : T = (0, l', 2) := by rw [← hT1]; exact if_pos (by omega)
        have hq2 : (s.set id (rdO l' 2))[id]? = some (.box [.ints .u8 l', .int .i64 2]) := sto_here (y := rdO l' 2) h
        have hcx : True := trivial
        by_cases hc : c < 128
        · have ec : decide (c < 128) = true := decide_eq_true hc
          simp -implicitDefEqProofs only [e0,e9,d0,e1,ez,ec,hq2,w7,wi,Q0,Q1,Q2,Q3,Q4,Q5,Q6,Q7,Q8,Q9,Qa,Qb,Qc,Qd,Qe,Qf,Qg,Qh,Qi,Qj,Qk,Ql,Qm,Qn,Qo,Qp,Qq,Qr,Qs,Qt,Qu,Qv,Qw,Qx,Qy,Qz,QA,QB,QC,QD,QE,QF,QG,QH,QI,QJ,QK,QL,QM,QN,QO,QP,QQ,QR,QS,QT,QU,QV,QW,QX,QY,QZ,X0,X1,X2,X3,X4,X5,X6,X7,X8,X9,Xa,Xb,Xc,Xd,Xe,Xf,Xg,Xh,Xi,Xj,Xk,Xl,Xm,Xn,Xo,Xp,Xq,Xr,Xs,Xt,Xu,Xv,Xw,Xx,Xy,Xz,XA,XB,reduceIte,reduceCtorEq,XC,XD,XE,XF,XG,XH,XI,XJ,XK,XL,XM,XN,XO,XP,XQ,XR,XS,XT,XU,XV,XW,XX,XY,XZ,Y0,Try.q3,Try.q4,Try.q5,Try.q26,Try.q52,Try.q55,Try.underlying83,Try.q83,Try.q87]
          exact ⟨by omega, (i + 1, addR n c i, l', 2), ⟨rfl, rfl⟩, ⟨rfl, hl2, fun q => absurd q (by simp), fun _ => hT2⟩, by simp only; rw [if_neg (by decide)]; omega⟩
        · have ec : decide (c < 128) = false := decide_eq_false hc
          simp -implicitDefEqProofs only [e0,e9,d0,e1,ez,ec,hq2,w7,wi,Q0,Q1,Q2,Q3,Q4,Q5,Q6,Q7,Q8,Q9,Qa,Qb,Qc,Qd,Qe,Qf,Qg,Qh,Qi,Qj,Qk,Ql,Qm,Qn,Qo,Qp,Qq,Qr,Qs,Qt,Qu,Qv,Qw,Qx,Qy,Qz,QA,QB,QC,QD,QE,QF,QG,QH,QI,QJ,QK,QL,QM,QN,QO,QP,QQ,QR,QS,QT,QU,QV,QW,QX,QY,QZ,X0,X1,X2,X3,X4,X5,X6,X7,X8,X9,Xa,Xb,Xc,Xd,Xe,Xf,Xg,Xh,Xi,Xj,Xk,Xl,Xm,Xn,Xo,Xp,Xq,Xr,Xs,Xt,Xu,Xv,Xw,Xx,Xy,Xz,XA,XB,reduceIte,reduceCtorEq,XC,XD,XE,XF,XG,XH,XI,XJ,XK,XL,XM,XN,XO,XP,XQ,XR,XS,XT,XU,XV,XW,XX,XY,XZ,Y0,Try.q3,Try.q4,Try.q5,Try.q26,Try.q52,Try.q55,Try.underlying83,Try.q83,Try.q87]
          exact ⟨by omega, (i + 1, addR n c i, l', 2), ⟨rfl, rfl⟩, ⟨rfl, hl2, fun q => absurd q (by simp), fun _ => hT2⟩, by simp only; rw [if_neg (by decide)]; omega⟩
      · have e0 : decide ((0 : Int) < (i : Int)) = true := decide_eq_true (by omega)
        have e9 : decide ((i : Int) = 9) = true := decide_eq_true (by omega)
        have e1 : decide (1 < c) = false := decide_eq_false (by omega)
        have ez : decide (c = 0) = true := decide_eq_true (by omega)
        simp -implicitDefEqProofs only [hq',e0,e9,d0,e1,ez,Q0,Q1,Q2,Q3,Q4,Q5,Q6,Q7,Q8,Q9,Qa,Qb,Qc,Qd,Qe,Qf,Qg,Qh,Qi,Qj,Qk,Ql,Qm,Qn,Qo,Qp,Qq,Qr,Qs,Qt,Qu,Qv,Qw,Qx,Qy,Qz,QA,QB,QC,QD,QE,QF,QG,QH,QI,QJ,QK,QL,QM,QN,QO,QP,QQ,QR,QS,QT,QU,QV,QW,QX,QY,QZ,X0,X1,X2,X3,X4,X5,X6,X7,X8,X9,Xa,Xb,Xc,Xd,Xe,Xf,Xg,Xh,Xi,Xj,Xk,Xl,Xm,Xn,Xo,Xp,Xq,Xr,Xs,Xt,Xu,Xv,Xw,Xx,Xy,Xz,XA,XB,reduceIte,reduceCtorEq,XC,XD,XE,XF,XG,XH,XI,XJ,XK,XL,XM,XN,XO,XP,XQ,XR,XS,XT,XU,XV,XW,XX,XY,XZ,Y0,Try.q3,Try.q4,Try.q5,Try.q26,Try.q52,Try.q55,Try.underlying83,Try.q83,Try.q87]
        refine ACalls.mono (rd_fail 0 2 l' hq) ?_
        rintro _ _ ⟨rfl, rfl⟩
        have hset2 : (s.set id (rdO l' 0)).set id (rdO l' (if (0 : Int) = 0 then 2 else 0)) = s.set id (rdO l' 2) := by rw [List.set_set]; rfl
        rw [hset2]
        have hT2 : T = (0, l', 2) := by rw [← hT1]; exact if_pos (by omega)
        have hq2 : (s.set id (rdO l' 2))[id]? = some (.box [.ints .u8 l', .int .i64 2]) := sto_here (y := rdO l' 2) h
        have hcx : True := trivial
        by_cases hc : c < 128
        · have ec : decide (c < 128) = true := decide_eq_true hc
          simp -implicitDefEqProofs only [e0,e9,d0,e1,ez,ec,hq2,w7,wi,Q0,Q1,Q2,Q3,Q4,Q5,Q6,Q7,Q8,Q9,Qa,Qb,Qc,Qd,Qe,Qf,Qg,Qh,Qi,Qj,Qk,Ql,Qm,Qn,Qo,Qp,Qq,Qr,Qs,Qt,Qu,Qv,Qw,Qx,Qy,Qz,QA,QB,QC,QD,QE,QF,QG,QH,QI,QJ,QK,QL,QM,QN,QO,QP,QQ,QR,QS,QT,QU,QV,QW,QX,QY,QZ,X0,X1,X2,X3,X4,X5,X6,X7,X8,X9,Xa,Xb,Xc,Xd,Xe,Xf,Xg,Xh,Xi,Xj,Xk,Xl,Xm,Xn,Xo,Xp,Xq,Xr,Xs,Xt,Xu,Xv,Xw,Xx,Xy,Xz,XA,XB,reduceIte,reduceCtorEq,XC,XD,XE,XF,XG,XH,XI,XJ,XK,XL,XM,XN,XO,XP,XQ,XR,XS,XT,XU,XV,XW,XX,XY,XZ,Y0,Try.q3,Try.q4,Try.q5,Try.q26,Try.q52,Try.q55,Try.underlying83,Try.q83,Try.q87]
          exact ⟨by omega, (i + 1, addR n c i, l', 2), ⟨rfl, rfl⟩, ⟨rfl, hl2, fun q => absurd q (by simp), fun _ => hT2⟩, by simp only; rw [if_neg (by decide)]; omega⟩
        · exact absurd (by omega) hc
      · have e0 : decide ((0 : Int) < (i : Int)) = true := decide_eq_true (by omega)
        have e9 : decide ((i : Int) = 9) = true := decide_eq_true (by omega)
        have e1 : decide (1 < c) = false := decide_eq_false (by omega)
        have ez : decide (c = 0) = false := decide_eq_false (by omega)
        by_cases hc : c < 128
        · have ec : decide (c < 128) = true := decide_eq_true hc
          simp -implicitDefEqProofs only [e0,e9,d0,e1,ez,ec,hq',w7,wi,Q0,Q1,Q2,Q3,Q4,Q5,Q6,Q7,Q8,Q9,Qa,Qb,Qc,Qd,Qe,Qf,Qg,Qh,Qi,Qj,Qk,Ql,Qm,Qn,Qo,Qp,Qq,Qr,Qs,Qt,Qu,Qv,Qw,Qx,Qy,Qz,QA,QB,QC,QD,QE,QF,QG,QH,QI,QJ,QK,QL,QM,QN,QO,QP,QQ,QR,QS,QT,QU,QV,QW,QX,QY,QZ,X0,X1,X2,X3,X4,X5,X6,X7,X8,X9,Xa,Xb,Xc,Xd,Xe,Xf,Xg,Xh,Xi,Xj,Xk,Xl,Xm,Xn,Xo,Xp,Xq,Xr,Xs,Xt,Xu,Xv,Xw,Xx,Xy,Xz,XA,XB,reduceIte,reduceCtorEq,XC,XD,XE,XF,XG,XH,XI,XJ,XK,XL,XM,XN,XO,XP,XQ,XR,XS,XT,XU,XV,XW,XX,XY,XZ,Y0,Try.q3,Try.q4,Try.q5,Try.q26,Try.q52,Try.q55,Try.underlying83,Try.q83,Try.q87]
          have hT2 : T = (addR n c i, l', 0) := by rw [← hT1]; exact (if_neg (by omega)).trans (if_pos hc)
          rw [hT2]
          exact ⟨by omega, rfl, rfl⟩
        · have ec : decide (c < 128) = false := decide_eq_false hc
          simp -implicitDefEqProofs only [e0,e9,d0,e1,ez,ec,hq',w7,wi,Q0,Q1,Q2,Q3,Q4,Q5,Q6,Q7,Q8,Q9,Qa,Qb,Qc,Qd,Qe,Qf,Qg,Qh,Qi,Qj,Qk,Ql,Qm,Qn,Qo,Qp,Qq,Qr,Qs,Qt,Qu,Qv,Qw,Qx,Qy,Qz,QA,QB,QC,QD,QE,QF,QG,QH,QI,QJ,QK,QL,QM,QN,QO,QP,QQ,QR,QS,QT,QU,QV,QW,QX,QY,QZ,X0,X1,X2,X3,X4,X5,X6,X7,X8,X9,Xa,Xb,Xc,Xd,Xe,Xf,Xg,Xh,Xi,Xj,Xk,Xl,Xm,Xn,Xo,Xp,Xq,Xr,Xs,Xt,Xu,Xv,Xw,Xx,Xy,Xz,XA,XB,reduceIte,reduceCtorEq,XC,XD,XE,XF,XG,XH,XI,XJ,XK,XL,XM,XN,XO,XP,XQ,XR,XS,XT,XU,XV,XW,XX,XY,XZ,Y0,Try.q3,Try.q4,Try.q5,Try.q26,Try.q52,Try.q55,Try.underlying83,Try.q83,Try.q87]
          have hT3 : uintR (10 - (i + 1)) (i + 1) (addR n c i) l' = T := by
            rw [← hT1, show 10 - (i + 1) = 9 - i by omega]
            exact ((if_neg (by omega)).trans (if_neg hc)).symm
          exact ⟨by omega, (i + 1, addR n c i, l', 0), ⟨rfl, rfl⟩, ⟨rfl, hl2, fun _ => ⟨by simp only; omega, hT3⟩, fun q => absurd rfl q⟩, by simp only; rw [if_pos trivial]; omega⟩
      · have e0 : decide ((0 : Int) < (i : Int)) = true := decide_eq_true (by omega)
        have e9 : decide ((i : Int) = 9) = false := decide_eq_false (by omega)
        have e1 : decide (1 < c) = false := decide_eq_false (by omega)
        have ez : decide (c = 0) = true := decide_eq_true (by omega)
        simp -implicitDefEqProofs only [hq',e0,e9,d0,e1,ez,Q0,Q1,Q2,Q3,Q4,Q5,Q6,Q7,Q8,Q9,Qa,Qb,Qc,Qd,Qe,Qf,Qg,Qh,Qi,Qj,Qk,Ql,Qm,Qn,Qo,Qp,Qq,Qr,Qs,Qt,Qu,Qv,Qw,Qx,Qy,Qz,QA,QB,QC,QD,QE,QF,QG,QH,QI,QJ,QK,QL,QM,QN,QO,QP,QQ,QR,QS,QT,QU,QV,QW,QX,QY,QZ,X0,X1,X2,X3,X4,X5,X6,X7,X8,X9,Xa,Xb,Xc,Xd,Xe,Xf,Xg,Xh,Xi,Xj,Xk,Xl,Xm,Xn,Xo,Xp,Xq,Xr,Xs,Xt,Xu,Xv,Xw,Xx,Xy,Xz,XA,XB,reduceIte,reduceCtorEq,XC,XD,XE,XF,XG,XH,XI,XJ,XK,XL,XM,XN,XO,XP,XQ,XR,XS,XT,XU,XV,XW,XX,XY,XZ,Y0,Try.q3,Try.q4,Try.q5,Try.q26,Try.q52,Try.q55,Try.underlying83,Try.q83,Try.q87]
        refine ACalls.mono (rd_fail 0 2 l' hq) ?_
        rintro _ _ ⟨rfl, rfl⟩
        have hset2 : (s.set id (rdO l' 0)).set id (rdO l' (if (0 : Int) = 0 then 2 else 0)) = s.set id (rdO l' 2) := by rw [List.set_set]; rfl
        rw [hset2]
        have hT2 : T = (0, l', 2) := by rw [← hT1]; exact if_pos (by omega)
        have hq2 : (s.set id (rdO l' 2))[id]? = some (.box [.ints .u8 l', .int .i64 2]) := sto_here (y := rdO l' 2) h
        have hcx : True := trivial
        by_cases hc : c < 128
        · have ec : decide (c < 128) = true := decide_eq_true hc
          simp -implicitDefEqProofs only [e0,e9,d0,e1,ez,ec,hq2,w7,wi,Q0,Q1,Q2,Q3,Q4,Q5,Q6,Q7,Q8,Q9,Qa,Qb,Qc,Qd,Qe,Qf,Qg,Qh,Qi,Qj,Qk,Ql,Qm,Qn,Qo,Qp,Qq,Qr,Qs,Qt,Qu,Qv,Qw,Qx,Qy,Qz,QA,QB,QC,QD,QE,QF,QG,QH,QI,QJ,QK,QL,QM,QN,QO,QP,QQ,QR,QS,QT,QU,QV,QW,QX,QY,QZ,X0,X1,X2,X3,X4,X5,X6,X7,X8,X9,Xa,Xb,Xc,Xd,Xe,Xf,Xg,Xh,Xi,Xj,Xk,Xl,Xm,Xn,Xo,Xp,Xq,Xr,Xs,Xt,Xu,Xv,Xw,Xx,Xy,Xz,XA,XB,reduceIte,reduceCtorEq,XC,XD,XE,XF,XG,XH,XI,XJ,XK,XL,XM,XN,XO,XP,XQ,XR,XS,XT,XU,XV,XW,XX,XY,XZ,Y0,Try.q3,Try.q4,Try.q5,Try.q26,Try.q52,Try.q55,Try.underlying83,Try.q83,Try.q87]
          exact ⟨by omega, (i + 1, addR n c i, l', 2), ⟨rfl, rfl⟩, ⟨rfl, hl2, fun q => absurd q (by simp), fun _ => hT2⟩, by simp only; rw [if_neg (by decide)]; omega⟩
        · have ec : decide (c < 128) = false := decide_eq_false hc
          simp -implicitDefEqProofs only [e0,e9,d0,e1,ez,ec,hq2,w7,wi,Q0,Q1,Q2,Q3,Q4,Q5,Q6,Q7,Q8,Q9,Qa,Qb,Qc,Qd,Qe,Qf,Qg,Qh,Qi,Qj,Qk,Ql,Qm,Qn,Qo,Qp,Qq,Qr,Qs,Qt,Qu,Qv,Qw,Qx,Qy,Qz,QA,QB,QC,QD,QE,QF,QG,QH,QI,QJ,QK,QL,QM,QN,QO,QP,QQ,QR,QS,QT,QU,QV,QW,QX,QY,QZ,X0,X1,X2,X3,X4,X5,X6,X7,X8,X9,Xa,Xb,Xc,Xd,Xe,Xf,Xg,Xh,Xi,Xj,Xk,Xl,Xm,Xn,Xo,Xp,Xq,Xr,Xs,Xt,Xu,Xv,Xw,Xx,Xy,Xz,XA,XB,reduceIte,reduceCtorEq,XC,XD,XE,XF,XG,XH,XI,XJ,XK,XL,XM,XN,XO,XP,XQ,XR,XS,XT,XU,XV,XW,XX,XY,XZ,Y0,Try.q3,Try.q4,Try.q5,Try.q26,Try.q52,Try.q55,Try.underlying83,Try.q83,Try.q87]
          exact ⟨by omega, (i + 1, addR n c i, l', 2), ⟨rfl, rfl⟩, ⟨rfl, hl2, fun q => absurd q (by simp), fun _ => hT2⟩, by simp only; rw [if_neg (by decide)]; omega⟩
      · have e0 : decide ((0 : Int) < (i : Int)) = true := decide_eq_true (by omega)
        have e9 : decide ((i : Int) = 9) = false := decide_eq_false (by omega)
        have ez : decide (c = 0) = false := decide_eq_false (by omega)
        by_cases hc : c < 128
        · have ec : decide (c < 128) = true := decide_eq_true hc
          simp -implicitDefEqProofs only [e0,e9,d0,ez,ec,hq',w7,wi,Q0,Q1,Q2,Q3,Q4,Q5,Q6,Q7,Q8,Q9,Qa,Qb,Qc,Qd,Qe,Qf,Qg,Qh,Qi,Qj,Qk,Ql,Qm,Qn,Qo,Qp,Qq,Qr,Qs,Qt,Qu,Qv,Qw,Qx,Qy,Qz,QA,QB,QC,QD,QE,QF,QG,QH,QI,QJ,QK,QL,QM,QN,QO,QP,QQ,QR,QS,QT,QU,QV,QW,QX,QY,QZ,X0,X1,X2,X3,X4,X5,X6,X7,X8,X9,Xa,Xb,Xc,Xd,Xe,Xf,Xg,Xh,Xi,Xj,Xk,Xl,Xm,Xn,Xo,Xp,Xq,Xr,Xs,Xt,Xu,Xv,Xw,Xx,Xy,Xz,XA,XB,reduceIte,reduceCtorEq,XC,XD,XE,XF,XG,XH,XI,XJ,XK,XL,XM,XN,XO,XP,XQ,XR,XS,XT,XU,XV,XW,XX,XY,XZ,Y0,Try.q3,Try.q4,Try.q5,Try.q26,Try.q52,Try.q55,Try.underlying83,Try.q83,Try.q87]
          have hT2 : T = (addR n c i, l', 0) := by rw [← hT1]; exact (if_neg (by omega)).trans (if_pos hc)
          rw [hT2]
          exact ⟨by omega, rfl, rfl⟩
        · have ec : decide (c < 128) = false := decide_eq_false hc
          simp -implicitDefEqProofs only [e0,e9,d0,ez,ec,hq',w7,wi,Q0,Q1,Q2,Q3,Q4,Q5,Q6,Q7,Q8,Q9,Qa,Qb,Qc,Qd,Qe,Qf,Qg,Qh,Qi,Qj,Qk,Ql,Qm,Qn,Qo,Qp,Qq,Qr,Qs,Qt,Qu,Qv,Qw,Qx,Qy,Qz,QA,QB,QC,QD,QE,QF,QG,QH,QI,QJ,QK,QL,QM,QN,QO,QP,QQ,QR,QS,QT,QU,QV,QW,QX,QY,QZ,X0,X1,X2,X3,X4,X5,X6,X7,X8,X9,Xa,Xb,Xc,Xd,Xe,Xf,Xg,Xh,Xi,Xj,Xk,Xl,Xm,Xn,Xo,Xp,Xq,Xr,Xs,Xt,Xu,Xv,Xw,Xx,Xy,Xz,XA,XB,reduceIte,reduceCtorEq,XC,XD,XE,XF,XG,XH,XI,XJ,XK,XL,XM,XN,XO,XP,XQ,XR,XS,XT,XU,XV,XW,XX,XY,XZ,Y0,Try.q3,Try.q4,Try.q5,Try.q26,Try.q52,Try.q55,Try.underlying83,Try.q83,Try.q87]
          have hT3 : uintR (10 - (i + 1)) (i + 1) (addR n c i) l' = T := by
            rw [← hT1, show 10 - (i + 1) = 9 - i by omega]
            exact ((if_neg (by omega)).trans (if_neg hc)).symm
          exact ⟨by omega, (i + 1, addR n c i, l', 0), ⟨rfl, rfl⟩, ⟨rfl, hl2, fun _ => ⟨by simp only; omega, hT3⟩, fun q => absurd rfl q⟩, by simp only; rw [if_pos trivial]; omega⟩
      · have e0 : decide ((0 : Int) < (i : Int)) = false := decide_eq_false (by omega)
        have e9 : decide ((i : Int) = 9) = false := decide_eq_false (by omega)
        by_cases hc : c < 128
        · have ec : decide (c < 128) = true := decide_eq_true hc
          simp -implicitDefEqProofs only [e0,e9,d0,ec,hq',w7,wi,Q0,Q1,Q2,Q3,Q4,Q5,Q6,Q7,Q8,Q9,Qa,Qb,Qc,Qd,Qe,Qf,Qg,Qh,Qi,Qj,Qk,Ql,Qm,Qn,Qo,Qp,Qq,Qr,Qs,Qt,Qu,Qv,Qw,Qx,Qy,Qz,QA,QB,QC,QD,QE,QF,QG,QH,QI,QJ,QK,QL,QM,QN,QO,QP,QQ,QR,QS,QT,QU,QV,QW,QX,QY,QZ,X0,X1,X2,X3,X4,X5,X6,X7,X8,X9,Xa,Xb,Xc,Xd,Xe,Xf,Xg,Xh,Xi,Xj,Xk,Xl,Xm,Xn,Xo,Xp,Xq,Xr,Xs,Xt,Xu,Xv,Xw,Xx,Xy,Xz,XA,XB,reduceIte,reduceCtorEq,XC,XD,XE,XF,XG,XH,XI,XJ,XK,XL,XM,XN,XO,XP,XQ,XR,XS,XT,XU,XV,XW,XX,XY,XZ,Y0,Try.q3,Try.q4,Try.q5,Try.q26,Try.q52,Try.q55,Try.underlying83,Try.q83,Try.q87]
          have hT2 : T = (addR n c i, l', 0) := by rw [← hT1]; exact (if_neg (by omega)).trans (if_pos hc)
          rw [hT2]
          exact ⟨by omega, rfl, rfl⟩
        · have ec : decide (c < 128) = false := decide_eq_false hc
          simp -implicitDefEqProofs only [e0,e9,d0,ec,hq',w7,wi,Q0,Q1,Q2,Q3,Q4,Q5,Q6,Q7,Q8,Q9,Qa,Qb,Qc,Qd,Qe,Qf,Qg,Qh,Qi,Qj,Qk,Ql,Qm,Qn,Qo,Qp,Qq,Qr,Qs,Qt,Qu,Qv,Qw,Qx,Qy,Qz,QA,QB,QC,QD,QE,QF,QG,QH,QI,QJ,QK,QL,QM,QN,QO,QP,QQ,QR,QS,QT,QU,QV,QW,QX,QY,QZ,X0,X1,X2,X3,X4,X5,X6,X7,X8,X9,Xa,Xb,Xc,Xd,Xe,Xf,Xg,Xh,Xi,Xj,Xk,Xl,Xm,Xn,Xo,Xp,Xq,Xr,Xs,Xt,Xu,Xv,Xw,Xx,Xy,Xz,XA,XB,reduceIte,reduceCtorEq,XC,XD,XE,XF,XG,XH,XI,XJ,XK,XL,XM,XN,XO,XP,XQ,XR,XS,XT,XU,XV,XW,XX,XY,XZ,Y0,Try.q3,Try.q4,Try.q5,Try.q26,Try.q52,Try.q55,Try.underlying83,Try.q83,Try.q87]
          have hT3 : uintR (10 - (i + 1)) (i + 1) (addR n c i) l' = T := by
            rw [← hT1, show 10 - (i + 1) = 9 - i by omega]
            exact ((if_neg (by omega)).trans (if_neg hc)).symm
          exact ⟨by omega, (i + 1, addR n c i, l', 0), ⟨rfl, rfl⟩, ⟨rfl, hl2, fun _ => ⟨by simp only; omega, hT3⟩, fun q => absurd rfl q⟩, by simp only; rw [if_pos trivial]; omega⟩
  · have d : decide (e1 = 0) = false := decide_eq_false he
    simp -implicitDefEqProofs only [hh',d,Q0,Q1,Q2,Q3,Q4,Q5,Q6,Q7,Q8,Q9,Qa,Qb,Qc,Qd,Qe,Qf,Qg,Qh,Qi,Qj,Qk,Ql,Qm,Qn,Qo,Qp,Qq,Qr,Qs,Qt,Qu,Qv,Qw,Qx,Qy,Qz,QA,QB,QC,QD,QE,QF,QG,QH,QI,QJ,QK,QL,QM,QN,QO,QP,QQ,QR,QS,QT,QU,QV,QW,QX,QY,QZ,X0,X1,X2,X3,X4,X5,X6,X7,X8,X9,Xa,Xb,Xc,Xd,Xe,Xf,Xg,Xh,Xi,Xj,Xk,Xl,Xm,Xn,Xo,Xp,Xq,Xr,Xs,Xt,Xu,Xv,Xw,Xx,Xy,Xz,XA,XB,reduceIte,reduceCtorEq,XC,XD,XE,XF,XG,XH,XI,XJ,XK,XL,XM,XN,XO,XP,XQ,XR,XS,XT,XU,XV,XW,XX,XY,XZ,Y0,Try.q3,Try.q4,Try.q5,Try.q26,Try.q52,Try.q55,Try.underlying83,Try.q83,Try.q87]
    rw [hnz he]
    exact ⟨rfl, rfl⟩

end Go.Proofs
