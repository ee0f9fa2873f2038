/-
  Taxonomies: Up, Down, Least; contracts.
-/
import Derived.Test.YteejpckkgepecaaTb
namespace Go.Proofs
open Go.Pa
open Go.Pa renaming VB0 → Q0, VB1 → Q1, VB2 → Q2, VB3 → Q3, VB4 → Q4, VB5 → Q5, VB6 → Q6, VB7 → Q7, VB8 → Q8, VB9 → Q9, condV_bool → Qa, guardV_bool → Qb, vcS → Qc, evA → Qd, evBin → Qe, nilA → Qf, nilOf → Qg, intOp → Qh, strOp → Qi, evUn → Qj, evConv → Qk, evField → Ql, evFieldAddr → Qm, evIndexAddr → Qn, evIndex → Qo, evIndexA → Qp, bnd → Qq, evSlice → Qr, evLen → Qs, evPick → Qt, evExtract → Qu, evNilCheck → Qv, evMin → Qw, evMax → Qx, evLoadI → Qy, partsOne → QA, intsOf → QB, rowsAV → QC, evBuildSlice → QD, evBuild → QE, fillA → QF, splice → QG, evBuiltin → QH, guardD_bool → QI, dOp → QJ, cl → QK, vcLoad → QL, vcStore → QM, vcMake → QN, convA → QO, evIndexArr → QP, retA → QQ, ressA → QR, resA → QS, envOf → QT, condR_bool → QX, asgEnv → QY, parEnv → QZ, dstAt → XI, vcLook → XT, vcPut → XU, vcEnt → XV, vcESt → XW, vcMLen → XX, vcDel → XY, vcClear → XZ, vcLookD → Y0
open Go.Pa.AV renaming cell → Qz
open Go.Pa.Env renaming put → QU
open List renaming set_cons_zero → QV, set_cons_succ → QW, foldl_cons → X0, foldl_nil → X1, map_cons → X2, map_nil → X3, toList_toArray → X4, getElem?_cons_zero → X5, getElem?_cons_succ → X6, nil_append → Xa, append_nil → Xb, cons_append → Xc, singleton_append → Xd, length_cons → Xe, length_nil → Xf, all_cons → Xg, all_nil → Xh, take_succ_cons → Xi, take_zero → Xj, take_nil → Xk, drop_zero → Xl, drop_succ_cons → Xm, drop_nil → Xn, contains_nil → Xo, contains_cons → Xp
open Option renaming bind_some → X7, map_some → X8, map_none → X9
open Bool renaming or_false → Xq, false_or → Xr, or_true → Xs, true_or → Xt, false_eq_true → XC, not_true → XD, not_false → XE, and_true → XF, true_and → XG, and_self → XH
open Nat renaming reduceEqDiff → Xu, reduceAdd → Xv, reduceSub → Xw, reduceMul → Xx, reduceLT → Xy, reduceLeDiff → Xz, reduceBNe → XA, reduceBEq → XB, zero_add → XL, add_zero → XM
open UInt8 renaming reduceToNat → XJ
open Int renaming cast_ofNat_Int → XK, reduceToNat → XN, reduceLT → XO, reduceLE → XP, reduceNeg → XQ, reduceEq → XR, reduceNe → XS
set_option linter.unusedSimpArgs false
set_option linter.unusedVariables false
set_option maxRecDepth 20000
set_option maxHeartbeats 2000000

/-- The classes of which something holds. -/
def filtI (n : Nat) (h : Int → Bool) : List Int := ((List.range n).map fun c : Nat => (c : Int)).filter h

theorem filtI_succ (n : Nat) (h : Int → Bool) : filtI (n + 1) h = filtI n h ++ (if h n then [(n : Int)] else []) := by
  unfold filtI
  rw [List.range_succ, List.map_append, List.filter_append]
  congr 1
  simp [List.filter_cons]

theorem filtI_len (n : Nat) (h : Int → Bool) : (filtI n h).length ≤ n := by
  unfold filtI
  have := List.length_filter_le h ((List.range n).map fun c : Nat => (c : Int))
  simp at this ⊢; exact this

theorem filtI_mem {n : Nat} {h : Int → Bool} {x : Int} : x ∈ filtI n h ↔ (0 ≤ x ∧ x < n) ∧ h x = true := by
  unfold filtI
  rw [List.mem_filter, List.mem_map]
  constructor
  · rintro ⟨⟨c, hc, rfl⟩, h2⟩
    exact ⟨⟨by omega, by have := List.mem_range.1 hc; omega⟩, h2⟩
  · rintro ⟨⟨h1, h2⟩, h3⟩
    exact ⟨⟨x.toNat, List.mem_range.2 (by omega), by omega⟩, h3⟩

/-- The answer of Up and its like. -/
noncomputable def colV (n : Nat) (g : List Int) (h : Int → Bool) : AV := if g.any (badI n) then .tup [.nils, .int .i64 7] else .tup [.ints .i64 (filtI n h), .int .i64 0]

theorem c_collect (p : List (List Int)) (hp : p.length ≤ 64) (g : List Int) (hg : g.length ≤ 1000000) (h : Int → Bool) (f : FuncId) (cs : List AV) (σ : Store)
    (hf : ∀ s, Ext σ s → ∀ c : Nat, c < p.length → ACalls Try.prog f ([.int .i64 c] ++ cs) s (fun r s' => r = .bool (h c) ∧ s' = s)) :
    ACalls Try.prog 43 [taxA p, .fn f [] cs, .ints .i64 g] σ (fun r s => r = colV p.length g h ∧ s = σ) := by
  have hL := fun σ => c_Len p σ
  have hW := fun σ => c_within p.length g hg σ
  unfold colV
  cases hb : g.any (badI p.length) with
  | true =>
    rw [hb] at hW
    rw [if_pos rfl]
    unfold taxA at hL ⊢
    refine acalls_of_vc (fn := Try.f43) Try.call43 Try.func43 rfl (by kernel_rfl) (by simp [Try.ntmps43]) ?_; simp -implicitDefEqProofs only [Try.ntmps43,Try.results43,Q0,Q1,Q2,Q3,Q4,Q5,Q6,Q7,Q8,Q9,Qa,Qb,Qc,Qd,Qe,Qf,Qg,Qh,Qi,Qj,Qk,Ql,Qm,Qn,Qo,Qp,Qq,Qr,Qs,Qt,Qu,Qv,Qw,Qx,Qy,Qz,QA,QB,QC,QD,QE,QF,QG,QH,QI,QJ,QK,QL,QM,QN,QO,QP,QQ,QR,QS,QT,QU,QV,QW,QX,QY,QZ,X0,X1,X2,X3,X4,X5,X6,X7,X8,X9,Xa,Xb,Xc,Xd,Xe,Xf,Xg,Xh,Xi,Xj,Xk,Xl,Xm,Xn,Xo,Xp,Xq,Xr,Xs,Xt,Xu,Xv,Xw,Xx,Xy,Xz,XA,XB,reduceIte,reduceCtorEq,XC,XD,XE,XF,XG,XH,XI,XJ,XK,XL,XM,XN,XO,XP,XQ,XR,XS,XT,XU,XV,XW,XX,XY,XZ,Y0,Try.q3,Try.q4,Try.q22,Try.q23,Try.q25,Try.q26,Try.underlying63,Try.q63,Try.underlying65,Try.q65,Try.underlying69,Try.q69]
    refine acalls_then (hL _) ?_
    simp -implicitDefEqProofs only [Q0,Q1,Q2,Q3,Q4,Q5,Q6,Q7,Q8,Q9,Qa,Qb,Qc,Qd,Qe,Qf,Qg,Qh,Qi,Qj,Qk,Ql,Qm,Qn,Qo,Qp,Qq,Qr,Qs,Qt,Qu,Qv,Qw,Qx,Qy,Qz,QA,QB,QC,QD,QE,QF,QG,QH,QI,QJ,QK,QL,QM,QN,QO,QP,QQ,QR,QS,QT,QU,QV,QW,QX,QY,QZ,X0,X1,X2,X3,X4,X5,X6,X7,X8,X9,Xa,Xb,Xc,Xd,Xe,Xf,Xg,Xh,Xi,Xj,Xk,Xl,Xm,Xn,Xo,Xp,Xq,Xr,Xs,Xt,Xu,Xv,Xw,Xx,Xy,Xz,XA,XB,reduceIte,reduceCtorEq,XC,XD,XE,XF,XG,XH,XI,XJ,XK,XL,XM,XN,XO,XP,XQ,XR,XS,XT,XU,XV,XW,XX,XY,XZ,Y0,Try.q3,Try.q4,Try.q22,Try.q23,Try.q25,Try.q26,Try.underlying63,Try.q63,Try.underlying65,Try.q65,Try.underlying69,Try.q69]
    refine acalls_then (hW _) ?_
    simp -implicitDefEqProofs only [Q0,Q1,Q2,Q3,Q4,Q5,Q6,Q7,Q8,Q9,Qa,Qb,Qc,Qd,Qe,Qf,Qg,Qh,Qi,Qj,Qk,Ql,Qm,Qn,Qo,Qp,Qq,Qr,Qs,Qt,Qu,Qv,Qw,Qx,Qy,Qz,QA,QB,QC,QD,QE,QF,QG,QH,QI,QJ,QK,QL,QM,QN,QO,QP,QQ,QR,QS,QT,QU,QV,QW,QX,QY,QZ,X0,X1,X2,X3,X4,X5,X6,X7,X8,X9,Xa,Xb,Xc,Xd,Xe,Xf,Xg,Xh,Xi,Xj,Xk,Xl,Xm,Xn,Xo,Xp,Xq,Xr,Xs,Xt,Xu,Xv,Xw,Xx,Xy,Xz,XA,XB,reduceIte,reduceCtorEq,XC,XD,XE,XF,XG,XH,XI,XJ,XK,XL,XM,XN,XO,XP,XQ,XR,XS,XT,XU,XV,XW,XX,XY,XZ,Y0,Try.q3,Try.q4,Try.q22,Try.q23,Try.q25,Try.q26,Try.underlying63,Try.q63,Try.underlying65,Try.q65,Try.underlying69,Try.q69]
  | false =>
    rw [hb] at hW
    rw [if_neg (by simp)]
    refine ACalls.frozen (ACalls.mono (R := fun r s => Ext σ s ∧ ∃ x, r = .tup [x, .int .i64 0] ∧ BufI s σ.length x .i64 (filtI p.length h)) ?_ fun r s ⟨h1, x, h2, h3⟩ => ⟨h1, by
      subst h2
      exact .tup _ _ rfl fun k a b ha hb => by
        match k with
        | 0 => cases ha; cases hb; exact h3.frz
        | 1 => cases ha; cases hb; exact .same _ rfl
        | k + 2 => cases ha⟩)
    have hml : (p.map rowI).length = p.length := by simp
    unfold taxA at hL ⊢
    refine acalls_of_vc (fn := Try.f43) Try.call43 Try.func43 rfl (by kernel_rfl) (by simp [Try.ntmps43]) ?_; simp -implicitDefEqProofs only [Try.ntmps43,Try.results43,Q0,Q1,Q2,Q3,Q4,Q5,Q6,Q7,Q8,Q9,Qa,Qb,Qc,Qd,Qe,Qf,Qg,Qh,Qi,Qj,Qk,Ql,Qm,Qn,Qo,Qp,Qq,Qr,Qs,Qt,Qu,Qv,Qw,Qx,Qy,Qz,QA,QB,QC,QD,QE,QF,QG,QH,QI,QJ,QK,QL,QM,QN,QO,QP,QQ,QR,QS,QT,QU,QV,QW,QX,QY,QZ,X0,X1,X2,X3,X4,X5,X6,X7,X8,X9,Xa,Xb,Xc,Xd,Xe,Xf,Xg,Xh,Xi,Xj,Xk,Xl,Xm,Xn,Xo,Xp,Xq,Xr,Xs,Xt,Xu,Xv,Xw,Xx,Xy,Xz,XA,XB,reduceIte,reduceCtorEq,XC,XD,XE,XF,XG,XH,XI,XJ,XK,XL,XM,XN,XO,XP,XQ,XR,XS,XT,XU,XV,XW,XX,XY,XZ,Y0,Try.q3,Try.q4,Try.q22,Try.q23,Try.q25,Try.q26,Try.underlying63,Try.q63,Try.underlying65,Try.q65,Try.underlying69,Try.q69]
    refine acalls_then (hL _) ?_
    simp -implicitDefEqProofs only [Q0,Q1,Q2,Q3,Q4,Q5,Q6,Q7,Q8,Q9,Qa,Qb,Qc,Qd,Qe,Qf,Qg,Qh,Qi,Qj,Qk,Ql,Qm,Qn,Qo,Qp,Qq,Qr,Qs,Qt,Qu,Qv,Qw,Qx,Qy,Qz,QA,QB,QC,QD,QE,QF,QG,QH,QI,QJ,QK,QL,QM,QN,QO,QP,QQ,QR,QS,QT,QU,QV,QW,QX,QY,QZ,X0,X1,X2,X3,X4,X5,X6,X7,X8,X9,Xa,Xb,Xc,Xd,Xe,Xf,Xg,Xh,Xi,Xj,Xk,Xl,Xm,Xn,Xo,Xp,Xq,Xr,Xs,Xt,Xu,Xv,Xw,Xx,Xy,Xz,XA,XB,reduceIte,reduceCtorEq,XC,XD,XE,XF,XG,XH,XI,XJ,XK,XL,XM,XN,XO,XP,XQ,XR,XS,XT,XU,XV,XW,XX,XY,XZ,Y0,Try.q3,Try.q4,Try.q22,Try.q23,Try.q25,Try.q26,Try.underlying63,Try.q63,Try.underlying65,Try.q65,Try.underlying69,Try.q69]
    refine acalls_then (hW _) ?_
    simp -implicitDefEqProofs only [hml,Q0,Q1,Q2,Q3,Q4,Q5,Q6,Q7,Q8,Q9,Qa,Qb,Qc,Qd,Qe,Qf,Qg,Qh,Qi,Qj,Qk,Ql,Qm,Qn,Qo,Qp,Qq,Qr,Qs,Qt,Qu,Qv,Qw,Qx,Qy,Qz,QA,QB,QC,QD,QE,QF,QG,QH,QI,QJ,QK,QL,QM,QN,QO,QP,QQ,QR,QS,QT,QU,QV,QW,QX,QY,QZ,X0,X1,X2,X3,X4,X5,X6,X7,X8,X9,Xa,Xb,Xc,Xd,Xe,Xf,Xg,Xh,Xi,Xj,Xk,Xl,Xm,Xn,Xo,Xp,Xq,Xr,Xs,Xt,Xu,Xv,Xw,Xx,Xy,Xz,XA,XB,reduceIte,reduceCtorEq,XC,XD,XE,XF,XG,XH,XI,XJ,XK,XL,XM,XN,XO,XP,XQ,XR,XS,XT,XU,XV,XW,XX,XY,XZ,Y0,Try.q3,Try.q4,Try.q22,Try.q23,Try.q25,Try.q26,Try.underlying63,Try.q63,Try.underlying65,Try.q65,Try.underlying69,Try.q69]
    refine awp_loop (fun q : Nat × AV => [(20, .int .i64 q.1), (19, .int .i64 p.length), (8, q.2), (1, .fn f [] cs)]) (fun q s => q.1 ≤ p.length ∧ Ext σ s ∧ BufI s σ.length q.2 .i64 (filtI q.1 h)) (fun q => p.length - q.1) (0, .nils) (by kernel_rfl) (by simp [sub_cons, sub_nil, get_cons]) ⟨by simp, .refl _, .nil⟩ ?_
    rintro ⟨i, r⟩ s ⟨hi, hx, hbuf⟩
    simp only at hi hbuf
    by_cases hlt : i < p.length
    · have d1 : decide ((i : Int) < (p.length : Int)) = true := decide_eq_true (by omega)
      have wi : IntKind.i64.wrap ((i : Int) + 1) = ((i + 1 : Nat) : Int) := by rw [wrap_i64 (by omega) (by omega)]; rfl
      have hc := hf s hx i hlt
      have hs := filtI_succ i h
      have hfl := filtI_len i h
      simp -implicitDefEqProofs only [d1,Q0,Q1,Q2,Q3,Q4,Q5,Q6,Q7,Q8,Q9,Qa,Qb,Qc,Qd,Qe,Qf,Qg,Qh,Qi,Qj,Qk,Ql,Qm,Qn,Qo,Qp,Qq,Qr,Qs,Qt,Qu,Qv,Qw,Qx,Qy,Qz,QA,QB,QC,QD,QE,QF,QG,QH,QI,QJ,QK,QL,QM,QN,QO,QP,QQ,QR,QS,QT,QU,QV,QW,QX,QY,QZ,X0,X1,X2,X3,X4,X5,X6,X7,X8,X9,Xa,Xb,Xc,Xd,Xe,Xf,Xg,Xh,Xi,Xj,Xk,Xl,Xm,Xn,Xo,Xp,Xq,Xr,Xs,Xt,Xu,Xv,Xw,Xx,Xy,Xz,XA,XB,reduceIte,reduceCtorEq,XC,XD,XE,XF,XG,XH,XI,XJ,XK,XL,XM,XN,XO,XP,XQ,XR,XS,XT,XU,XV,XW,XX,XY,XZ,Y0,Try.q3,Try.q4,Try.q22,Try.q23,Try.q25,Try.q26,Try.underlying63,Try.q63,Try.underlying65,Try.q65,Try.underlying69,Try.q69]
      refine acalls_then hc ?_
      cases hh : h i with
      | true =>
        rw [hh] at hs
        simp -implicitDefEqProofs only [Q0,Q1,Q2,Q3,Q4,Q5,Q6,Q7,Q8,Q9,Qa,Qb,Qc,Qd,Qe,Qf,Qg,Qh,Qi,Qj,Qk,Ql,Qm,Qn,Qo,Qp,Qq,Qr,Qs,Qt,Qu,Qv,Qw,Qx,Qy,Qz,QA,QB,QC,QD,QE,QF,QG,QH,QI,QJ,QK,QL,QM,QN,QO,QP,QQ,QR,QS,QT,QU,QV,QW,QX,QY,QZ,X0,X1,X2,X3,X4,X5,X6,X7,X8,X9,Xa,Xb,Xc,Xd,Xe,Xf,Xg,Xh,Xi,Xj,Xk,Xl,Xm,Xn,Xo,Xp,Xq,Xr,Xs,Xt,Xu,Xv,Xw,Xx,Xy,Xz,XA,XB,reduceIte,reduceCtorEq,XC,XD,XE,XF,XG,XH,XI,XJ,XK,XL,XM,XN,XO,XP,XQ,XR,XS,XT,XU,XV,XW,XX,XY,XZ,Y0,Try.q3,Try.q4,Try.q22,Try.q23,Try.q25,Try.q26,Try.underlying63,Try.q63,Try.underlying65,Try.q65,Try.underlying69,Try.q69]
        refine append_buf Try.sl22 (by simp [Try.bt3]) hx hbuf (.inl rfl) (by simp [appFits, Try.bt3]; omega) fun r2 s2 hx2 hb2 => ?_
        simp -implicitDefEqProofs only [wi,Q0,Q1,Q2,Q3,Q4,Q5,Q6,Q7,Q8,Q9,Qa,Qb,Qc,Qd,Qe,Qf,Qg,Qh,Qi,Qj,Qk,Ql,Qm,Qn,Qo,Qp,Qq,Qr,Qs,Qt,Qu,Qv,Qw,Qx,Qy,Qz,QA,QB,QC,QD,QE,QF,QG,QH,QI,QJ,QK,QL,QM,QN,QO,QP,QQ,QR,QS,QT,QU,QV,QW,QX,QY,QZ,X0,X1,X2,X3,X4,X5,X6,X7,X8,X9,Xa,Xb,Xc,Xd,Xe,Xf,Xg,Xh,Xi,Xj,Xk,Xl,Xm,Xn,Xo,Xp,Xq,Xr,Xs,Xt,Xu,Xv,Xw,Xx,Xy,Xz,XA,XB,reduceIte,reduceCtorEq,XC,XD,XE,XF,XG,XH,XI,XJ,XK,XL,XM,XN,XO,XP,XQ,XR,XS,XT,XU,XV,XW,XX,XY,XZ,Y0,Try.q3,Try.q4,Try.q22,Try.q23,Try.q25,Try.q26,Try.underlying63,Try.q63,Try.underlying65,Try.q65,Try.underlying69,Try.q69]
        exact ⟨(i + 1, r2), ⟨rfl, rfl⟩, ⟨by simp only; omega, hx2, by simp only; rw [hs]; exact hb2⟩, by simp only; omega⟩
      | false =>
        rw [hh] at hs
        simp -implicitDefEqProofs only [wi,Q0,Q1,Q2,Q3,Q4,Q5,Q6,Q7,Q8,Q9,Qa,Qb,Qc,Qd,Qe,Qf,Qg,Qh,Qi,Qj,Qk,Ql,Qm,Qn,Qo,Qp,Qq,Qr,Qs,Qt,Qu,Qv,Qw,Qx,Qy,Qz,QA,QB,QC,QD,QE,QF,QG,QH,QI,QJ,QK,QL,QM,QN,QO,QP,QQ,QR,QS,QT,QU,QV,QW,QX,QY,QZ,X0,X1,X2,X3,X4,X5,X6,X7,X8,X9,Xa,Xb,Xc,Xd,Xe,Xf,Xg,Xh,Xi,Xj,Xk,Xl,Xm,Xn,Xo,Xp,Xq,Xr,Xs,Xt,Xu,Xv,Xw,Xx,Xy,Xz,XA,XB,reduceIte,reduceCtorEq,XC,XD,XE,XF,XG,XH,XI,XJ,XK,XL,XM,XN,XO,XP,XQ,XR,XS,XT,XU,XV,XW,XX,XY,XZ,Y0,Try.q3,Try.q4,Try.q22,Try.q23,Try.q25,Try.q26,Try.underlying63,Try.q63,Try.underlying65,Try.q65,Try.underlying69,Try.q69]
        exact ⟨(i + 1, r), ⟨rfl, rfl⟩, ⟨by simp only; omega, hx, by simp only; rw [hs]; simpa using hbuf⟩, by simp only; omega⟩
    · have d1 : decide ((i : Int) < (p.length : Int)) = false := decide_eq_false (by omega)
      have : i = p.length := by omega
      subst this
      simp -implicitDefEqProofs only [d1,Q0,Q1,Q2,Q3,Q4,Q5,Q6,Q7,Q8,Q9,Qa,Qb,Qc,Qd,Qe,Qf,Qg,Qh,Qi,Qj,Qk,Ql,Qm,Qn,Qo,Qp,Qq,Qr,Qs,Qt,Qu,Qv,Qw,Qx,Qy,Qz,QA,QB,QC,QD,QE,QF,QG,QH,QI,QJ,QK,QL,QM,QN,QO,QP,QQ,QR,QS,QT,QU,QV,QW,QX,QY,QZ,X0,X1,X2,X3,X4,X5,X6,X7,X8,X9,Xa,Xb,Xc,Xd,Xe,Xf,Xg,Xh,Xi,Xj,Xk,Xl,Xm,Xn,Xo,Xp,Xq,Xr,Xs,Xt,Xu,Xv,Xw,Xx,Xy,Xz,XA,XB,reduceIte,reduceCtorEq,XC,XD,XE,XF,XG,XH,XI,XJ,XK,XL,XM,XN,XO,XP,XQ,XR,XS,XT,XU,XV,XW,XX,XY,XZ,Y0,Try.q3,Try.q4,Try.q22,Try.q23,Try.q25,Try.q26,Try.underlying63,Try.q63,Try.underlying65,Try.q65,Try.underlying69,Try.q69]
      exact ⟨hx, r, rfl, hbuf⟩

/-! ### The closures -/

theorem c_up11 (p : List (List Int)) (hp : p.length ≤ 64) (d c : Int) (s : Store) (tb cb : Nat) (h1 : s[tb]? = some (.box [taxA p])) (h2 : s[cb]? = some (.box [.int .i64 c])) :
    ACalls Try.prog 48 [.int .i64 d, .ptr tb 0, .ptr cb 0] s (fun r s' => r = .bool (isI p d c) ∧ s' = s) := by
  have k := c_Is p hp d c s
  unfold taxA at h1 k
  refine acalls_of_vc (fn := Try.f48) Try.call48 Try.func48 rfl (by kernel_rfl) (by simp [Try.ntmps48]) ?_; simp -implicitDefEqProofs only [Try.ntmps48,Try.results48,Q0,Q1,Q2,Q3,Q4,Q5,Q6,Q7,Q8,Q9,Qa,Qb,Qc,Qd,Qe,Qf,Qg,Qh,Qi,Qj,Qk,Ql,Qm,Qn,Qo,Qp,Qq,Qr,Qs,Qt,Qu,Qv,Qw,Qx,Qy,Qz,QA,QB,QC,QD,QE,QF,QG,QH,QI,QJ,QK,QL,QM,QN,QO,QP,QQ,QR,QS,QT,QU,QV,QW,QX,QY,QZ,X0,X1,X2,X3,X4,X5,X6,X7,X8,X9,Xa,Xb,Xc,Xd,Xe,Xf,Xg,Xh,Xi,Xj,Xk,Xl,Xm,Xn,Xo,Xp,Xq,Xr,Xs,Xt,Xu,Xv,Xw,Xx,Xy,Xz,XA,XB,reduceIte,reduceCtorEq,XC,XD,XE,XF,XG,XH,XI,XJ,XK,XL,XM,XN,XO,XP,XQ,XR,XS,XT,XU,XV,XW,XX,XY,XZ,Y0,Try.q3,Try.q4,Try.q25]
  simp -implicitDefEqProofs only [h1,h2,Q0,Q1,Q2,Q3,Q4,Q5,Q6,Q7,Q8,Q9,Qa,Qb,Qc,Qd,Qe,Qf,Qg,Qh,Qi,Qj,Qk,Ql,Qm,Qn,Qo,Qp,Qq,Qr,Qs,Qt,Qu,Qv,Qw,Qx,Qy,Qz,QA,QB,QC,QD,QE,QF,QG,QH,QI,QJ,QK,QL,QM,QN,QO,QP,QQ,QR,QS,QT,QU,QV,QW,QX,QY,QZ,X0,X1,X2,X3,X4,X5,X6,X7,X8,X9,Xa,Xb,Xc,Xd,Xe,Xf,Xg,Xh,Xi,Xj,Xk,Xl,Xm,Xn,Xo,Xp,Xq,Xr,Xs,Xt,Xu,Xv,Xw,Xx,Xy,Xz,XA,XB,reduceIte,reduceCtorEq,XC,XD,XE,XF,XG,XH,XI,XJ,XK,XL,XM,XN,XO,XP,XQ,XR,XS,XT,XU,XV,XW,XX,XY,XZ,Y0,Try.q3,Try.q4,Try.q25]
  refine acalls_then (k) ?_
  simp -implicitDefEqProofs only [Q0,Q1,Q2,Q3,Q4,Q5,Q6,Q7,Q8,Q9,Qa,Qb,Qc,Qd,Qe,Qf,Qg,Qh,Qi,Qj,Qk,Ql,Qm,Qn,Qo,Qp,Qq,Qr,Qs,Qt,Qu,Qv,Qw,Qx,Qy,Qz,QA,QB,QC,QD,QE,QF,QG,QH,QI,QJ,QK,QL,QM,QN,QO,QP,QQ,QR,QS,QT,QU,QV,QW,QX,QY,QZ,X0,X1,X2,X3,X4,X5,X6,X7,X8,X9,Xa,Xb,Xc,Xd,Xe,Xf,Xg,Xh,Xi,Xj,Xk,Xl,Xm,Xn,Xo,Xp,Xq,Xr,Xs,Xt,Xu,Xv,Xw,Xx,Xy,Xz,XA,XB,reduceIte,reduceCtorEq,XC,XD,XE,XF,XG,XH,XI,XJ,XK,XL,XM,XN,XO,XP,XQ,XR,XS,XT,XU,XV,XW,XX,XY,XZ,Y0,Try.q3,Try.q4,Try.q25]

theorem c_up1 (p : List (List Int)) (hp : p.length ≤ 64) (l : List Int) (hl : l.length ≤ 1000000) (c : Int) (s : Store) (lb tb : Nat) (h1 : s[lb]? = some (.box [.ints .i64 l])) (h2 : s[tb]? = some (.box [taxA p])) :
    ACalls Try.prog 46 [.int .i64 c, .ptr lb 0, .ptr tb 0] s (fun r s' => r = .bool (l.any fun d => isI p d c) ∧ s' = s) := by
  refine ACalls.frozen (ACalls.mono (R := fun r s' => r = .bool (l.any fun d => isI p d c) ∧ Ext s s') ?_ fun r s ⟨h1, h2⟩ => ⟨h2, by rw [h1]; exact .same _ rfl⟩)
  have hx : Ext s (s ++ [.box [.int .i64 c]]) := (Ext.refl s).push _
  have g1 := hx _ _ h1
  have k := c_containsFunc l hl (fun d => isI p d c) 48 [.ptr tb 0, .ptr s.length 0] (s ++ [.box [.int .i64 c]]) (fun d _ => c_up11 p hp d c _ tb s.length (hx _ _ h2) (by simp))
  refine acalls_of_vc (fn := Try.f46) Try.call46 Try.func46 rfl (by kernel_rfl) (by simp [Try.ntmps46]) ?_; simp -implicitDefEqProofs only [Try.ntmps46,Try.results46,Q0,Q1,Q2,Q3,Q4,Q5,Q6,Q7,Q8,Q9,Qa,Qb,Qc,Qd,Qe,Qf,Qg,Qh,Qi,Qj,Qk,Ql,Qm,Qn,Qo,Qp,Qq,Qr,Qs,Qt,Qu,Qv,Qw,Qx,Qy,Qz,QA,QB,QC,QD,QE,QF,QG,QH,QI,QJ,QK,QL,QM,QN,QO,QP,QQ,QR,QS,QT,QU,QV,QW,QX,QY,QZ,X0,X1,X2,X3,X4,X5,X6,X7,X8,X9,Xa,Xb,Xc,Xd,Xe,Xf,Xg,Xh,Xi,Xj,Xk,Xl,Xm,Xn,Xo,Xp,Xq,Xr,Xs,Xt,Xu,Xv,Xw,Xx,Xy,Xz,XA,XB,reduceIte,reduceCtorEq,XC,XD,XE,XF,XG,XH,XI,XJ,XK,XL,XM,XN,XO,XP,XQ,XR,XS,XT,XU,XV,XW,XX,XY,XZ,Y0,Try.q3,Try.q4,Try.q22,Try.underlying69,Try.q69]
  simp -implicitDefEqProofs only [g1,Q0,Q1,Q2,Q3,Q4,Q5,Q6,Q7,Q8,Q9,Qa,Qb,Qc,Qd,Qe,Qf,Qg,Qh,Qi,Qj,Qk,Ql,Qm,Qn,Qo,Qp,Qq,Qr,Qs,Qt,Qu,Qv,Qw,Qx,Qy,Qz,QA,QB,QC,QD,QE,QF,QG,QH,QI,QJ,QK,QL,QM,QN,QO,QP,QQ,QR,QS,QT,QU,QV,QW,QX,QY,QZ,X0,X1,X2,X3,X4,X5,X6,X7,X8,X9,Xa,Xb,Xc,Xd,Xe,Xf,Xg,Xh,Xi,Xj,Xk,Xl,Xm,Xn,Xo,Xp,Xq,Xr,Xs,Xt,Xu,Xv,Xw,Xx,Xy,Xz,XA,XB,reduceIte,reduceCtorEq,XC,XD,XE,XF,XG,XH,XI,XJ,XK,XL,XM,XN,XO,XP,XQ,XR,XS,XT,XU,XV,XW,XX,XY,XZ,Y0,Try.q3,Try.q4,Try.q22,Try.underlying69,Try.q69]
  refine acalls_then (k) ?_
  simp -implicitDefEqProofs only [Q0,Q1,Q2,Q3,Q4,Q5,Q6,Q7,Q8,Q9,Qa,Qb,Qc,Qd,Qe,Qf,Qg,Qh,Qi,Qj,Qk,Ql,Qm,Qn,Qo,Qp,Qq,Qr,Qs,Qt,Qu,Qv,Qw,Qx,Qy,Qz,QA,QB,QC,QD,QE,QF,QG,QH,QI,QJ,QK,QL,QM,QN,QO,QP,QQ,QR,QS,QT,QU,QV,QW,QX,QY,QZ,X0,X1,X2,X3,X4,X5,X6,X7,X8,X9,Xa,Xb,Xc,Xd,Xe,Xf,Xg,Xh,Xi,Xj,Xk,Xl,Xm,Xn,Xo,Xp,Xq,Xr,Xs,Xt,Xu,Xv,Xw,Xx,Xy,Xz,XA,XB,reduceIte,reduceCtorEq,XC,XD,XE,XF,XG,XH,XI,XJ,XK,XL,XM,XN,XO,XP,XQ,XR,XS,XT,XU,XV,XW,XX,XY,XZ,Y0,Try.q3,Try.q4,Try.q22,Try.underlying69,Try.q69]
  exact hx

theorem c_Up (p : List (List Int)) (hp : p.length ≤ 64) (l : List Int) (hl : l.length ≤ 1000000) (σ : Store) :
    ACalls Try.prog 19 [taxA p, .ints .i64 l] σ (fun r s => r = colV p.length l (fun c => l.any fun d => isI p d c) ∧ s = σ) := by
  have hx : Ext σ (σ ++ [.box [taxA p], .box [.ints .i64 l]]) := Ext.app _ _
  have k := c_collect p hp l hl (fun c => l.any fun d => isI p d c) 46 [.ptr (σ.length + 1) 0, .ptr σ.length 0] (σ ++ [.box [taxA p], .box [.ints .i64 l]])
    (fun s hs c hc => c_up1 p hp l hl c s (σ.length + 1) σ.length (hs _ _ (by simp)) (hs _ _ (by simp)))
  have hv : ∃ x e, colV p.length l (fun c => l.any fun d => isI p d c) = .tup [x, e] ∧ (AV.tup [x, e]).noRef = true := by
    unfold colV; split
    · exact ⟨_, _, rfl, rfl⟩
    · exact ⟨_, _, rfl, rfl⟩
  obtain ⟨x, e, hv, hn⟩ := hv
  rw [hv] at k ⊢
  refine ACalls.frozen (ACalls.mono (R := fun r s => r = .tup [x, e] ∧ Ext σ s) ?_ fun r s ⟨h1, h2⟩ => ⟨h2, by rw [h1]; exact .same _ hn⟩)
  unfold taxA at k hx ⊢
  refine acalls_of_vc (fn := Try.f19) Try.call19 Try.func19 rfl (by kernel_rfl) (by simp [Try.ntmps19]) ?_; simp -implicitDefEqProofs only [Try.ntmps19,Try.results19,Q0,Q1,Q2,Q3,Q4,Q5,Q6,Q7,Q8,Q9,Qa,Qb,Qc,Qd,Qe,Qf,Qg,Qh,Qi,Qj,Qk,Ql,Qm,Qn,Qo,Qp,Qq,Qr,Qs,Qt,Qu,Qv,Qw,Qx,Qy,Qz,QA,QB,QC,QD,QE,QF,QG,QH,QI,QJ,QK,QL,QM,QN,QO,QP,QQ,QR,QS,QT,QU,QV,QW,QX,QY,QZ,X0,X1,X2,X3,X4,X5,X6,X7,X8,X9,Xa,Xb,Xc,Xd,Xe,Xf,Xg,Xh,Xi,Xj,Xk,Xl,Xm,Xn,Xo,Xp,Xq,Xr,Xs,Xt,Xu,Xv,Xw,Xx,Xy,Xz,XA,XB,reduceIte,reduceCtorEq,XC,XD,XE,XF,XG,XH,XI,XJ,XK,XL,XM,XN,XO,XP,XQ,XR,XS,XT,XU,XV,XW,XX,XY,XZ,Y0,Try.q3,Try.q22,Try.q25,Try.q26,Try.underlying69,Try.q69]
  refine acalls_then (k) ?_
  simp -implicitDefEqProofs only [Q0,Q1,Q2,Q3,Q4,Q5,Q6,Q7,Q8,Q9,Qa,Qb,Qc,Qd,Qe,Qf,Qg,Qh,Qi,Qj,Qk,Ql,Qm,Qn,Qo,Qp,Qq,Qr,Qs,Qt,Qu,Qv,Qw,Qx,Qy,Qz,QA,QB,QC,QD,QE,QF,QG,QH,QI,QJ,QK,QL,QM,QN,QO,QP,QQ,QR,QS,QT,QU,QV,QW,QX,QY,QZ,X0,X1,X2,X3,X4,X5,X6,X7,X8,X9,Xa,Xb,Xc,Xd,Xe,Xf,Xg,Xh,Xi,Xj,Xk,Xl,Xm,Xn,Xo,Xp,Xq,Xr,Xs,Xt,Xu,Xv,Xw,Xx,Xy,Xz,XA,XB,reduceIte,reduceCtorEq,XC,XD,XE,XF,XG,XH,XI,XJ,XK,XL,XM,XN,XO,XP,XQ,XR,XS,XT,XU,XV,XW,XX,XY,XZ,Y0,Try.q3,Try.q22,Try.q25,Try.q26,Try.underlying69,Try.q69]
  exact hx

theorem c_down1 (p : List (List Int)) (hp : p.length ≤ 64) (d c : Int) (s : Store) (tb cb : Nat) (h1 : s[tb]? = some (.box [taxA p])) (h2 : s[cb]? = some (.box [.int .i64 c])) :
    ACalls Try.prog 44 [.int .i64 d, .ptr tb 0, .ptr cb 0] s (fun r s' => r = .bool (isI p d c) ∧ s' = s) := by
  have k := c_Is p hp d c s
  unfold taxA at h1 k
  refine acalls_of_vc (fn := Try.f44) Try.call44 Try.func44 rfl (by kernel_rfl) (by simp [Try.ntmps44]) ?_; simp -implicitDefEqProofs only [Try.ntmps44,Try.results44,Q0,Q1,Q2,Q3,Q4,Q5,Q6,Q7,Q8,Q9,Qa,Qb,Qc,Qd,Qe,Qf,Qg,Qh,Qi,Qj,Qk,Ql,Qm,Qn,Qo,Qp,Qq,Qr,Qs,Qt,Qu,Qv,Qw,Qx,Qy,Qz,QA,QB,QC,QD,QE,QF,QG,QH,QI,QJ,QK,QL,QM,QN,QO,QP,QQ,QR,QS,QT,QU,QV,QW,QX,QY,QZ,X0,X1,X2,X3,X4,X5,X6,X7,X8,X9,Xa,Xb,Xc,Xd,Xe,Xf,Xg,Xh,Xi,Xj,Xk,Xl,Xm,Xn,Xo,Xp,Xq,Xr,Xs,Xt,Xu,Xv,Xw,Xx,Xy,Xz,XA,XB,reduceIte,reduceCtorEq,XC,XD,XE,XF,XG,XH,XI,XJ,XK,XL,XM,XN,XO,XP,XQ,XR,XS,XT,XU,XV,XW,XX,XY,XZ,Y0,Try.q3,Try.q4,Try.q25]
  simp -implicitDefEqProofs only [h1,h2,Q0,Q1,Q2,Q3,Q4,Q5,Q6,Q7,Q8,Q9,Qa,Qb,Qc,Qd,Qe,Qf,Qg,Qh,Qi,Qj,Qk,Ql,Qm,Qn,Qo,Qp,Qq,Qr,Qs,Qt,Qu,Qv,Qw,Qx,Qy,Qz,QA,QB,QC,QD,QE,QF,QG,QH,QI,QJ,QK,QL,QM,QN,QO,QP,QQ,QR,QS,QT,QU,QV,QW,QX,QY,QZ,X0,X1,X2,X3,X4,X5,X6,X7,X8,X9,Xa,Xb,Xc,Xd,Xe,Xf,Xg,Xh,Xi,Xj,Xk,Xl,Xm,Xn,Xo,Xp,Xq,Xr,Xs,Xt,Xu,Xv,Xw,Xx,Xy,Xz,XA,XB,reduceIte,reduceCtorEq,XC,XD,XE,XF,XG,XH,XI,XJ,XK,XL,XM,XN,XO,XP,XQ,XR,XS,XT,XU,XV,XW,XX,XY,XZ,Y0,Try.q3,Try.q4,Try.q25]
  refine acalls_then (k) ?_
  simp -implicitDefEqProofs only [Q0,Q1,Q2,Q3,Q4,Q5,Q6,Q7,Q8,Q9,Qa,Qb,Qc,Qd,Qe,Qf,Qg,Qh,Qi,Qj,Qk,Ql,Qm,Qn,Qo,Qp,Qq,Qr,Qs,Qt,Qu,Qv,Qw,Qx,Qy,Qz,QA,QB,QC,QD,QE,QF,QG,QH,QI,QJ,QK,QL,QM,QN,QO,QP,QQ,QR,QS,QT,QU,QV,QW,QX,QY,QZ,X0,X1,X2,X3,X4,X5,X6,X7,X8,X9,Xa,Xb,Xc,Xd,Xe,Xf,Xg,Xh,Xi,Xj,Xk,Xl,Xm,Xn,Xo,Xp,Xq,Xr,Xs,Xt,Xu,Xv,Xw,Xx,Xy,Xz,XA,XB,reduceIte,reduceCtorEq,XC,XD,XE,XF,XG,XH,XI,XJ,XK,XL,XM,XN,XO,XP,XQ,XR,XS,XT,XU,XV,XW,XX,XY,XZ,Y0,Try.q3,Try.q4,Try.q25]

theorem c_Down (p : List (List Int)) (hp : p.length ≤ 64) (c : Int) (σ : Store) :
    ACalls Try.prog 15 [taxA p, .int .i64 c] σ (fun r s => r = colV p.length [c] (fun d => isI p d c) ∧ s = σ) := by
  have hx : Ext σ (σ ++ [.box [taxA p], .box [.int .i64 c]]) := Ext.app _ _
  have k := c_collect p hp [c] (by simp) (fun d => isI p d c) 44 [.ptr σ.length 0, .ptr (σ.length + 1) 0] (σ ++ [.box [taxA p], .box [.int .i64 c]])
    (fun s hs d hd => c_down1 p hp d c s σ.length (σ.length + 1) (hs _ _ (by simp)) (hs _ _ (by simp)))
  have hv : ∃ x e, colV p.length [c] (fun d => isI p d c) = .tup [x, e] ∧ (AV.tup [x, e]).noRef = true := by
    unfold colV; split
    · exact ⟨_, _, rfl, rfl⟩
    · exact ⟨_, _, rfl, rfl⟩
  obtain ⟨x, e, hv, hn⟩ := hv
  rw [hv] at k ⊢
  refine ACalls.frozen (ACalls.mono (R := fun r s => r = .tup [x, e] ∧ Ext σ s) ?_ fun r s ⟨h1, h2⟩ => ⟨h2, by rw [h1]; exact .same _ hn⟩)
  unfold taxA at k hx ⊢
  refine acalls_of_vc (fn := Try.f15) Try.call15 Try.func15 rfl (by kernel_rfl) (by simp [Try.ntmps15]) ?_; simp -implicitDefEqProofs only [Try.ntmps15,Try.results15,Q0,Q1,Q2,Q3,Q4,Q5,Q6,Q7,Q8,Q9,Qa,Qb,Qc,Qd,Qe,Qf,Qg,Qh,Qi,Qj,Qk,Ql,Qm,Qn,Qo,Qp,Qq,Qr,Qs,Qt,Qu,Qv,Qw,Qx,Qy,Qz,QA,QB,QC,QD,QE,QF,QG,QH,QI,QJ,QK,QL,QM,QN,QO,QP,QQ,QR,QS,QT,QU,QV,QW,QX,QY,QZ,X0,X1,X2,X3,X4,X5,X6,X7,X8,X9,Xa,Xb,Xc,Xd,Xe,Xf,Xg,Xh,Xi,Xj,Xk,Xl,Xm,Xn,Xo,Xp,Xq,Xr,Xs,Xt,Xu,Xv,Xw,Xx,Xy,Xz,XA,XB,reduceIte,reduceCtorEq,XC,XD,XE,XF,XG,XH,XI,XJ,XK,XL,XM,XN,XO,XP,XQ,XR,XS,XT,XU,XV,XW,XX,XY,XZ,Y0,Try.q3,Try.q22,Try.q25,Try.q26,Try.underlying69,Try.q69]
  refine acalls_then (k) ?_
  simp -implicitDefEqProofs only [Q0,Q1,Q2,Q3,Q4,Q5,Q6,Q7,Q8,Q9,Qa,Qb,Qc,Qd,Qe,Qf,Qg,Qh,Qi,Qj,Qk,Ql,Qm,Qn,Qo,Qp,Qq,Qr,Qs,Qt,Qu,Qv,Qw,Qx,Qy,Qz,QA,QB,QC,QD,QE,QF,QG,QH,QI,QJ,QK,QL,QM,QN,QO,QP,QQ,QR,QS,QT,QU,QV,QW,QX,QY,QZ,X0,X1,X2,X3,X4,X5,X6,X7,X8,X9,Xa,Xb,Xc,Xd,Xe,Xf,Xg,Xh,Xi,Xj,Xk,Xl,Xm,Xn,Xo,Xp,Xq,Xr,Xs,Xt,Xu,Xv,Xw,Xx,Xy,Xz,XA,XB,reduceIte,reduceCtorEq,XC,XD,XE,XF,XG,XH,XI,XJ,XK,XL,XM,XN,XO,XP,XQ,XR,XS,XT,XU,XV,XW,XX,XY,XZ,Y0,Try.q3,Try.q22,Try.q25,Try.q26,Try.underlying69,Try.q69]
  exact hx

/-- d is another one, and inherits from c. -/
noncomputable def lowI (p : List (List Int)) (c d : Int) : Bool := !decide (d = c) && isI p d c

theorem c_least11 (p : List (List Int)) (hp : p.length ≤ 64) (d c : Int) (s : Store) (cb tb : Nat) (h1 : s[tb]? = some (.box [taxA p])) (h2 : s[cb]? = some (.box [.int .i64 c])) :
    ACalls Try.prog 52 [.int .i64 d, .ptr cb 0, .ptr tb 0] s (fun r s' => r = .bool (lowI p c d) ∧ s' = s) := by
  have k := c_Is p hp d c s
  unfold taxA at h1 k
  unfold lowI
  by_cases hd : d = c
  · have d1 : decide (d = c) = true := decide_eq_true hd
    rw [d1]
    refine acalls_of_vc (fn := Try.f52) Try.call52 Try.func52 rfl (by kernel_rfl) (by simp [Try.ntmps52]) ?_; simp -implicitDefEqProofs only [Try.ntmps52,Try.results52,Q0,Q1,Q2,Q3,Q4,Q5,Q6,Q7,Q8,Q9,Qa,Qb,Qc,Qd,Qe,Qf,Qg,Qh,Qi,Qj,Qk,Ql,Qm,Qn,Qo,Qp,Qq,Qr,Qs,Qt,Qu,Qv,Qw,Qx,Qy,Qz,QA,QB,QC,QD,QE,QF,QG,QH,QI,QJ,QK,QL,QM,QN,QO,QP,QQ,QR,QS,QT,QU,QV,QW,QX,QY,QZ,X0,X1,X2,X3,X4,X5,X6,X7,X8,X9,Xa,Xb,Xc,Xd,Xe,Xf,Xg,Xh,Xi,Xj,Xk,Xl,Xm,Xn,Xo,Xp,Xq,Xr,Xs,Xt,Xu,Xv,Xw,Xx,Xy,Xz,XA,XB,reduceIte,reduceCtorEq,XC,XD,XE,XF,XG,XH,XI,XJ,XK,XL,XM,XN,XO,XP,XQ,XR,XS,XT,XU,XV,XW,XX,XY,XZ,Y0,Try.q3,Try.q4,Try.q25]
    simp -implicitDefEqProofs only [h1,h2,d1,Bool.false_and,Q0,Q1,Q2,Q3,Q4,Q5,Q6,Q7,Q8,Q9,Qa,Qb,Qc,Qd,Qe,Qf,Qg,Qh,Qi,Qj,Qk,Ql,Qm,Qn,Qo,Qp,Qq,Qr,Qs,Qt,Qu,Qv,Qw,Qx,Qy,Qz,QA,QB,QC,QD,QE,QF,QG,QH,QI,QJ,QK,QL,QM,QN,QO,QP,QQ,QR,QS,QT,QU,QV,QW,QX,QY,QZ,X0,X1,X2,X3,X4,X5,X6,X7,X8,X9,Xa,Xb,Xc,Xd,Xe,Xf,Xg,Xh,Xi,Xj,Xk,Xl,Xm,Xn,Xo,Xp,Xq,Xr,Xs,Xt,Xu,Xv,Xw,Xx,Xy,Xz,XA,XB,reduceIte,reduceCtorEq,XC,XD,XE,XF,XG,XH,XI,XJ,XK,XL,XM,XN,XO,XP,XQ,XR,XS,XT,XU,XV,XW,XX,XY,XZ,Y0,Try.q3,Try.q4,Try.q25]
  · have d1 : decide (d = c) = false := decide_eq_false hd
    rw [d1]
    refine acalls_of_vc (fn := Try.f52) Try.call52 Try.func52 rfl (by kernel_rfl) (by simp [Try.ntmps52]) ?_; simp -implicitDefEqProofs only [Try.ntmps52,Try.results52,Q0,Q1,Q2,Q3,Q4,Q5,Q6,Q7,Q8,Q9,Qa,Qb,Qc,Qd,Qe,Qf,Qg,Qh,Qi,Qj,Qk,Ql,Qm,Qn,Qo,Qp,Qq,Qr,Qs,Qt,Qu,Qv,Qw,Qx,Qy,Qz,QA,QB,QC,QD,QE,QF,QG,QH,QI,QJ,QK,QL,QM,QN,QO,QP,QQ,QR,QS,QT,QU,QV,QW,QX,QY,QZ,X0,X1,X2,X3,X4,X5,X6,X7,X8,X9,Xa,Xb,Xc,Xd,Xe,Xf,Xg,Xh,Xi,Xj,Xk,Xl,Xm,Xn,Xo,Xp,Xq,Xr,Xs,Xt,Xu,Xv,Xw,Xx,Xy,Xz,XA,XB,reduceIte,reduceCtorEq,XC,XD,XE,XF,XG,XH,XI,XJ,XK,XL,XM,XN,XO,XP,XQ,XR,XS,XT,XU,XV,XW,XX,XY,XZ,Y0,Try.q3,Try.q4,Try.q25]
    simp -implicitDefEqProofs only [h1,h2,d1,Q0,Q1,Q2,Q3,Q4,Q5,Q6,Q7,Q8,Q9,Qa,Qb,Qc,Qd,Qe,Qf,Qg,Qh,Qi,Qj,Qk,Ql,Qm,Qn,Qo,Qp,Qq,Qr,Qs,Qt,Qu,Qv,Qw,Qx,Qy,Qz,QA,QB,QC,QD,QE,QF,QG,QH,QI,QJ,QK,QL,QM,QN,QO,QP,QQ,QR,QS,QT,QU,QV,QW,QX,QY,QZ,X0,X1,X2,X3,X4,X5,X6,X7,X8,X9,Xa,Xb,Xc,Xd,Xe,Xf,Xg,Xh,Xi,Xj,Xk,Xl,Xm,Xn,Xo,Xp,Xq,Xr,Xs,Xt,Xu,Xv,Xw,Xx,Xy,Xz,XA,XB,reduceIte,reduceCtorEq,XC,XD,XE,XF,XG,XH,XI,XJ,XK,XL,XM,XN,XO,XP,XQ,XR,XS,XT,XU,XV,XW,XX,XY,XZ,Y0,Try.q3,Try.q4,Try.q25]
    refine acalls_then (k) ?_
    simp -implicitDefEqProofs only [Q0,Q1,Q2,Q3,Q4,Q5,Q6,Q7,Q8,Q9,Qa,Qb,Qc,Qd,Qe,Qf,Qg,Qh,Qi,Qj,Qk,Ql,Qm,Qn,Qo,Qp,Qq,Qr,Qs,Qt,Qu,Qv,Qw,Qx,Qy,Qz,QA,QB,QC,QD,QE,QF,QG,QH,QI,QJ,QK,QL,QM,QN,QO,QP,QQ,QR,QS,QT,QU,QV,QW,QX,QY,QZ,X0,X1,X2,X3,X4,X5,X6,X7,X8,X9,Xa,Xb,Xc,Xd,Xe,Xf,Xg,Xh,Xi,Xj,Xk,Xl,Xm,Xn,Xo,Xp,Xq,Xr,Xs,Xt,Xu,Xv,Xw,Xx,Xy,Xz,XA,XB,reduceIte,reduceCtorEq,XC,XD,XE,XF,XG,XH,XI,XJ,XK,XL,XM,XN,XO,XP,XQ,XR,XS,XT,XU,XV,XW,XX,XY,XZ,Y0,Try.q3,Try.q4,Try.q25]

theorem c_least1 (p : List (List Int)) (hp : p.length ≤ 64) (l : List Int) (hl : l.length ≤ 1000000) (c : Int) (s : Store) (lb tb : Nat) (h1 : s[lb]? = some (.box [.ints .i64 l])) (h2 : s[tb]? = some (.box [taxA p])) :
    ACalls Try.prog 50 [.int .i64 c, .ptr lb 0, .ptr tb 0] s (fun r s' => r = .bool (decide (c ∈ l) && !l.any (lowI p c)) ∧ s' = s) := by
  refine ACalls.frozen (ACalls.mono (R := fun r s' => r = .bool (decide (c ∈ l) && !l.any (lowI p c)) ∧ Ext s s') ?_ fun r s ⟨h1, h2⟩ => ⟨h2, by rw [h1]; exact .same _ rfl⟩)
  have hx : Ext s (s ++ [.box [.int .i64 c]]) := (Ext.refl s).push _
  have g1 := hx _ _ h1
  have k := c_containsFunc l hl (lowI p c) 52 [.ptr s.length 0, .ptr tb 0] (s ++ [.box [.int .i64 c]]) (fun d _ => c_least11 p hp d c _ s.length tb (hx _ _ h2) (by simp))
  have kc := fun σ => c_contains l hl c σ
  by_cases hm : c ∈ l
  · rw [decide_eq_true hm] at kc ⊢
    refine acalls_of_vc (fn := Try.f50) Try.call50 Try.func50 rfl (by kernel_rfl) (by simp [Try.ntmps50]) ?_; simp -implicitDefEqProofs only [Try.ntmps50,Try.results50,Q0,Q1,Q2,Q3,Q4,Q5,Q6,Q7,Q8,Q9,Qa,Qb,Qc,Qd,Qe,Qf,Qg,Qh,Qi,Qj,Qk,Ql,Qm,Qn,Qo,Qp,Qq,Qr,Qs,Qt,Qu,Qv,Qw,Qx,Qy,Qz,QA,QB,QC,QD,QE,QF,QG,QH,QI,QJ,QK,QL,QM,QN,QO,QP,QQ,QR,QS,QT,QU,QV,QW,QX,QY,QZ,X0,X1,X2,X3,X4,X5,X6,X7,X8,X9,Xa,Xb,Xc,Xd,Xe,Xf,Xg,Xh,Xi,Xj,Xk,Xl,Xm,Xn,Xo,Xp,Xq,Xr,Xs,Xt,Xu,Xv,Xw,Xx,Xy,Xz,XA,XB,reduceIte,reduceCtorEq,XC,XD,XE,XF,XG,XH,XI,XJ,XK,XL,XM,XN,XO,XP,XQ,XR,XS,XT,XU,XV,XW,XX,XY,XZ,Y0,Try.q3,Try.q4,Try.q22,Try.underlying69,Try.q69]
    simp -implicitDefEqProofs only [g1,Q0,Q1,Q2,Q3,Q4,Q5,Q6,Q7,Q8,Q9,Qa,Qb,Qc,Qd,Qe,Qf,Qg,Qh,Qi,Qj,Qk,Ql,Qm,Qn,Qo,Qp,Qq,Qr,Qs,Qt,Qu,Qv,Qw,Qx,Qy,Qz,QA,QB,QC,QD,QE,QF,QG,QH,QI,QJ,QK,QL,QM,QN,QO,QP,QQ,QR,QS,QT,QU,QV,QW,QX,QY,QZ,X0,X1,X2,X3,X4,X5,X6,X7,X8,X9,Xa,Xb,Xc,Xd,Xe,Xf,Xg,Xh,Xi,Xj,Xk,Xl,Xm,Xn,Xo,Xp,Xq,Xr,Xs,Xt,Xu,Xv,Xw,Xx,Xy,Xz,XA,XB,reduceIte,reduceCtorEq,XC,XD,XE,XF,XG,XH,XI,XJ,XK,XL,XM,XN,XO,XP,XQ,XR,XS,XT,XU,XV,XW,XX,XY,XZ,Y0,Try.q3,Try.q4,Try.q22,Try.underlying69,Try.q69]
    refine acalls_then (kc _) ?_
    simp -implicitDefEqProofs only [g1,Q0,Q1,Q2,Q3,Q4,Q5,Q6,Q7,Q8,Q9,Qa,Qb,Qc,Qd,Qe,Qf,Qg,Qh,Qi,Qj,Qk,Ql,Qm,Qn,Qo,Qp,Qq,Qr,Qs,Qt,Qu,Qv,Qw,Qx,Qy,Qz,QA,QB,QC,QD,QE,QF,QG,QH,QI,QJ,QK,QL,QM,QN,QO,QP,QQ,QR,QS,QT,QU,QV,QW,QX,QY,QZ,X0,X1,X2,X3,X4,X5,X6,X7,X8,X9,Xa,Xb,Xc,Xd,Xe,Xf,Xg,Xh,Xi,Xj,Xk,Xl,Xm,Xn,Xo,Xp,Xq,Xr,Xs,Xt,Xu,Xv,Xw,Xx,Xy,Xz,XA,XB,reduceIte,reduceCtorEq,XC,XD,XE,XF,XG,XH,XI,XJ,XK,XL,XM,XN,XO,XP,XQ,XR,XS,XT,XU,XV,XW,XX,XY,XZ,Y0,Try.q3,Try.q4,Try.q22,Try.underlying69,Try.q69]
    refine acalls_then (k) ?_
    simp -implicitDefEqProofs only [Q0,Q1,Q2,Q3,Q4,Q5,Q6,Q7,Q8,Q9,Qa,Qb,Qc,Qd,Qe,Qf,Qg,Qh,Qi,Qj,Qk,Ql,Qm,Qn,Qo,Qp,Qq,Qr,Qs,Qt,Qu,Qv,Qw,Qx,Qy,Qz,QA,QB,QC,QD,QE,QF,QG,QH,QI,QJ,QK,QL,QM,QN,QO,QP,QQ,QR,QS,QT,QU,QV,QW,QX,QY,QZ,X0,X1,X2,X3,X4,X5,X6,X7,X8,X9,Xa,Xb,Xc,Xd,Xe,Xf,Xg,Xh,Xi,Xj,Xk,Xl,Xm,Xn,Xo,Xp,Xq,Xr,Xs,Xt,Xu,Xv,Xw,Xx,Xy,Xz,XA,XB,reduceIte,reduceCtorEq,XC,XD,XE,XF,XG,XH,XI,XJ,XK,XL,XM,XN,XO,XP,XQ,XR,XS,XT,XU,XV,XW,XX,XY,XZ,Y0,Try.q3,Try.q4,Try.q22,Try.underlying69,Try.q69]
    exact hx
  · rw [decide_eq_false hm] at kc ⊢
    refine acalls_of_vc (fn := Try.f50) Try.call50 Try.func50 rfl (by kernel_rfl) (by simp [Try.ntmps50]) ?_; simp -implicitDefEqProofs only [Try.ntmps50,Try.results50,Q0,Q1,Q2,Q3,Q4,Q5,Q6,Q7,Q8,Q9,Qa,Qb,Qc,Qd,Qe,Qf,Qg,Qh,Qi,Qj,Qk,Ql,Qm,Qn,Qo,Qp,Qq,Qr,Qs,Qt,Qu,Qv,Qw,Qx,Qy,Qz,QA,QB,QC,QD,QE,QF,QG,QH,QI,QJ,QK,QL,QM,QN,QO,QP,QQ,QR,QS,QT,QU,QV,QW,QX,QY,QZ,X0,X1,X2,X3,X4,X5,X6,X7,X8,X9,Xa,Xb,Xc,Xd,Xe,Xf,Xg,Xh,Xi,Xj,Xk,Xl,Xm,Xn,Xo,Xp,Xq,Xr,Xs,Xt,Xu,Xv,Xw,Xx,Xy,Xz,XA,XB,reduceIte,reduceCtorEq,XC,XD,XE,XF,XG,XH,XI,XJ,XK,XL,XM,XN,XO,XP,XQ,XR,XS,XT,XU,XV,XW,XX,XY,XZ,Y0,Try.q3,Try.q4,Try.q22,Try.underlying69,Try.q69]
    simp -implicitDefEqProofs only [g1,Q0,Q1,Q2,Q3,Q4,Q5,Q6,Q7,Q8,Q9,Qa,Qb,Qc,Qd,Qe,Qf,Qg,Qh,Qi,Qj,Qk,Ql,Qm,Qn,Qo,Qp,Qq,Qr,Qs,Qt,Qu,Qv,Qw,Qx,Qy,Qz,QA,QB,QC,QD,QE,QF,QG,QH,QI,QJ,QK,QL,QM,QN,QO,QP,QQ,QR,QS,QT,QU,QV,QW,QX,QY,QZ,X0,X1,X2,X3,X4,X5,X6,X7,X8,X9,Xa,Xb,Xc,Xd,Xe,Xf,Xg,Xh,Xi,Xj,Xk,Xl,Xm,Xn,Xo,Xp,Xq,Xr,Xs,Xt,Xu,Xv,Xw,Xx,Xy,Xz,XA,XB,reduceIte,reduceCtorEq,XC,XD,XE,XF,XG,XH,XI,XJ,XK,XL,XM,XN,XO,XP,XQ,XR,XS,XT,XU,XV,XW,XX,XY,XZ,Y0,Try.q3,Try.q4,Try.q22,Try.underlying69,Try.q69]
    refine acalls_then (kc _) ?_
    simp -implicitDefEqProofs only [Bool.false_and,Q0,Q1,Q2,Q3,Q4,Q5,Q6,Q7,Q8,Q9,Qa,Qb,Qc,Qd,Qe,Qf,Qg,Qh,Qi,Qj,Qk,Ql,Qm,Qn,Qo,Qp,Qq,Qr,Qs,Qt,Qu,Qv,Qw,Qx,Qy,Qz,QA,QB,QC,QD,QE,QF,QG,QH,QI,QJ,QK,QL,QM,QN,QO,QP,QQ,QR,QS,QT,QU,QV,QW,QX,QY,QZ,X0,X1,X2,X3,X4,X5,X6,X7,X8,X9,Xa,Xb,Xc,Xd,Xe,Xf,Xg,Xh,Xi,Xj,Xk,Xl,Xm,Xn,Xo,Xp,Xq,Xr,Xs,Xt,Xu,Xv,Xw,Xx,Xy,Xz,XA,XB,reduceIte,reduceCtorEq,XC,XD,XE,XF,XG,XH,XI,XJ,XK,XL,XM,XN,XO,XP,XQ,XR,XS,XT,XU,XV,XW,XX,XY,XZ,Y0,Try.q3,Try.q4,Try.q22,Try.underlying69,Try.q69]
    exact hx

theorem c_Least (p : List (List Int)) (hp : p.length ≤ 64) (l : List Int) (hl : l.length ≤ 1000000) (σ : Store) :
    ACalls Try.prog 21 [taxA p, .ints .i64 l] σ (fun r s => r = colV p.length l (fun c => decide (c ∈ l) && !l.any (lowI p c)) ∧ s = σ) := by
  have hx : Ext σ (σ ++ [.box [taxA p], .box [.ints .i64 l]]) := Ext.app _ _
  have k := c_collect p hp l hl (fun c => decide (c ∈ l) && !l.any (lowI p c)) 50 [.ptr (σ.length + 1) 0, .ptr σ.length 0] (σ ++ [.box [taxA p], .box [.ints .i64 l]])
    (fun s hs c hc => c_least1 p hp l hl c s (σ.length + 1) σ.length (hs _ _ (by simp)) (hs _ _ (by simp)))
  have hv : ∃ x e, colV p.length l (fun c => decide (c ∈ l) && !l.any (lowI p c)) = .tup [x, e] ∧ (AV.tup [x, e]).noRef = true := by
    unfold colV; split
    · exact ⟨_, _, rfl, rfl⟩
    · exact ⟨_, _, rfl, rfl⟩
  obtain ⟨x, e, hv, hn⟩ := hv
  rw [hv] at k ⊢
  refine ACalls.frozen (ACalls.mono (R := fun r s => r = .tup [x, e] ∧ Ext σ s) ?_ fun r s ⟨h1, h2⟩ => ⟨h2, by rw [h1]; exact .same _ hn⟩)
  unfold taxA at k hx ⊢
  refine acalls_of_vc (fn := Try.f21) Try.call21 Try.func21 rfl (by kernel_rfl) (by simp [Try.ntmps21]) ?_; simp -implicitDefEqProofs only [Try.ntmps21,Try.results21,Q0,Q1,Q2,Q3,Q4,Q5,Q6,Q7,Q8,Q9,Qa,Qb,Qc,Qd,Qe,Qf,Qg,Qh,Qi,Qj,Qk,Ql,Qm,Qn,Qo,Qp,Qq,Qr,Qs,Qt,Qu,Qv,Qw,Qx,Qy,Qz,QA,QB,QC,QD,QE,QF,QG,QH,QI,QJ,QK,QL,QM,QN,QO,QP,QQ,QR,QS,QT,QU,QV,QW,QX,QY,QZ,X0,X1,X2,X3,X4,X5,X6,X7,X8,X9,Xa,Xb,Xc,Xd,Xe,Xf,Xg,Xh,Xi,Xj,Xk,Xl,Xm,Xn,Xo,Xp,Xq,Xr,Xs,Xt,Xu,Xv,Xw,Xx,Xy,Xz,XA,XB,reduceIte,reduceCtorEq,XC,XD,XE,XF,XG,XH,XI,XJ,XK,XL,XM,XN,XO,XP,XQ,XR,XS,XT,XU,XV,XW,XX,XY,XZ,Y0,Try.q3,Try.q22,Try.q25,Try.q26,Try.underlying69,Try.q69]
  refine acalls_then (k) ?_
  simp -implicitDefEqProofs only [Q0,Q1,Q2,Q3,Q4,Q5,Q6,Q7,Q8,Q9,Qa,Qb,Qc,Qd,Qe,Qf,Qg,Qh,Qi,Qj,Qk,Ql,Qm,Qn,Qo,Qp,Qq,Qr,Qs,Qt,Qu,Qv,Qw,Qx,Qy,Qz,QA,QB,QC,QD,QE,QF,QG,QH,QI,QJ,QK,QL,QM,QN,QO,QP,QQ,QR,QS,QT,QU,QV,QW,QX,QY,QZ,X0,X1,X2,X3,X4,X5,X6,X7,X8,X9,Xa,Xb,Xc,Xd,Xe,Xf,Xg,Xh,Xi,Xj,Xk,Xl,Xm,Xn,Xo,Xp,Xq,Xr,Xs,Xt,Xu,Xv,Xw,Xx,Xy,Xz,XA,XB,reduceIte,reduceCtorEq,XC,XD,XE,XF,XG,XH,XI,XJ,XK,XL,XM,XN,XO,XP,XQ,XR,XS,XT,XU,XV,XW,XX,XY,XZ,Y0,Try.q3,Try.q22,Try.q25,Try.q26,Try.underlying69,Try.q69]
  exact hx

end Go.Proofs
