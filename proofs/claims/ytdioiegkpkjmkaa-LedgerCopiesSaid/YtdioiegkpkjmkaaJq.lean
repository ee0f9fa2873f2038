/-
  The ledger: an entry is taken back; contract.
-/
import Derived.Test.YtdioiegkpkjmkaaJp
namespace Go.Proofs
open Go.Pa
open Go.Pa renaming VB0 → Q0, VB1 → Q1, VB2 → Q2, VB3 → Q3, VB4 → Q4, VB5 → Q5, VB6 → Q6, VB7 → Q7, VB8 → Q8, VB9 → Q9, condV_bool → Qa, guardV_bool → Qb, vcS → Qc, evA → Qd, evBin → Qe, nilA → Qf, nilOf → Qg, intOp → Qh, strOp → Qi, evUn → Qj, evConv → Qk, evField → Ql, evFieldAddr → Qm, evIndexAddr → Qn, evIndex → Qo, evIndexA → Qp, bnd → Qq, evSlice → Qr, evLen → Qs, evPick → Qt, evExtract → Qu, evNilCheck → Qv, evMin → Qw, evMax → Qx, evLoadI → Qy, partsOne → QA, intsOf → QB, rowsAV → QC, evBuildSlice → QD, evBuild → QE, fillA → QF, splice → QG, evBuiltin → QH, guardD_bool → QI, dOp → QJ, cl → QK, vcLoad → QL, vcStore → QM, vcMake → QN, convA → QO, evIndexArr → QP, retA → QQ, ressA → QR, resA → QS, envOf → QT, condR_bool → QX, asgEnv → QY, parEnv → QZ, dstAt → XI, vcLook → XT, vcPut → XU, vcEnt → XV, vcESt → XW, vcMLen → XX, vcDel → XY, vcClear → XZ, vcLookD → Y0
open Go.Pa.AV renaming cell → Qz
open Go.Pa.Env renaming put → QU
open List renaming set_cons_zero → QV, set_cons_succ → QW, foldl_cons → X0, foldl_nil → X1, map_cons → X2, map_nil → X3, toList_toArray → X4, getElem?_cons_zero → X5, getElem?_cons_succ → X6, nil_append → Xa, append_nil → Xb, cons_append → Xc, singleton_append → Xd, length_cons → Xe, length_nil → Xf, all_cons → Xg, all_nil → Xh, take_succ_cons → Xi, take_zero → Xj, take_nil → Xk, drop_zero → Xl, drop_succ_cons → Xm, drop_nil → Xn, contains_nil → Xo, contains_cons → Xp
open Option renaming bind_some → X7, map_some → X8, map_none → X9
open Bool renaming or_false → Xq, false_or → Xr, or_true → Xs, true_or → Xt, false_eq_true → XC, not_true → XD, not_false → XE, and_true → XF, true_and → XG, and_self → XH
open Nat renaming reduceEqDiff → Xu, reduceAdd → Xv, reduceSub → Xw, reduceMul → Xx, reduceLT → Xy, reduceLeDiff → Xz, reduceBNe → XA, reduceBEq → XB, zero_add → XL, add_zero → XM
open UInt8 renaming reduceToNat → XJ
open Int renaming cast_ofNat_Int → XK, reduceToNat → XN, reduceLT → XO, reduceLE → XP, reduceNeg → XQ, reduceEq → XR, reduceNe → XS
set_option linter.unusedSimpArgs false
set_option linter.unusedVariables false
set_option maxRecDepth 20000
set_option maxHeartbeats 4000000

/-- The opposite of an entry. -/
def oppE (e : Ent) (idx day : Int) : Ent := ⟨day, e.to, e.fr, e.cur, e.amt, idx⟩

/-- What Void answers, and what there is then. -/
noncomputable def voidR (es : List Ent) (dn : List Int) (idx day : Int) : Int × List Ent × List Int :=
  if inB idx 0 ((es.length : Int) - 1) = false then (7, es, dn)
  else if inB day (es.getD idx.toNat default).day 131072 = false then (1, es, dn)
  else if idx ∈ dn then (8, es, dn)
  else if (addR es [oppE (es.getD idx.toNat default) idx day]).1 ≠ 0 then ((addR es [oppE (es.getD idx.toNat default) idx day]).1, es, dn)
  else (0, es ++ [oppE (es.getD idx.toNat default) idx day], dn ++ [idx, (es.length : Int)])

theorem addR_ne {es e : List Ent} (h : (addR es e).1 ≠ 0) : (addR es e).2 = es := by
  unfold addR at h ⊢
  split
  · rfl
  · split
    · rfl
    · rename_i h1 h2; rw [if_neg h1, if_neg h2] at h; exact absurd rfl h
theorem addR_eq {es e : List Ent} (h : (addR es e).1 = 0) : (addR es e).2 = es ++ e ∧ (es ++ e).length ≤ 16384 := by
  unfold addR at h ⊢
  split
  · rename_i h1; rw [if_pos h1] at h; simp at h
  · split
    · rename_i h1 h2; rw [if_neg h1, if_pos h2] at h; simp at h
    · exact ⟨rfl, by omega⟩

theorem ik_eq {n m : Int} : (AV.int .i64 n = AV.int .i64 m) ↔ n = m := by
  constructor
  · intro h; injection h
  · rintro rfl; rfl

theorem opp_val {e : Ent} (h : Val e) {idx day : Int} (h1 : 0 ≤ idx ∧ idx ≤ 1000000) (h2 : e.day ≤ day ∧ day ≤ 131072) : Val (oppE e idx day) := by
  have := h.day
  exact ⟨⟨by simp only [oppE]; omega, h2.2⟩, h.to, h.fr, h.ne.symm, h.cur, h.amt, ⟨h1.1, by simp only [oppE]; omega⟩⟩

theorem c_VoidD (es : List Ent) (dn : List Int) (hl : es.length ≤ 16384) (hV : ∀ x ∈ es, Val x) (idx day : Int) (hidx : Okk .i64 idx) (σ : Store) (id j : Nat) (h0 : Led σ id j es dn) :
    ∃ s2, Led s2 id j (voidR es dn idx day).2.1 (voidR es dn idx day).2.2 ∧ Fr σ s2 id j ∧ ACalls Try.prog 19 [.ptr id 0, .int .i64 idx, .int .i64 day] σ (fun r s => r = .int .i64 (voidR es dn idx day).1 ∧ s = s2) := by
  have hne := h0.ne
  have hLed := h0
  obtain ⟨g1, l, c, g2, hk, hd⟩ := h0
  have hid := (List.getElem?_eq_some_iff.1 g1).1
  have hj := (List.getElem?_eq_some_iff.1 g2).1
  have hio := okk_i64 hidx
  have lm : (es.map entA).length = es.length := List.length_map _
  have w1 : IntKind.i64.wrap ((es.length : Int) - 1) = (es.length : Int) - 1 := wrap_i64 (by omega) (by omega)
  have hin := inB_iff (n := idx) (lo := 0) (hi := (es.length : Int) - 1)
  have k1 := c_in idx 0 ((es.length : Int) - 1)
  have fr0 : Fr σ σ id j := ⟨Nat.le_refl _, fun _ _ h _ _ => h⟩
  unfold voidR
  cases hb1 : inB idx 0 ((es.length : Int) - 1) with
  | false =>
    rw [hb1] at k1
    rw [if_pos rfl]
    refine ⟨σ, hLed, fr0, ?_⟩
    refine acalls_of_vc (fn := Try.f19) Try.call19 Try.func19 rfl (by kernel_rfl) (by simp [Try.ntmps19]) ?_; simp -implicitDefEqProofs only [Try.ntmps19,Try.results19,Q0,Q1,Q2,Q3,Q4,Q5,Q6,Q7,Q8,Q9,Qa,Qb,Qc,Qd,Qe,Qf,Qg,Qh,Qi,Qj,Qk,Ql,Qm,Qn,Qo,Qp,Qq,Qr,Qs,Qt,Qu,Qv,Qw,Qx,Qy,Qz,QA,QB,QC,QD,QE,QF,QG,QH,QI,QJ,QK,QL,QM,QN,QO,QP,QQ,QR,QS,QT,QU,QV,QW,QX,QY,QZ,X0,X1,X2,X3,X4,X5,X6,X7,X8,X9,Xa,Xb,Xc,Xd,Xe,Xf,Xg,Xh,Xi,Xj,Xk,Xl,Xm,Xn,Xo,Xp,Xq,Xr,Xs,Xt,Xu,Xv,Xw,Xx,Xy,Xz,XA,XB,reduceIte,reduceCtorEq,XC,XD,XE,XF,XG,XH,XI,XJ,XK,XL,XM,XN,XO,XP,XQ,XR,XS,XT,XU,XV,XW,XX,XY,XZ,Y0,Try.q3,Try.q4,Try.q23,Try.q27,Try.q29,Try.underlying37,Try.q37,Try.underlying64,Try.q64,Try.underlying66,Try.q66]
    simp -implicitDefEqProofs only [g1,lm,w1,Q0,Q1,Q2,Q3,Q4,Q5,Q6,Q7,Q8,Q9,Qa,Qb,Qc,Qd,Qe,Qf,Qg,Qh,Qi,Qj,Qk,Ql,Qm,Qn,Qo,Qp,Qq,Qr,Qs,Qt,Qu,Qv,Qw,Qx,Qy,Qz,QA,QB,QC,QD,QE,QF,QG,QH,QI,QJ,QK,QL,QM,QN,QO,QP,QQ,QR,QS,QT,QU,QV,QW,QX,QY,QZ,X0,X1,X2,X3,X4,X5,X6,X7,X8,X9,Xa,Xb,Xc,Xd,Xe,Xf,Xg,Xh,Xi,Xj,Xk,Xl,Xm,Xn,Xo,Xp,Xq,Xr,Xs,Xt,Xu,Xv,Xw,Xx,Xy,Xz,XA,XB,reduceIte,reduceCtorEq,XC,XD,XE,XF,XG,XH,XI,XJ,XK,XL,XM,XN,XO,XP,XQ,XR,XS,XT,XU,XV,XW,XX,XY,XZ,Y0,Try.q3,Try.q4,Try.q23,Try.q27,Try.q29,Try.underlying37,Try.q37,Try.underlying64,Try.q64,Try.underlying66,Try.q66]
    refine acalls_then (k1 _) ?_
    simp -implicitDefEqProofs only [Q0,Q1,Q2,Q3,Q4,Q5,Q6,Q7,Q8,Q9,Qa,Qb,Qc,Qd,Qe,Qf,Qg,Qh,Qi,Qj,Qk,Ql,Qm,Qn,Qo,Qp,Qq,Qr,Qs,Qt,Qu,Qv,Qw,Qx,Qy,Qz,QA,QB,QC,QD,QE,QF,QG,QH,QI,QJ,QK,QL,QM,QN,QO,QP,QQ,QR,QS,QT,QU,QV,QW,QX,QY,QZ,X0,X1,X2,X3,X4,X5,X6,X7,X8,X9,Xa,Xb,Xc,Xd,Xe,Xf,Xg,Xh,Xi,Xj,Xk,Xl,Xm,Xn,Xo,Xp,Xq,Xr,Xs,Xt,Xu,Xv,Xw,Xx,Xy,Xz,XA,XB,reduceIte,reduceCtorEq,XC,XD,XE,XF,XG,XH,XI,XJ,XK,XL,XM,XN,XO,XP,XQ,XR,XS,XT,XU,XV,XW,XX,XY,XZ,Y0,Try.q3,Try.q4,Try.q23,Try.q27,Try.q29,Try.underlying37,Try.q37,Try.underlying64,Try.q64,Try.underlying66,Try.q66]
  | true =>
    rw [hb1] at k1
    rw [if_neg (by decide)]
    have hix := hin.1 hb1
    have hixl : idx.toNat < es.length := by omega
    have hrow : (es.map entA).getD idx.toNat [] = entA (es.getD idx.toNat default) := by rw [getD_get (by simpa using hixl), getD_get hixl]; simp
    have hve : Val (es.getD idx.toNat default) := hV _ (getD_mem hixl)
    generalize es.getD idx.toNat default = e at *
    have hrow2 : (es.map entA).getD idx.toNat [] = [.int .i64 e.day, .int .i64 e.fr, .int .i64 e.to, .int .i64 e.cur, .int .i64 e.amt, .int .i64 e.note] := hrow
    have bi : 0 ≤ idx ∧ idx < (es.length : Int) := by omega
    have k2 := c_in day e.day 131072
    have hin2 := inB_iff (n := day) (lo := e.day) (hi := 131072)
    have frx : ∀ x, Fr σ (σ ++ [x]) id j := fun x => ⟨by simp, fun k y h _ _ => Ext.app σ _ _ _ h⟩
    have ldx : ∀ x, Led (σ ++ [x]) id j es dn := fun x => hLed.ext (Ext.app σ _)
    cases hb2 : inB day e.day 131072 with
    | false =>
      rw [hb2] at k2
      rw [if_pos rfl]
      refine ⟨_, ldx (.box [.int .i64 e.day, .int .i64 e.fr, .int .i64 e.to, .int .i64 e.cur, .int .i64 e.amt, .int .i64 e.note]), frx _, ?_⟩
      refine acalls_of_vc (fn := Try.f19) Try.call19 Try.func19 rfl (by kernel_rfl) (by simp [Try.ntmps19]) ?_; simp -implicitDefEqProofs only [Try.ntmps19,Try.results19,Q0,Q1,Q2,Q3,Q4,Q5,Q6,Q7,Q8,Q9,Qa,Qb,Qc,Qd,Qe,Qf,Qg,Qh,Qi,Qj,Qk,Ql,Qm,Qn,Qo,Qp,Qq,Qr,Qs,Qt,Qu,Qv,Qw,Qx,Qy,Qz,QA,QB,QC,QD,QE,QF,QG,QH,QI,QJ,QK,QL,QM,QN,QO,QP,QQ,QR,QS,QT,QU,QV,QW,QX,QY,QZ,X0,X1,X2,X3,X4,X5,X6,X7,X8,X9,Xa,Xb,Xc,Xd,Xe,Xf,Xg,Xh,Xi,Xj,Xk,Xl,Xm,Xn,Xo,Xp,Xq,Xr,Xs,Xt,Xu,Xv,Xw,Xx,Xy,Xz,XA,XB,reduceIte,reduceCtorEq,XC,XD,XE,XF,XG,XH,XI,XJ,XK,XL,XM,XN,XO,XP,XQ,XR,XS,XT,XU,XV,XW,XX,XY,XZ,Y0,Try.q3,Try.q4,Try.q23,Try.q27,Try.q29,Try.underlying37,Try.q37,Try.underlying64,Try.q64,Try.underlying66,Try.q66]
      simp -implicitDefEqProofs only [g1,lm,w1,Q0,Q1,Q2,Q3,Q4,Q5,Q6,Q7,Q8,Q9,Qa,Qb,Qc,Qd,Qe,Qf,Qg,Qh,Qi,Qj,Qk,Ql,Qm,Qn,Qo,Qp,Qq,Qr,Qs,Qt,Qu,Qv,Qw,Qx,Qy,Qz,QA,QB,QC,QD,QE,QF,QG,QH,QI,QJ,QK,QL,QM,QN,QO,QP,QQ,QR,QS,QT,QU,QV,QW,QX,QY,QZ,X0,X1,X2,X3,X4,X5,X6,X7,X8,X9,Xa,Xb,Xc,Xd,Xe,Xf,Xg,Xh,Xi,Xj,Xk,Xl,Xm,Xn,Xo,Xp,Xq,Xr,Xs,Xt,Xu,Xv,Xw,Xx,Xy,Xz,XA,XB,reduceIte,reduceCtorEq,XC,XD,XE,XF,XG,XH,XI,XJ,XK,XL,XM,XN,XO,XP,XQ,XR,XS,XT,XU,XV,XW,XX,XY,XZ,Y0,Try.q3,Try.q4,Try.q23,Try.q27,Try.q29,Try.underlying37,Try.q37,Try.underlying64,Try.q64,Try.underlying66,Try.q66]
      refine acalls_then (k1 _) ?_
      simp -implicitDefEqProofs only [g1,lm,hrow2,Q0,Q1,Q2,Q3,Q4,Q5,Q6,Q7,Q8,Q9,Qa,Qb,Qc,Qd,Qe,Qf,Qg,Qh,Qi,Qj,Qk,Ql,Qm,Qn,Qo,Qp,Qq,Qr,Qs,Qt,Qu,Qv,Qw,Qx,Qy,Qz,QA,QB,QC,QD,QE,QF,QG,QH,QI,QJ,QK,QL,QM,QN,QO,QP,QQ,QR,QS,QT,QU,QV,QW,QX,QY,QZ,X0,X1,X2,X3,X4,X5,X6,X7,X8,X9,Xa,Xb,Xc,Xd,Xe,Xf,Xg,Xh,Xi,Xj,Xk,Xl,Xm,Xn,Xo,Xp,Xq,Xr,Xs,Xt,Xu,Xv,Xw,Xx,Xy,Xz,XA,XB,reduceIte,reduceCtorEq,XC,XD,XE,XF,XG,XH,XI,XJ,XK,XL,XM,XN,XO,XP,XQ,XR,XS,XT,XU,XV,XW,XX,XY,XZ,Y0,Try.q3,Try.q4,Try.q23,Try.q27,Try.q29,Try.underlying37,Try.q37,Try.underlying64,Try.q64,Try.underlying66,Try.q66]
      refine ⟨bi, ?_⟩
      refine acalls_then (k2 _) ?_
      simp -implicitDefEqProofs only [Q0,Q1,Q2,Q3,Q4,Q5,Q6,Q7,Q8,Q9,Qa,Qb,Qc,Qd,Qe,Qf,Qg,Qh,Qi,Qj,Qk,Ql,Qm,Qn,Qo,Qp,Qq,Qr,Qs,Qt,Qu,Qv,Qw,Qx,Qy,Qz,QA,QB,QC,QD,QE,QF,QG,QH,QI,QJ,QK,QL,QM,QN,QO,QP,QQ,QR,QS,QT,QU,QV,QW,QX,QY,QZ,X0,X1,X2,X3,X4,X5,X6,X7,X8,X9,Xa,Xb,Xc,Xd,Xe,Xf,Xg,Xh,Xi,Xj,Xk,Xl,Xm,Xn,Xo,Xp,Xq,Xr,Xs,Xt,Xu,Xv,Xw,Xx,Xy,Xz,XA,XB,reduceIte,reduceCtorEq,XC,XD,XE,XF,XG,XH,XI,XJ,XK,XL,XM,XN,XO,XP,XQ,XR,XS,XT,XU,XV,XW,XX,XY,XZ,Y0,Try.q3,Try.q4,Try.q23,Try.q27,Try.q29,Try.underlying37,Try.q37,Try.underlying64,Try.q64,Try.underlying66,Try.q66]
    | true =>
      rw [hb2] at k2
      rw [if_neg (by decide)]
      have hda := hin2.1 hb2
      have hvo := opp_val hve (idx := idx) (day := day) (by omega) hda
      have hlook : lookA1 false (.bool false) (lookKV l (.int .i64 idx)) = .bool (decide (idx ∈ dn)) := by
        rw [look_false, hd]
        by_cases h : idx ∈ dn
        · rw [if_pos h, decide_eq_true h]; rfl
        · rw [if_neg h, decide_eq_false h]; rfl
      have okx : IK (.int .i64 idx) := ⟨idx, hidx, rfl⟩
      have ga : ∀ x, (σ ++ [x])[id]? = some (.box [esV es, .mp j]) := fun x => Ext.app σ _ _ _ g1
      have gb : ∀ x, (σ ++ [x])[j]? = some (.mp (.kv l c)) := fun x => Ext.app σ _ _ _ g2
      by_cases hdn : idx ∈ dn
      · rw [if_pos hdn]
        rw [decide_eq_true hdn] at hlook
        refine ⟨_, ldx (.box [.int .i64 e.day, .int .i64 e.fr, .int .i64 e.to, .int .i64 e.cur, .int .i64 e.amt, .int .i64 e.note]), frx _, ?_⟩
        refine acalls_of_vc (fn := Try.f19) Try.call19 Try.func19 rfl (by kernel_rfl) (by simp [Try.ntmps19]) ?_; simp -implicitDefEqProofs only [Try.ntmps19,Try.results19,Q0,Q1,Q2,Q3,Q4,Q5,Q6,Q7,Q8,Q9,Qa,Qb,Qc,Qd,Qe,Qf,Qg,Qh,Qi,Qj,Qk,Ql,Qm,Qn,Qo,Qp,Qq,Qr,Qs,Qt,Qu,Qv,Qw,Qx,Qy,Qz,QA,QB,QC,QD,QE,QF,QG,QH,QI,QJ,QK,QL,QM,QN,QO,QP,QQ,QR,QS,QT,QU,QV,QW,QX,QY,QZ,X0,X1,X2,X3,X4,X5,X6,X7,X8,X9,Xa,Xb,Xc,Xd,Xe,Xf,Xg,Xh,Xi,Xj,Xk,Xl,Xm,Xn,Xo,Xp,Xq,Xr,Xs,Xt,Xu,Xv,Xw,Xx,Xy,Xz,XA,XB,reduceIte,reduceCtorEq,XC,XD,XE,XF,XG,XH,XI,XJ,XK,XL,XM,XN,XO,XP,XQ,XR,XS,XT,XU,XV,XW,XX,XY,XZ,Y0,Try.q3,Try.q4,Try.q23,Try.q27,Try.q29,Try.underlying37,Try.q37,Try.underlying64,Try.q64,Try.underlying66,Try.q66]
        simp -implicitDefEqProofs only [g1,lm,w1,Q0,Q1,Q2,Q3,Q4,Q5,Q6,Q7,Q8,Q9,Qa,Qb,Qc,Qd,Qe,Qf,Qg,Qh,Qi,Qj,Qk,Ql,Qm,Qn,Qo,Qp,Qq,Qr,Qs,Qt,Qu,Qv,Qw,Qx,Qy,Qz,QA,QB,QC,QD,QE,QF,QG,QH,QI,QJ,QK,QL,QM,QN,QO,QP,QQ,QR,QS,QT,QU,QV,QW,QX,QY,QZ,X0,X1,X2,X3,X4,X5,X6,X7,X8,X9,Xa,Xb,Xc,Xd,Xe,Xf,Xg,Xh,Xi,Xj,Xk,Xl,Xm,Xn,Xo,Xp,Xq,Xr,Xs,Xt,Xu,Xv,Xw,Xx,Xy,Xz,XA,XB,reduceIte,reduceCtorEq,XC,XD,XE,XF,XG,XH,XI,XJ,XK,XL,XM,XN,XO,XP,XQ,XR,XS,XT,XU,XV,XW,XX,XY,XZ,Y0,Try.q3,Try.q4,Try.q23,Try.q27,Try.q29,Try.underlying37,Try.q37,Try.underlying64,Try.q64,Try.underlying66,Try.q66]
        refine acalls_then (k1 _) ?_
        simp -implicitDefEqProofs only [g1,lm,hrow2,Q0,Q1,Q2,Q3,Q4,Q5,Q6,Q7,Q8,Q9,Qa,Qb,Qc,Qd,Qe,Qf,Qg,Qh,Qi,Qj,Qk,Ql,Qm,Qn,Qo,Qp,Qq,Qr,Qs,Qt,Qu,Qv,Qw,Qx,Qy,Qz,QA,QB,QC,QD,QE,QF,QG,QH,QI,QJ,QK,QL,QM,QN,QO,QP,QQ,QR,QS,QT,QU,QV,QW,QX,QY,QZ,X0,X1,X2,X3,X4,X5,X6,X7,X8,X9,Xa,Xb,Xc,Xd,Xe,Xf,Xg,Xh,Xi,Xj,Xk,Xl,Xm,Xn,Xo,Xp,Xq,Xr,Xs,Xt,Xu,Xv,Xw,Xx,Xy,Xz,XA,XB,reduceIte,reduceCtorEq,XC,XD,XE,XF,XG,XH,XI,XJ,XK,XL,XM,XN,XO,XP,XQ,XR,XS,XT,XU,XV,XW,XX,XY,XZ,Y0,Try.q3,Try.q4,Try.q23,Try.q27,Try.q29,Try.underlying37,Try.q37,Try.underlying64,Try.q64,Try.underlying66,Try.q66]
        refine ⟨bi, ?_⟩
        refine acalls_then (k2 _) ?_
        simp -implicitDefEqProofs only [ga,gb,hlook,Q0,Q1,Q2,Q3,Q4,Q5,Q6,Q7,Q8,Q9,Qa,Qb,Qc,Qd,Qe,Qf,Qg,Qh,Qi,Qj,Qk,Ql,Qm,Qn,Qo,Qp,Qq,Qr,Qs,Qt,Qu,Qv,Qw,Qx,Qy,Qz,QA,QB,QC,QD,QE,QF,QG,QH,QI,QJ,QK,QL,QM,QN,QO,QP,QQ,QR,QS,QT,QU,QV,QW,QX,QY,QZ,X0,X1,X2,X3,X4,X5,X6,X7,X8,X9,Xa,Xb,Xc,Xd,Xe,Xf,Xg,Xh,Xi,Xj,Xk,Xl,Xm,Xn,Xo,Xp,Xq,Xr,Xs,Xt,Xu,Xv,Xw,Xx,Xy,Xz,XA,XB,reduceIte,reduceCtorEq,XC,XD,XE,XF,XG,XH,XI,XJ,XK,XL,XM,XN,XO,XP,XQ,XR,XS,XT,XU,XV,XW,XX,XY,XZ,Y0,Try.q3,Try.q4,Try.q23,Try.q27,Try.q29,Try.underlying37,Try.q37,Try.underlying64,Try.q64,Try.underlying66,Try.q66]
        exact ⟨ik_ok okx, fun p hp => ik_ok (hk.ks p hp)⟩
      · rw [if_neg hdn]
        rw [decide_eq_false hdn] at hlook
        have k3 := fun s h => c_add es [oppE e idx day] hl (by simp) hV (by intro x hx; simp at hx; subst hx; exact hvo) s id j h
        have ne1 := @addR_ne es [oppE e idx day]
        have eq1 := @addR_eq es [oppE e idx day]
        generalize addR es [oppE e idx day] = A at *
        obtain ⟨code, es'⟩ := A
        simp only at k3 ne1 eq1 ⊢
        by_cases hc0 : code = 0
        · subst hc0
          rw [if_neg (by simp)]
          obtain ⟨hes, hle⟩ := eq1 rfl
          subst hes
          have lm2 : ((es ++ [oppE e idx day]).map entA).length = es.length + 1 := by simp
          have w2 : IntKind.i64.wrap (((es.length + 1 : Nat) : Int) - 1) = (es.length : Int) := by rw [wrap_i64 (by omega) (by omega)]; omega
          have okl : IK (.int .i64 (es.length : Int)) := ⟨_, i64_okk (by omega) (by omega), rfl⟩
          obtain ⟨lE, cE, vE, tE, lS, x1, x2, x3, x4, x5, x6, x7⟩ := ent_ok hk okx (.bool false) (.bool true)
          obtain ⟨mE, dE, vF, tF, mS, y1, y2, y3, y4, y5, y6, y7⟩ := ent_ok x4 okl (.bool false) (.bool true)
          have kk0 := ik_ok okx
          have kk1 : ∀ p ∈ l, keyOkA Try.prog 3 p.1 := fun p hp => ik_ok (hk.ks p hp)
          have kk2 := ik_ok okl
          have kk3 : ∀ p ∈ lS, keyOkA Try.prog 3 p.1 := fun p hp => ik_ok (x4.ks p hp)
          obtain ⟨s, hs⟩ : ∃ s : Store, s = (σ ++ [AObj.box [.int .i64 day, .int .i64 e.to, .int .i64 e.fr, .int .i64 e.cur, .int .i64 e.amt, .int .i64 idx]]).set id (AObj.box [esV (es ++ [oppE e idx day]), .mp j]) := ⟨_, rfl⟩
          have hG : s[id]? = some (.box [esV (es ++ [oppE e idx day]), .mp j]) := by rw [hs]; exact List.getElem?_set_self (by simp; omega)
          have hJ : s[j]? = some (.mp (.kv l c)) := by rw [hs, List.getElem?_set_ne hne]; exact gb _
          have hsl : j < s.length := (List.getElem?_eq_some_iff.1 hJ).1
          have frs : Fr σ s id j := by
            refine ⟨by rw [hs]; simp, fun k x h h1 h2 => ?_⟩
            rw [hs, List.getElem?_set_ne (Ne.symm h1)]
            exact Ext.app σ _ _ _ h
          have hgj : ∀ x, (s.set j x)[j]? = some x := fun x => List.getElem?_set_self hsl
          have hsj : ∀ x y, (s.set j x).set j y = s.set j y := by intro x y; simp
          refine ⟨s.set j (.mp (.kv mS dE)), ⟨by rw [List.getElem?_set_ne hne.symm]; exact hG, mS, dE, hgj _, y4, fun n => ?_⟩, ⟨by simp only [List.length_set]; exact frs.1, fun k x h h1 h2 => by rw [List.getElem?_set_ne (Ne.symm h2)]; exact frs.2 k x h h1 h2⟩, ?_⟩
          · rw [y6, x6, hd]
            simp only [ik_eq, List.mem_append, List.mem_cons, List.not_mem_nil, or_false]
            by_cases hn1 : n = (es.length : Int)
            · rw [if_pos hn1, if_pos (.inr (.inr hn1))]
            · rw [if_neg hn1]
              by_cases hn2 : n = idx
              · rw [if_pos hn2, if_pos (.inr (.inl hn2))]
              · rw [if_neg hn2]
                by_cases hn3 : n ∈ dn
                · rw [if_pos hn3, if_pos (.inl hn3)]
                · rw [if_neg hn3, if_neg]
                  rintro (h | h | h)
                  · exact hn3 h
                  · exact hn2 h
                  · exact hn1 h
          refine acalls_of_vc (fn := Try.f19) Try.call19 Try.func19 rfl (by kernel_rfl) (by simp [Try.ntmps19]) ?_; simp -implicitDefEqProofs only [Try.ntmps19,Try.results19,Q0,Q1,Q2,Q3,Q4,Q5,Q6,Q7,Q8,Q9,Qa,Qb,Qc,Qd,Qe,Qf,Qg,Qh,Qi,Qj,Qk,Ql,Qm,Qn,Qo,Qp,Qq,Qr,Qs,Qt,Qu,Qv,Qw,Qx,Qy,Qz,QA,QB,QC,QD,QE,QF,QG,QH,QI,QJ,QK,QL,QM,QN,QO,QP,QQ,QR,QS,QT,QU,QV,QW,QX,QY,QZ,X0,X1,X2,X3,X4,X5,X6,X7,X8,X9,Xa,Xb,Xc,Xd,Xe,Xf,Xg,Xh,Xi,Xj,Xk,Xl,Xm,Xn,Xo,Xp,Xq,Xr,Xs,Xt,Xu,Xv,Xw,Xx,Xy,Xz,XA,XB,reduceIte,reduceCtorEq,XC,XD,XE,XF,XG,XH,XI,XJ,XK,XL,XM,XN,XO,XP,XQ,XR,XS,XT,XU,XV,XW,XX,XY,XZ,Y0,Try.q3,Try.q4,Try.q23,Try.q27,Try.q29,Try.underlying37,Try.q37,Try.underlying64,Try.q64,Try.underlying66,Try.q66]
          simp -implicitDefEqProofs only [g1,lm,w1,Q0,Q1,Q2,Q3,Q4,Q5,Q6,Q7,Q8,Q9,Qa,Qb,Qc,Qd,Qe,Qf,Qg,Qh,Qi,Qj,Qk,Ql,Qm,Qn,Qo,Qp,Qq,Qr,Qs,Qt,Qu,Qv,Qw,Qx,Qy,Qz,QA,QB,QC,QD,QE,QF,QG,QH,QI,QJ,QK,QL,QM,QN,QO,QP,QQ,QR,QS,QT,QU,QV,QW,QX,QY,QZ,X0,X1,X2,X3,X4,X5,X6,X7,X8,X9,Xa,Xb,Xc,Xd,Xe,Xf,Xg,Xh,Xi,Xj,Xk,Xl,Xm,Xn,Xo,Xp,Xq,Xr,Xs,Xt,Xu,Xv,Xw,Xx,Xy,Xz,XA,XB,reduceIte,reduceCtorEq,XC,XD,XE,XF,XG,XH,XI,XJ,XK,XL,XM,XN,XO,XP,XQ,XR,XS,XT,XU,XV,XW,XX,XY,XZ,Y0,Try.q3,Try.q4,Try.q23,Try.q27,Try.q29,Try.underlying37,Try.q37,Try.underlying64,Try.q64,Try.underlying66,Try.q66]
          refine acalls_then (k1 _) ?_
          simp -implicitDefEqProofs only [g1,lm,hrow2,Q0,Q1,Q2,Q3,Q4,Q5,Q6,Q7,Q8,Q9,Qa,Qb,Qc,Qd,Qe,Qf,Qg,Qh,Qi,Qj,Qk,Ql,Qm,Qn,Qo,Qp,Qq,Qr,Qs,Qt,Qu,Qv,Qw,Qx,Qy,Qz,QA,QB,QC,QD,QE,QF,QG,QH,QI,QJ,QK,QL,QM,QN,QO,QP,QQ,QR,QS,QT,QU,QV,QW,QX,QY,QZ,X0,X1,X2,X3,X4,X5,X6,X7,X8,X9,Xa,Xb,Xc,Xd,Xe,Xf,Xg,Xh,Xi,Xj,Xk,Xl,Xm,Xn,Xo,Xp,Xq,Xr,Xs,Xt,Xu,Xv,Xw,Xx,Xy,Xz,XA,XB,reduceIte,reduceCtorEq,XC,XD,XE,XF,XG,XH,XI,XJ,XK,XL,XM,XN,XO,XP,XQ,XR,XS,XT,XU,XV,XW,XX,XY,XZ,Y0,Try.q3,Try.q4,Try.q23,Try.q27,Try.q29,Try.underlying37,Try.q37,Try.underlying64,Try.q64,Try.underlying66,Try.q66]
          refine ⟨bi, ?_⟩
          refine acalls_then (k2 _) ?_
          simp -implicitDefEqProofs only [ga,gb,hlook,Q0,Q1,Q2,Q3,Q4,Q5,Q6,Q7,Q8,Q9,Qa,Qb,Qc,Qd,Qe,Qf,Qg,Qh,Qi,Qj,Qk,Ql,Qm,Qn,Qo,Qp,Qq,Qr,Qs,Qt,Qu,Qv,Qw,Qx,Qy,Qz,QA,QB,QC,QD,QE,QF,QG,QH,QI,QJ,QK,QL,QM,QN,QO,QP,QQ,QR,QS,QT,QU,QV,QW,QX,QY,QZ,X0,X1,X2,X3,X4,X5,X6,X7,X8,X9,Xa,Xb,Xc,Xd,Xe,Xf,Xg,Xh,Xi,Xj,Xk,Xl,Xm,Xn,Xo,Xp,Xq,Xr,Xs,Xt,Xu,Xv,Xw,Xx,Xy,Xz,XA,XB,reduceIte,reduceCtorEq,XC,XD,XE,XF,XG,XH,XI,XJ,XK,XL,XM,XN,XO,XP,XQ,XR,XS,XT,XU,XV,XW,XX,XY,XZ,Y0,Try.q3,Try.q4,Try.q23,Try.q27,Try.q29,Try.underlying37,Try.q37,Try.underlying64,Try.q64,Try.underlying66,Try.q66]
          refine ⟨kk0, kk1, ?_⟩
          refine ACalls.mono (k3 _ (ga _)) ?_
          rintro r s4 ⟨rfl, hs4⟩
          have : s4 = s := by rw [hs4, hs]
          subst this
          clear hs hs4
          simp -implicitDefEqProofs only [Q0,Q1,Q2,Q3,Q4,Q5,Q6,Q7,Q8,Q9,Qa,Qb,Qc,Qd,Qe,Qf,Qg,Qh,Qi,Qj,Qk,Ql,Qm,Qn,Qo,Qp,Qq,Qr,Qs,Qt,Qu,Qv,Qw,Qx,Qy,Qz,QA,QB,QC,QD,QE,QF,QG,QH,QI,QJ,QK,QL,QM,QN,QO,QP,QQ,QR,QS,QT,QU,QV,QW,QX,QY,QZ,X0,X1,X2,X3,X4,X5,X6,X7,X8,X9,Xa,Xb,Xc,Xd,Xe,Xf,Xg,Xh,Xi,Xj,Xk,Xl,Xm,Xn,Xo,Xp,Xq,Xr,Xs,Xt,Xu,Xv,Xw,Xx,Xy,Xz,XA,XB,reduceIte,reduceCtorEq,XC,XD,XE,XF,XG,XH,XI,XJ,XK,XL,XM,XN,XO,XP,XQ,XR,XS,XT,XU,XV,XW,XX,XY,XZ,Y0,Try.q3,Try.q4,Try.q23,Try.q27,Try.q29,Try.underlying37,Try.q37,Try.underlying64,Try.q64,Try.underlying66,Try.q66]
          refine awp_draws [15, 17, 18, 20, 100003, 100008, 100012] Try.mixed (by kernel_rfl) ?_
          simp -implicitDefEqProofs only [hG,hJ,lm2,w2,x1,x2,x3,hgj,hsj,y1,y2,y3,Q0,Q1,Q2,Q3,Q4,Q5,Q6,Q7,Q8,Q9,Qa,Qb,Qc,Qd,Qe,Qf,Qg,Qh,Qi,Qj,Qk,Ql,Qm,Qn,Qo,Qp,Qq,Qr,Qs,Qt,Qu,Qv,Qw,Qx,Qy,Qz,QA,QB,QC,QD,QE,QF,QG,QH,QI,QJ,QK,QL,QM,QN,QO,QP,QQ,QR,QS,QT,QU,QV,QW,QX,QY,QZ,X0,X1,X2,X3,X4,X5,X6,X7,X8,X9,Xa,Xb,Xc,Xd,Xe,Xf,Xg,Xh,Xi,Xj,Xk,Xl,Xm,Xn,Xo,Xp,Xq,Xr,Xs,Xt,Xu,Xv,Xw,Xx,Xy,Xz,XA,XB,reduceIte,reduceCtorEq,XC,XD,XE,XF,XG,XH,XI,XJ,XK,XL,XM,XN,XO,XP,XQ,XR,XS,XT,XU,XV,XW,XX,XY,XZ,Y0,Try.q3,Try.q4,Try.q23,Try.q27,Try.q29,Try.underlying37,Try.q37,Try.underlying64,Try.q64,Try.underlying66,Try.q66]
          exact ⟨kk0, kk1, kk2, kk3⟩
        · have d1 : decide (code = 0) = false := decide_eq_false hc0
          rw [if_pos (by simpa using hc0)]
          have hes := ne1 hc0
          subst hes
          refine ⟨_, ldx (.box [.int .i64 day, .int .i64 e.to, .int .i64 e.fr, .int .i64 e.cur, .int .i64 e.amt, .int .i64 idx]), frx _, ?_⟩
          refine acalls_of_vc (fn := Try.f19) Try.call19 Try.func19 rfl (by kernel_rfl) (by simp [Try.ntmps19]) ?_; simp -implicitDefEqProofs only [Try.ntmps19,Try.results19,Q0,Q1,Q2,Q3,Q4,Q5,Q6,Q7,Q8,Q9,Qa,Qb,Qc,Qd,Qe,Qf,Qg,Qh,Qi,Qj,Qk,Ql,Qm,Qn,Qo,Qp,Qq,Qr,Qs,Qt,Qu,Qv,Qw,Qx,Qy,Qz,QA,QB,QC,QD,QE,QF,QG,QH,QI,QJ,QK,QL,QM,QN,QO,QP,QQ,QR,QS,QT,QU,QV,QW,QX,QY,QZ,X0,X1,X2,X3,X4,X5,X6,X7,X8,X9,Xa,Xb,Xc,Xd,Xe,Xf,Xg,Xh,Xi,Xj,Xk,Xl,Xm,Xn,Xo,Xp,Xq,Xr,Xs,Xt,Xu,Xv,Xw,Xx,Xy,Xz,XA,XB,reduceIte,reduceCtorEq,XC,XD,XE,XF,XG,XH,XI,XJ,XK,XL,XM,XN,XO,XP,XQ,XR,XS,XT,XU,XV,XW,XX,XY,XZ,Y0,Try.q3,Try.q4,Try.q23,Try.q27,Try.q29,Try.underlying37,Try.q37,Try.underlying64,Try.q64,Try.underlying66,Try.q66]
          simp -implicitDefEqProofs only [g1,lm,w1,Q0,Q1,Q2,Q3,Q4,Q5,Q6,Q7,Q8,Q9,Qa,Qb,Qc,Qd,Qe,Qf,Qg,Qh,Qi,Qj,Qk,Ql,Qm,Qn,Qo,Qp,Qq,Qr,Qs,Qt,Qu,Qv,Qw,Qx,Qy,Qz,QA,QB,QC,QD,QE,QF,QG,QH,QI,QJ,QK,QL,QM,QN,QO,QP,QQ,QR,QS,QT,QU,QV,QW,QX,QY,QZ,X0,X1,X2,X3,X4,X5,X6,X7,X8,X9,Xa,Xb,Xc,Xd,Xe,Xf,Xg,Xh,Xi,Xj,Xk,Xl,Xm,Xn,Xo,Xp,Xq,Xr,Xs,Xt,Xu,Xv,Xw,Xx,Xy,Xz,XA,XB,reduceIte,reduceCtorEq,XC,XD,XE,XF,XG,XH,XI,XJ,XK,XL,XM,XN,XO,XP,XQ,XR,XS,XT,XU,XV,XW,XX,XY,XZ,Y0,Try.q3,Try.q4,Try.q23,Try.q27,Try.q29,Try.underlying37,Try.q37,Try.underlying64,Try.q64,Try.underlying66,Try.q66]
          refine acalls_then (k1 _) ?_
          simp -implicitDefEqProofs only [g1,lm,hrow2,Q0,Q1,Q2,Q3,Q4,Q5,Q6,Q7,Q8,Q9,Qa,Qb,Qc,Qd,Qe,Qf,Qg,Qh,Qi,Qj,Qk,Ql,Qm,Qn,Qo,Qp,Qq,Qr,Qs,Qt,Qu,Qv,Qw,Qx,Qy,Qz,QA,QB,QC,QD,QE,QF,QG,QH,QI,QJ,QK,QL,QM,QN,QO,QP,QQ,QR,QS,QT,QU,QV,QW,QX,QY,QZ,X0,X1,X2,X3,X4,X5,X6,X7,X8,X9,Xa,Xb,Xc,Xd,Xe,Xf,Xg,Xh,Xi,Xj,Xk,Xl,Xm,Xn,Xo,Xp,Xq,Xr,Xs,Xt,Xu,Xv,Xw,Xx,Xy,Xz,XA,XB,reduceIte,reduceCtorEq,XC,XD,XE,XF,XG,XH,XI,XJ,XK,XL,XM,XN,XO,XP,XQ,XR,XS,XT,XU,XV,XW,XX,XY,XZ,Y0,Try.q3,Try.q4,Try.q23,Try.q27,Try.q29,Try.underlying37,Try.q37,Try.underlying64,Try.q64,Try.underlying66,Try.q66]
          refine ⟨bi, ?_⟩
          refine acalls_then (k2 _) ?_
          simp -implicitDefEqProofs only [ga,gb,hlook,Q0,Q1,Q2,Q3,Q4,Q5,Q6,Q7,Q8,Q9,Qa,Qb,Qc,Qd,Qe,Qf,Qg,Qh,Qi,Qj,Qk,Ql,Qm,Qn,Qo,Qp,Qq,Qr,Qs,Qt,Qu,Qv,Qw,Qx,Qy,Qz,QA,QB,QC,QD,QE,QF,QG,QH,QI,QJ,QK,QL,QM,QN,QO,QP,QQ,QR,QS,QT,QU,QV,QW,QX,QY,QZ,X0,X1,X2,X3,X4,X5,X6,X7,X8,X9,Xa,Xb,Xc,Xd,Xe,Xf,Xg,Xh,Xi,Xj,Xk,Xl,Xm,Xn,Xo,Xp,Xq,Xr,Xs,Xt,Xu,Xv,Xw,Xx,Xy,Xz,XA,XB,reduceIte,reduceCtorEq,XC,XD,XE,XF,XG,XH,XI,XJ,XK,XL,XM,XN,XO,XP,XQ,XR,XS,XT,XU,XV,XW,XX,XY,XZ,Y0,Try.q3,Try.q4,Try.q23,Try.q27,Try.q29,Try.underlying37,Try.q37,Try.underlying64,Try.q64,Try.underlying66,Try.q66]
          refine ⟨ik_ok okx, fun p hp => ik_ok (hk.ks p hp), ?_⟩
          refine ACalls.mono (k3 _ (ga _)) ?_
          rintro r s ⟨rfl, rfl⟩
          simp -implicitDefEqProofs only [d1,Q0,Q1,Q2,Q3,Q4,Q5,Q6,Q7,Q8,Q9,Qa,Qb,Qc,Qd,Qe,Qf,Qg,Qh,Qi,Qj,Qk,Ql,Qm,Qn,Qo,Qp,Qq,Qr,Qs,Qt,Qu,Qv,Qw,Qx,Qy,Qz,QA,QB,QC,QD,QE,QF,QG,QH,QI,QJ,QK,QL,QM,QN,QO,QP,QQ,QR,QS,QT,QU,QV,QW,QX,QY,QZ,X0,X1,X2,X3,X4,X5,X6,X7,X8,X9,Xa,Xb,Xc,Xd,Xe,Xf,Xg,Xh,Xi,Xj,Xk,Xl,Xm,Xn,Xo,Xp,Xq,Xr,Xs,Xt,Xu,Xv,Xw,Xx,Xy,Xz,XA,XB,reduceIte,reduceCtorEq,XC,XD,XE,XF,XG,XH,XI,XJ,XK,XL,XM,XN,XO,XP,XQ,XR,XS,XT,XU,XV,XW,XX,XY,XZ,Y0,Try.q3,Try.q4,Try.q23,Try.q27,Try.q29,Try.underlying37,Try.q37,Try.underlying64,Try.q64,Try.underlying66,Try.q66]
          exact set_same (ga _)

theorem c_Void (es : List Ent) (dn : List Int) (hl : es.length ≤ 16384) (hV : ∀ x ∈ es, Val x) (idx day : Int) (hidx : Okk .i64 idx) (σ : Store) (id j : Nat) (h0 : Led σ id j es dn) :
    ACalls Try.prog 19 [.ptr id 0, .int .i64 idx, .int .i64 day] σ (fun r s => r = .int .i64 (voidR es dn idx day).1 ∧ Led s id j (voidR es dn idx day).2.1 (voidR es dn idx day).2.2 ∧ Fr σ s id j) := by
  obtain ⟨s2, h1, h2, h3⟩ := c_VoidD es dn hl hV idx day hidx σ id j h0
  refine h3.mono ?_
  rintro r s ⟨rfl, rfl⟩
  exact ⟨rfl, h1, h2⟩

end Go.Proofs
