/-
  The ledger and the reference's, side by side: an operation on both; contract.
-/
import Derived.Test.YtdioiegkpkjmkaaMc
namespace Go.Proofs
open Go.Pa
open Go.Pa renaming VB0 → Q0, VB1 → Q1, VB2 → Q2, VB3 → Q3, VB4 → Q4, VB5 → Q5, VB6 → Q6, VB7 → Q7, VB8 → Q8, VB9 → Q9, condV_bool → Qa, guardV_bool → Qb, vcS → Qc, evA → Qd, evBin → Qe, nilA → Qf, nilOf → Qg, intOp → Qh, strOp → Qi, evUn → Qj, evConv → Qk, evField → Ql, evFieldAddr → Qm, evIndexAddr → Qn, evIndex → Qo, evIndexA → Qp, bnd → Qq, evSlice → Qr, evLen → Qs, evPick → Qt, evExtract → Qu, evNilCheck → Qv, evMin → Qw, evMax → Qx, evLoadI → Qy, partsOne → QA, intsOf → QB, rowsAV → QC, evBuildSlice → QD, evBuild → QE, fillA → QF, splice → QG, evBuiltin → QH, guardD_bool → QI, dOp → QJ, cl → QK, vcLoad → QL, vcStore → QM, vcMake → QN, convA → QO, evIndexArr → QP, retA → QQ, ressA → QR, resA → QS, envOf → QT, condR_bool → QX, asgEnv → QY, parEnv → QZ, dstAt → XI, vcLook → XT, vcPut → XU, vcEnt → XV, vcESt → XW, vcMLen → XX, vcDel → XY, vcClear → XZ, vcLookD → Y0
open Go.Pa.AV renaming cell → Qz
open Go.Pa.Env renaming put → QU
open List renaming set_cons_zero → QV, set_cons_succ → QW, foldl_cons → X0, foldl_nil → X1, map_cons → X2, map_nil → X3, toList_toArray → X4, getElem?_cons_zero → X5, getElem?_cons_succ → X6, nil_append → Xa, append_nil → Xb, cons_append → Xc, singleton_append → Xd, length_cons → Xe, length_nil → Xf, all_cons → Xg, all_nil → Xh, take_succ_cons → Xi, take_zero → Xj, take_nil → Xk, drop_zero → Xl, drop_succ_cons → Xm, drop_nil → Xn, contains_nil → Xo, contains_cons → Xp
open Option renaming bind_some → X7, map_some → X8, map_none → X9
open Bool renaming or_false → Xq, false_or → Xr, or_true → Xs, true_or → Xt, false_eq_true → XC, not_true → XD, not_false → XE, and_true → XF, true_and → XG, and_self → XH
open Nat renaming reduceEqDiff → Xu, reduceAdd → Xv, reduceSub → Xw, reduceMul → Xx, reduceLT → Xy, reduceLeDiff → Xz, reduceBNe → XA, reduceBEq → XB, zero_add → XL, add_zero → XM
open UInt8 renaming reduceToNat → XJ
open Int renaming cast_ofNat_Int → XK, reduceToNat → XN, reduceLT → XO, reduceLE → XP, reduceNeg → XQ, reduceEq → XR, reduceNe → XS
set_option linter.unusedSimpArgs false
set_option linter.unusedVariables false
set_option maxRecDepth 20000
set_option maxHeartbeats 4000000

/-- What is neither ledger's own stays. -/
def Fr4 (σ s : Store) (id j m d : Nat) : Prop := σ.length ≤ s.length ∧ ∀ k x, σ[k]? = some x → k ≠ id → k ≠ j → k ≠ m → k ≠ d → s[k]? = some x

/-- Both ledgers hold the same. -/
structure Two (s : Store) (id j m d : Nat) (D : AV) (es : List Ent) (dn : List Int) : Prop where
  led : Led s id j es dn
  rl : RL s m d D es dn
  a : id ≠ m
  b : j ≠ m
  c : id ≠ d
  e : j ≠ d

theorem Two.ext {σ s : Store} {id j m d : Nat} {D : AV} {es : List Ent} {dn : List Int} (h : Two σ id j m d D es dn) (hx : Ext σ s) : Two s id j m d D es dn := ⟨h.led.ext hx, h.rl.ext hx, h.a, h.b, h.c, h.e⟩

theorem Led.lt {s : Store} {id j : Nat} {es : List Ent} {dn : List Int} (h : Led s id j es dn) : id < s.length ∧ j < s.length := by
  obtain ⟨h1, l, c, h2, _⟩ := h
  exact ⟨(List.getElem?_eq_some_iff.1 h1).1, (List.getElem?_eq_some_iff.1 h2).1⟩

/-- What an operation makes of both. -/
noncomputable def opR (es : List Ent) (dn : List Int) (o : Opn) : List Ent × List Int := if o.es = [] then (voidR es dn o.ix o.dy).2 else ((postR es o.es).2, dn)

theorem dn_len (es : List Ent) (dn : List Int) (o : Opn) : (opR es dn o).2.length ≤ dn.length + 2 := by
  unfold opR
  split
  · rcases voidR_cases es dn o.ix o.dy with h | ⟨_, _, _, _, _, _, h⟩
    · rw [h]; simp
    · rw [h]; simp
  · simp

theorem c_PostD (es e : List Ent) (dn : List Int) (hl : es.length ≤ 16384) (he : e.length ≤ 1000) (hV : ∀ x ∈ es, Val x) (σ : Store) (id j : Nat) (h0 : Led σ id j es dn) :
    ∃ s2, Led s2 id j (postR es e).2 dn ∧ Fr σ s2 id j ∧ s2.length = σ.length ∧ ACalls Try.prog 12 [.ptr id 0, esV e] σ (fun r s => r = .int .i64 (postR es e).1 ∧ s = s2) := by
  have hne := h0.ne
  obtain ⟨g1, l, c, g2, g3⟩ := h0
  refine ⟨_, ⟨List.getElem?_set_self (List.getElem?_eq_some_iff.1 g1).1, l, c, by rw [List.getElem?_set_ne hne]; exact g2, g3⟩, ⟨by simp, fun k x hk h1 h2 => by rw [List.getElem?_set_ne (Ne.symm h1)]; exact hk⟩, by simp, c_Post es e hl he hV σ id j g1⟩

theorem r_do (es : List Ent) (dn : List Int) (hl : es.length ≤ 16384) (hV : ∀ x ∈ es, Val x) (hdl : dn.length ≤ 100000) (o : Opn) (ho : o.es.length ≤ 1000) (hix : Okk .i64 o.ix) (σ : Store) (id j m d : Nat) (D : AV) (h0 : Two σ id j m d D es dn) :
    ∃ s2 d2 D2, Two s2 id j m d2 D2 (opR es dn o).1 (opR es dn o).2 ∧ Fr4 σ s2 id j m d ∧ (d2 = d ∨ σ.length ≤ d2) ∧ ACalls Try.prog 21 [.ptr id 0, .ptr m 0, .agg (opA o)] σ (fun r s => r = .bool true ∧ s = s2) := by
  obtain ⟨s1, hs1⟩ : ∃ s1, s1 = killS (σ ++ [AObj.box (opA o)]) σ.length (σ.length + 1) := ⟨_, rfl⟩
  have hx1 : Ext σ s1 := by rw [hs1]; exact killS_ext (Ext.app _ _) (by omega) (by simp) (by omega)
  have hl1 : s1.length = σ.length + 1 := by rw [hs1, killS_len (by omega) (by simp)]; simp
  have h1 := h0.ext hx1
  have lme : (o.es.map entA).length = o.es.length := List.length_map _
  have hidl := h1.led.lt
  have hit : ∀ code : Int, decide (code = code) = true := fun _ => decide_eq_true rfl
  by_cases he : o.es = []
  · have hop : opR es dn o = (voidR es dn o.ix o.dy).2 := by unfold opR; rw [if_pos he]
    rw [hop]
    obtain ⟨s2, hL2, hF2, kv⟩ := c_VoidD es dn hl hV o.ix o.dy hix s1 id j h1.led
    obtain ⟨s3, d2, D2, hR3, hF3, hd2, kr⟩ := rr_VoidD es dn hl hV hdl o.ix o.dy hix s2 m d D (h1.rl.keep hF2 h1.a.symm h1.b.symm h1.c.symm h1.e.symm)
    have hs12 : s1.length ≤ s2.length := hF2.1
    have hL3 := hL2.keep hF3 h1.a h1.c h1.b h1.e
    refine ⟨s3, d2, D2, ⟨hL3, hR3, h1.a, h1.b, ?_, ?_⟩, ⟨by have := hF3.1; omega, fun k x hk q1 q2 q3 q4 => hF3.2 _ _ (hF2.2 _ _ (hx1 _ _ hk) q1 q2) q3 q4⟩, ?_, ?_⟩
    · rcases hd2 with rfl | hd2
      · exact h1.c
      · omega
    · rcases hd2 with rfl | hd2
      · exact h1.e
      · omega
    · rcases hd2 with h | h
      · exact .inl h
      · exact .inr (by omega)
    have d1 : decide ((o.es.length : Int) = 0) = true := decide_eq_true (by rw [he]; rfl)
    generalize (voidR es dn o.ix o.dy).1 = code at *
    have hic := hit code
    refine acalls_of_awp (fn := Try.f21) Try.call21 Try.func21 rfl (by simp [Try.ntmps21]) ?_
    simp only [Try.ntmps21, Try.results21]
    refine awp_seq (awp_vc (by kernel_rfl) ?_)
    simp -implicitDefEqProofs only [seqA_normal,seqA_ret,seqA_exit,Q0,Q1,Q2,Q3,Q4,Q5,Q6,Q7,Q8,Q9,Qa,Qb,Qc,Qd,Qe,Qf,Qg,Qh,Qi,Qj,Qk,Ql,Qm,Qn,Qo,Qp,Qq,Qr,Qs,Qt,Qu,Qv,Qw,Qx,Qy,Qz,QA,QB,QC,QD,QE,QF,QG,QH,QI,QJ,QK,QL,QM,QN,QO,QP,QQ,QR,QS,QT,QU,QV,QW,QX,QY,QZ,X0,X1,X2,X3,X4,X5,X6,X7,X8,X9,Xa,Xb,Xc,Xd,Xe,Xf,Xg,Xh,Xi,Xj,Xk,Xl,Xm,Xn,Xo,Xp,Xq,Xr,Xs,Xt,Xu,Xv,Xw,Xx,Xy,Xz,XA,XB,reduceIte,reduceCtorEq,XC,XD,XE,XF,XG,XH,XI,XJ,XK,XL,XM,XN,XO,XP,XQ,XR,XS,XT,XU,XV,XW,XX,XY,XZ,Y0,Try.q3,Try.q4,Try.q23,Try.q27,Try.q29,Try.q31,Try.underlying33,Try.q33,Try.underlying36,Try.q36,Try.underlying37,Try.q37,Try.q48]
    refine awp_kill σ.length (σ.length + 1) (by omega) (by simp) [(5, .iptr (opA o)), (0, .ptr id 0), (1, .ptr m 0)] ⟨⟨_, rfl, Sh.boxAll (by simp [opA]) ⟨by omega, by omega⟩⟩, ⟨_, rfl, .same _⟩, ⟨_, rfl, .same _⟩, trivial⟩ ?_
    rw [← hs1]
    unfold opA
    refine awp_vc (by kernel_rfl) ?_
    simp -implicitDefEqProofs only [lme,d1,Q0,Q1,Q2,Q3,Q4,Q5,Q6,Q7,Q8,Q9,Qa,Qb,Qc,Qd,Qe,Qf,Qg,Qh,Qi,Qj,Qk,Ql,Qm,Qn,Qo,Qp,Qq,Qr,Qs,Qt,Qu,Qv,Qw,Qx,Qy,Qz,QA,QB,QC,QD,QE,QF,QG,QH,QI,QJ,QK,QL,QM,QN,QO,QP,QQ,QR,QS,QT,QU,QV,QW,QX,QY,QZ,X0,X1,X2,X3,X4,X5,X6,X7,X8,X9,Xa,Xb,Xc,Xd,Xe,Xf,Xg,Xh,Xi,Xj,Xk,Xl,Xm,Xn,Xo,Xp,Xq,Xr,Xs,Xt,Xu,Xv,Xw,Xx,Xy,Xz,XA,XB,reduceIte,reduceCtorEq,XC,XD,XE,XF,XG,XH,XI,XJ,XK,XL,XM,XN,XO,XP,XQ,XR,XS,XT,XU,XV,XW,XX,XY,XZ,Y0,Try.q3,Try.q4,Try.q23,Try.q27,Try.q29,Try.q31,Try.underlying33,Try.q33,Try.underlying36,Try.q36,Try.underlying37,Try.q37,Try.q48]
    refine awp_draws [5, 11, 200002, 200004, 200008, 200010] Try.mixed (by kernel_rfl) ?_
    simp -implicitDefEqProofs only [Q0,Q1,Q2,Q3,Q4,Q5,Q6,Q7,Q8,Q9,Qa,Qb,Qc,Qd,Qe,Qf,Qg,Qh,Qi,Qj,Qk,Ql,Qm,Qn,Qo,Qp,Qq,Qr,Qs,Qt,Qu,Qv,Qw,Qx,Qy,Qz,QA,QB,QC,QD,QE,QF,QG,QH,QI,QJ,QK,QL,QM,QN,QO,QP,QQ,QR,QS,QT,QU,QV,QW,QX,QY,QZ,X0,X1,X2,X3,X4,X5,X6,X7,X8,X9,Xa,Xb,Xc,Xd,Xe,Xf,Xg,Xh,Xi,Xj,Xk,Xl,Xm,Xn,Xo,Xp,Xq,Xr,Xs,Xt,Xu,Xv,Xw,Xx,Xy,Xz,XA,XB,reduceIte,reduceCtorEq,XC,XD,XE,XF,XG,XH,XI,XJ,XK,XL,XM,XN,XO,XP,XQ,XR,XS,XT,XU,XV,XW,XX,XY,XZ,Y0,Try.q3,Try.q4,Try.q23,Try.q27,Try.q29,Try.q31,Try.underlying33,Try.q33,Try.underlying36,Try.q36,Try.underlying37,Try.q37,Try.q48]
    refine dCall_of2 kv ?_
    simp -implicitDefEqProofs only [Q0,Q1,Q2,Q3,Q4,Q5,Q6,Q7,Q8,Q9,Qa,Qb,Qc,Qd,Qe,Qf,Qg,Qh,Qi,Qj,Qk,Ql,Qm,Qn,Qo,Qp,Qq,Qr,Qs,Qt,Qu,Qv,Qw,Qx,Qy,Qz,QA,QB,QC,QD,QE,QF,QG,QH,QI,QJ,QK,QL,QM,QN,QO,QP,QQ,QR,QS,QT,QU,QV,QW,QX,QY,QZ,X0,X1,X2,X3,X4,X5,X6,X7,X8,X9,Xa,Xb,Xc,Xd,Xe,Xf,Xg,Xh,Xi,Xj,Xk,Xl,Xm,Xn,Xo,Xp,Xq,Xr,Xs,Xt,Xu,Xv,Xw,Xx,Xy,Xz,XA,XB,reduceIte,reduceCtorEq,XC,XD,XE,XF,XG,XH,XI,XJ,XK,XL,XM,XN,XO,XP,XQ,XR,XS,XT,XU,XV,XW,XX,XY,XZ,Y0,Try.q3,Try.q4,Try.q23,Try.q27,Try.q29,Try.q31,Try.underlying33,Try.q33,Try.underlying36,Try.q36,Try.underlying37,Try.q37,Try.q48]
    refine dCall_of2 kr ?_
    simp -implicitDefEqProofs only [hic,Q0,Q1,Q2,Q3,Q4,Q5,Q6,Q7,Q8,Q9,Qa,Qb,Qc,Qd,Qe,Qf,Qg,Qh,Qi,Qj,Qk,Ql,Qm,Qn,Qo,Qp,Qq,Qr,Qs,Qt,Qu,Qv,Qw,Qx,Qy,Qz,QA,QB,QC,QD,QE,QF,QG,QH,QI,QJ,QK,QL,QM,QN,QO,QP,QQ,QR,QS,QT,QU,QV,QW,QX,QY,QZ,X0,X1,X2,X3,X4,X5,X6,X7,X8,X9,Xa,Xb,Xc,Xd,Xe,Xf,Xg,Xh,Xi,Xj,Xk,Xl,Xm,Xn,Xo,Xp,Xq,Xr,Xs,Xt,Xu,Xv,Xw,Xx,Xy,Xz,XA,XB,reduceIte,reduceCtorEq,XC,XD,XE,XF,XG,XH,XI,XJ,XK,XL,XM,XN,XO,XP,XQ,XR,XS,XT,XU,XV,XW,XX,XY,XZ,Y0,Try.q3,Try.q4,Try.q23,Try.q27,Try.q29,Try.q31,Try.underlying33,Try.q33,Try.underlying36,Try.q36,Try.underlying37,Try.q37,Try.q48]
  · have hop : opR es dn o = ((postR es o.es).2, dn) := by unfold opR; rw [if_neg he]
    rw [hop]
    have hlen : 0 < o.es.length := by cases ho2 : o.es with
      | nil => exact absurd ho2 he
      | cons _ _ => simp
    have kp := c_PostD es o.es dn hl ho hV s1 id j h1.led
    obtain ⟨s2, hL2, hF2, hl2, kv⟩ := kp
    obtain ⟨s3, hR3, hF3, hl3, kr⟩ := rr_PostL es o.es dn hl ho hV s2 m d D (h1.rl.keep hF2 h1.a.symm h1.b.symm h1.c.symm h1.e.symm)
    have hL3 := hL2.keep hF3 h1.a h1.c h1.b h1.e
    refine ⟨s3, d, D, ⟨hL3, hR3, h1.a, h1.b, h1.c, h1.e⟩, ⟨by omega, fun k x hk q1 q2 q3 q4 => hF3.2 _ _ (hF2.2 _ _ (hx1 _ _ hk) q1 q2) q3 q4⟩, .inl rfl, ?_⟩
    have d1 : decide ((o.es.length : Int) = 0) = false := decide_eq_false (by omega)
    have kq := c_real o.es (by omega)
    generalize (postR es o.es).1 = code at *
    have hic := hit code
    refine acalls_of_awp (fn := Try.f21) Try.call21 Try.func21 rfl (by simp [Try.ntmps21]) ?_
    simp only [Try.ntmps21, Try.results21]
    refine awp_seq (awp_vc (by kernel_rfl) ?_)
    simp -implicitDefEqProofs only [seqA_normal,seqA_ret,seqA_exit,Q0,Q1,Q2,Q3,Q4,Q5,Q6,Q7,Q8,Q9,Qa,Qb,Qc,Qd,Qe,Qf,Qg,Qh,Qi,Qj,Qk,Ql,Qm,Qn,Qo,Qp,Qq,Qr,Qs,Qt,Qu,Qv,Qw,Qx,Qy,Qz,QA,QB,QC,QD,QE,QF,QG,QH,QI,QJ,QK,QL,QM,QN,QO,QP,QQ,QR,QS,QT,QU,QV,QW,QX,QY,QZ,X0,X1,X2,X3,X4,X5,X6,X7,X8,X9,Xa,Xb,Xc,Xd,Xe,Xf,Xg,Xh,Xi,Xj,Xk,Xl,Xm,Xn,Xo,Xp,Xq,Xr,Xs,Xt,Xu,Xv,Xw,Xx,Xy,Xz,XA,XB,reduceIte,reduceCtorEq,XC,XD,XE,XF,XG,XH,XI,XJ,XK,XL,XM,XN,XO,XP,XQ,XR,XS,XT,XU,XV,XW,XX,XY,XZ,Y0,Try.q3,Try.q4,Try.q23,Try.q27,Try.q29,Try.q31,Try.underlying33,Try.q33,Try.underlying36,Try.q36,Try.underlying37,Try.q37,Try.q48]
    refine awp_kill σ.length (σ.length + 1) (by omega) (by simp) [(5, .iptr (opA o)), (0, .ptr id 0), (1, .ptr m 0)] ⟨⟨_, rfl, Sh.boxAll (by simp [opA]) ⟨by omega, by omega⟩⟩, ⟨_, rfl, .same _⟩, ⟨_, rfl, .same _⟩, trivial⟩ ?_
    rw [← hs1]
    unfold opA
    refine awp_vc (by kernel_rfl) ?_
    simp -implicitDefEqProofs only [lme,d1,Q0,Q1,Q2,Q3,Q4,Q5,Q6,Q7,Q8,Q9,Qa,Qb,Qc,Qd,Qe,Qf,Qg,Qh,Qi,Qj,Qk,Ql,Qm,Qn,Qo,Qp,Qq,Qr,Qs,Qt,Qu,Qv,Qw,Qx,Qy,Qz,QA,QB,QC,QD,QE,QF,QG,QH,QI,QJ,QK,QL,QM,QN,QO,QP,QQ,QR,QS,QT,QU,QV,QW,QX,QY,QZ,X0,X1,X2,X3,X4,X5,X6,X7,X8,X9,Xa,Xb,Xc,Xd,Xe,Xf,Xg,Xh,Xi,Xj,Xk,Xl,Xm,Xn,Xo,Xp,Xq,Xr,Xs,Xt,Xu,Xv,Xw,Xx,Xy,Xz,XA,XB,reduceIte,reduceCtorEq,XC,XD,XE,XF,XG,XH,XI,XJ,XK,XL,XM,XN,XO,XP,XQ,XR,XS,XT,XU,XV,XW,XX,XY,XZ,Y0,Try.q3,Try.q4,Try.q23,Try.q27,Try.q29,Try.q31,Try.underlying33,Try.q33,Try.underlying36,Try.q36,Try.underlying37,Try.q37,Try.q48]
    refine awp_draws [4, 8, 200002, 200003, 200007] Try.mixed (by kernel_rfl) ?_
    simp -implicitDefEqProofs only [Q0,Q1,Q2,Q3,Q4,Q5,Q6,Q7,Q8,Q9,Qa,Qb,Qc,Qd,Qe,Qf,Qg,Qh,Qi,Qj,Qk,Ql,Qm,Qn,Qo,Qp,Qq,Qr,Qs,Qt,Qu,Qv,Qw,Qx,Qy,Qz,QA,QB,QC,QD,QE,QF,QG,QH,QI,QJ,QK,QL,QM,QN,QO,QP,QQ,QR,QS,QT,QU,QV,QW,QX,QY,QZ,X0,X1,X2,X3,X4,X5,X6,X7,X8,X9,Xa,Xb,Xc,Xd,Xe,Xf,Xg,Xh,Xi,Xj,Xk,Xl,Xm,Xn,Xo,Xp,Xq,Xr,Xs,Xt,Xu,Xv,Xw,Xx,Xy,Xz,XA,XB,reduceIte,reduceCtorEq,XC,XD,XE,XF,XG,XH,XI,XJ,XK,XL,XM,XN,XO,XP,XQ,XR,XS,XT,XU,XV,XW,XX,XY,XZ,Y0,Try.q3,Try.q4,Try.q23,Try.q27,Try.q29,Try.q31,Try.underlying33,Try.q33,Try.underlying36,Try.q36,Try.underlying37,Try.q37,Try.q48]
    refine dCall_of0 (kq) ?_
    simp -implicitDefEqProofs only [Q0,Q1,Q2,Q3,Q4,Q5,Q6,Q7,Q8,Q9,Qa,Qb,Qc,Qd,Qe,Qf,Qg,Qh,Qi,Qj,Qk,Ql,Qm,Qn,Qo,Qp,Qq,Qr,Qs,Qt,Qu,Qv,Qw,Qx,Qy,Qz,QA,QB,QC,QD,QE,QF,QG,QH,QI,QJ,QK,QL,QM,QN,QO,QP,QQ,QR,QS,QT,QU,QV,QW,QX,QY,QZ,X0,X1,X2,X3,X4,X5,X6,X7,X8,X9,Xa,Xb,Xc,Xd,Xe,Xf,Xg,Xh,Xi,Xj,Xk,Xl,Xm,Xn,Xo,Xp,Xq,Xr,Xs,Xt,Xu,Xv,Xw,Xx,Xy,Xz,XA,XB,reduceIte,reduceCtorEq,XC,XD,XE,XF,XG,XH,XI,XJ,XK,XL,XM,XN,XO,XP,XQ,XR,XS,XT,XU,XV,XW,XX,XY,XZ,Y0,Try.q3,Try.q4,Try.q23,Try.q27,Try.q29,Try.q31,Try.underlying33,Try.q33,Try.underlying36,Try.q36,Try.underlying37,Try.q37,Try.q48]
    refine dCall_of2 kv ?_
    simp -implicitDefEqProofs only [Q0,Q1,Q2,Q3,Q4,Q5,Q6,Q7,Q8,Q9,Qa,Qb,Qc,Qd,Qe,Qf,Qg,Qh,Qi,Qj,Qk,Ql,Qm,Qn,Qo,Qp,Qq,Qr,Qs,Qt,Qu,Qv,Qw,Qx,Qy,Qz,QA,QB,QC,QD,QE,QF,QG,QH,QI,QJ,QK,QL,QM,QN,QO,QP,QQ,QR,QS,QT,QU,QV,QW,QX,QY,QZ,X0,X1,X2,X3,X4,X5,X6,X7,X8,X9,Xa,Xb,Xc,Xd,Xe,Xf,Xg,Xh,Xi,Xj,Xk,Xl,Xm,Xn,Xo,Xp,Xq,Xr,Xs,Xt,Xu,Xv,Xw,Xx,Xy,Xz,XA,XB,reduceIte,reduceCtorEq,XC,XD,XE,XF,XG,XH,XI,XJ,XK,XL,XM,XN,XO,XP,XQ,XR,XS,XT,XU,XV,XW,XX,XY,XZ,Y0,Try.q3,Try.q4,Try.q23,Try.q27,Try.q29,Try.q31,Try.underlying33,Try.q33,Try.underlying36,Try.q36,Try.underlying37,Try.q37,Try.q48]
    refine dCall_of2 kr ?_
    simp -implicitDefEqProofs only [hic,Q0,Q1,Q2,Q3,Q4,Q5,Q6,Q7,Q8,Q9,Qa,Qb,Qc,Qd,Qe,Qf,Qg,Qh,Qi,Qj,Qk,Ql,Qm,Qn,Qo,Qp,Qq,Qr,Qs,Qt,Qu,Qv,Qw,Qx,Qy,Qz,QA,QB,QC,QD,QE,QF,QG,QH,QI,QJ,QK,QL,QM,QN,QO,QP,QQ,QR,QS,QT,QU,QV,QW,QX,QY,QZ,X0,X1,X2,X3,X4,X5,X6,X7,X8,X9,Xa,Xb,Xc,Xd,Xe,Xf,Xg,Xh,Xi,Xj,Xk,Xl,Xm,Xn,Xo,Xp,Xq,Xr,Xs,Xt,Xu,Xv,Xw,Xx,Xy,Xz,XA,XB,reduceIte,reduceCtorEq,XC,XD,XE,XF,XG,XH,XI,XJ,XK,XL,XM,XN,XO,XP,XQ,XR,XS,XT,XU,XV,XW,XX,XY,XZ,Y0,Try.q3,Try.q4,Try.q23,Try.q27,Try.q29,Try.q31,Try.underlying33,Try.q33,Try.underlying36,Try.q36,Try.underlying37,Try.q37,Try.q48]

end Go.Proofs
