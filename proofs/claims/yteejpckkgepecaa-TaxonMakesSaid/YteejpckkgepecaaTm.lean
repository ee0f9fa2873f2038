/-
  Taxonomies: the order of inheritance; the law.
-/
import Derived.Test.YteejpckkgepecaaTl
namespace Go.Proofs
open Go.Pa
open Go.Pa renaming VB0 → Q0, VB1 → Q1, VB2 → Q2, VB3 → Q3, VB4 → Q4, VB5 → Q5, VB6 → Q6, VB7 → Q7, condV_bool → Q8, guardV_bool → Q9, vcS → Qa, evA → Qb, evBin → Qc, nilA → Qd, nilOf → Qe, intOp → Qf, strOp → Qg, evUn → Qh, evConv → Qi, evField → Qj, evFieldAddr → Qk, evIndexAddr → Ql, evIndex → Qm, evIndexA → Qn, bnd → Qo, evSlice → Qp, evLen → Qq, evPick → Qr, evExtract → Qs, evNilCheck → Qt, evMin → Qu, evMax → Qv, evLoadI → Qw, partsOne → Qy, intsOf → Qz, rowsAV → QA, evBuildSlice → QB, evBuild → QC, fillA → QD, splice → QE, evBuiltin → QF, guardD_bool → QG, dOp → QH, cl → QI, vcLoad → QJ, vcStore → QK, vcMake → QL, convA → QM, evIndexArr → QN, retA → QO, ressA → QP, resA → QQ, envOf → QR, condR_bool → QV, asgEnv → QW, parEnv → QX, dstAt → XG, vcLook → XR, vcPut → XS, vcEnt → XT, vcESt → XU, vcMLen → XV, vcDel → XW, vcClear → XX, vcLookD → XY
open Go.Pa.AV renaming cell → Qx
open Go.Pa.Env renaming put → QS
open List renaming set_cons_zero → QT, set_cons_succ → QU, foldl_cons → QY, foldl_nil → QZ, map_cons → X0, map_nil → X1, toList_toArray → X2, getElem?_cons_zero → X3, getElem?_cons_succ → X4, nil_append → X8, append_nil → X9, cons_append → Xa, singleton_append → Xb, length_cons → Xc, length_nil → Xd, all_cons → Xe, all_nil → Xf, take_succ_cons → Xg, take_zero → Xh, take_nil → Xi, drop_zero → Xj, drop_succ_cons → Xk, drop_nil → Xl, contains_nil → Xm, contains_cons → Xn
open Option renaming bind_some → X5, map_some → X6, map_none → X7
open Bool renaming or_false → Xo, false_or → Xp, or_true → Xq, true_or → Xr, false_eq_true → XA, not_true → XB, not_false → XC, and_true → XD, true_and → XE, and_self → XF
open Nat renaming reduceEqDiff → Xs, reduceAdd → Xt, reduceSub → Xu, reduceMul → Xv, reduceLT → Xw, reduceLeDiff → Xx, reduceBNe → Xy, reduceBEq → Xz, zero_add → XJ, add_zero → XK
open UInt8 renaming reduceToNat → XH
open Int renaming cast_ofNat_Int → XI, reduceToNat → XL, reduceLT → XM, reduceLE → XN, reduceNeg → XO, reduceEq → XP, reduceNe → XQ
set_option linter.unusedSimpArgs false
set_option linter.unusedVariables false
set_option maxRecDepth 20000
set_option maxHeartbeats 2000000

theorem awp_sub {P : Program} {N : Nat} {c : Code} {K : Exit → Env → Store → Prop} {e : Env} {s : Store} (e' : Env) (he : e'.sub e) (h : AWp P N c K e' s) : AWp P N c K e s :=
  fun G0 G a w hg hr hw => h G0 G a w hg (hr.sub he) hw

theorem isI_some {p : List (List Int)} (hI : InR p) {c d : Nat} (hc : c < p.length) (hd : d < p.length) : (decide ((c : Int) = (d : Int)) || p[c].any fun x => isI p x d) = isI p c d := by
  have hg : p[c] = p.getD c [] := (getD_get hc).symm
  rw [Bool.eq_iff_iff, isI_in hc hd]
  simp only [Bool.or_eq_true, decide_eq_true_iff, List.any_eq_true]
  constructor
  · rintro (h | ⟨x, hx, h⟩)
    · have : c = d := by omega
      subst this; exact .refl _
    · have hb := hI _ (List.getElem_mem hc) x hx
      obtain ⟨X, rfl⟩ : ∃ X : Nat, x = (X : Int) := ⟨x.toNat, by omega⟩
      have hP : Par p c X := by unfold Par; rw [← hg]; exact hx
      exact .step hP ((isI_in (par_lt hI hP).2 hd).1 h)
  · intro h
    rcases rch_cases h with h | ⟨e, h1, h2⟩
    · left; omega
    · exact .inr ⟨e, by have h3 := h1; unfold Par at h3; rw [← hg] at h3; exact h3, (isI_in (par_lt hI h1).2 hd).2 h2⟩

theorem isI_anti {p : List (List Int)} (ha : Acy p) {c d : Nat} (hc : c < p.length) (hd : d < p.length) (hne : ¬ (c : Int) = d) (h : isI p c d = true) : isI p d c = false := by
  cases hk : isI p d c with
  | false => rfl
  | true =>
    have h1 := (isI_in hc hd).1 h
    have h2 := (isI_in hd hc).1 hk
    rcases rch_cases h1 with h3 | h3
    · exact absurd (by omega) hne
    · exact absurd (h3.trans h2) (ha c)

theorem isI_trans {p : List (List Int)} {c d b : Nat} (hc : c < p.length) (hd : d < p.length) (hb : b < p.length) (h : isI p c d = true) (k : isI p d b = true) : isI p c b = true :=
  (isI_in hc hb).2 (((isI_in hc hd).1 h).trans ((isI_in hd hb).1 k))

/-- What the laws know of the taxonomy that the generator makes. -/
theorem gen_tax {l : List Int} (hl : ∀ x ∈ l, Okk .i64 x) {most : Int} (hm : 0 < most) (hm' : most ≤ 64) : ∃ p, p = genI l most ∧ 1 ≤ p.length ∧ (p.length : Int) ≤ most ∧ InR p ∧ (∀ r ∈ p, r.length ≤ p.length) ∧ Acy p ∧
    (∀ σ, ACalls Try.prog 10 [.ints .i64 l, .int .i64 most] σ (fun r s => r = .rows 1 (p.map rowI) ∧ s = σ)) ∧
    (∀ σ, ACalls Try.prog 11 [.rows 1 (p.map rowI)] σ (fun r s => r = .tup [taxA p, .int .i64 0] ∧ s = σ)) := by
  have hs := genI_small hl hm hm'
  have hinr := inr_of (genI_good l most)
  refine ⟨_, rfl, hs.1, by omega, hinr.1, hinr.2, (acyB_iff _).1 (genI_acy l most), fun σ => r_gen l hl most hm hm' σ, fun σ => ?_⟩
  have k := c_New (genI l most) (by omega) (fun r hr => by have := hinr.2 r hr; omega) σ
  rw [genI_new hl hm hm'] at k
  exact k

theorem law_TaxonOrder (l : List Int) (hl : ∀ x ∈ l, Okk .i64 x) (_ : l.length ≤ 9223372036854775807) : ACalls Try.prog 4 [.ints .i64 l] [] (fun r _ => r = .bool true) := by
  obtain ⟨p, -, hp1, hp8, hI, hrl, hA, kG, kN⟩ := gen_tax hl (most := 8) (by decide) (by decide)
  have kI := fun c d σ => c_Is p (by omega) c d σ
  have kL := lives05
  obtain ⟨cs, hcs⟩ : ∃ cs, taxA p = .iptr cs := ⟨_, rfl⟩
  simp only [hcs] at kN kI
  have hml : (p.map rowI).length = p.length := by simp
  have hpl : p.length ≤ 8 := by omega
  refine acalls_of_awp (fn := Try.f4) Try.call4 Try.func4 rfl (by simp [Try.ntmps4]) ?_
  simp only [Try.ntmps4, Try.results4]
  refine awp_seq (awp_vc (by kernel_rfl) ?_)
  simp -implicitDefEqProofs only [seqA_normal,seqA_ret,seqA_exit,Q0,Q1,Q2,Q3,Q4,Q5,Q6,Q7,Q8,Q9,Qa,Qb,Qc,Qd,Qe,Qf,Qg,Qh,Qi,Qj,Qk,Ql,Qm,Qn,Qo,Qp,Qq,Qr,Qs,Qt,Qu,Qv,Qw,Qx,Qy,Qz,QA,QB,QC,QD,QE,QF,QG,QH,QI,QJ,QK,QL,QM,QN,QO,QP,QQ,QR,QS,QT,QU,QV,QW,QX,QY,QZ,X0,X1,X2,X3,X4,X5,X6,X7,X8,X9,Xa,Xb,Xc,Xd,Xe,Xf,Xg,Xh,Xi,Xj,Xk,Xl,Xm,Xn,Xo,Xp,Xq,Xr,Xs,Xt,Xu,Xv,Xw,Xx,Xy,Xz,reduceIte,reduceCtorEq,ite_true,ite_false,if_true,if_false,XA,XB,XC,XD,XE,XF,and_true,true_and,and_self,true_imp_iff,false_imp_iff,eq_self,not_true_eq_false,not_false_eq_true,ne_eq,decide_true,decide_false,XG,XH,XI,XJ,XK,XL,XM,XN,XO,XP,XQ,XR,XS,XT,XU,XV,XW,XX,XY,Try.underlying3,Try.q3,Try.underlying4,Try.q4,Try.underlying22,Try.q22,Try.underlying23,Try.q23,Try.underlying25,Try.q25,Try.underlying26,Try.q26]
  refine awp_seq (awp_vc (by kernel_rfl) ?_)
  simp -implicitDefEqProofs only [Q0,Q1,Q2,Q3,Q4,Q5,Q6,Q7,Q8,Q9,Qa,Qb,Qc,Qd,Qe,Qf,Qg,Qh,Qi,Qj,Qk,Ql,Qm,Qn,Qo,Qp,Qq,Qr,Qs,Qt,Qu,Qv,Qw,Qx,Qy,Qz,QA,QB,QC,QD,QE,QF,QG,QH,QI,QJ,QK,QL,QM,QN,QO,QP,QQ,QR,QS,QT,QU,QV,QW,QX,QY,QZ,X0,X1,X2,X3,X4,X5,X6,X7,X8,X9,Xa,Xb,Xc,Xd,Xe,Xf,Xg,Xh,Xi,Xj,Xk,Xl,Xm,Xn,Xo,Xp,Xq,Xr,Xs,Xt,Xu,Xv,Xw,Xx,Xy,Xz,reduceIte,reduceCtorEq,ite_true,ite_false,if_true,if_false,XA,XB,XC,XD,XE,XF,and_true,true_and,and_self,true_imp_iff,false_imp_iff,eq_self,not_true_eq_false,not_false_eq_true,ne_eq,decide_true,decide_false,XG,XH,XI,XJ,XK,XL,XM,XN,XO,XP,XQ,XR,XS,XT,XU,XV,XW,XX,XY,Try.underlying3,Try.q3,Try.underlying4,Try.q4,Try.underlying22,Try.q22,Try.underlying23,Try.q23,Try.underlying25,Try.q25,Try.underlying26,Try.q26]
  refine acalls_then (kG _) ?_
  simp -implicitDefEqProofs only [seqA_normal,Q0,Q1,Q2,Q3,Q4,Q5,Q6,Q7,Q8,Q9,Qa,Qb,Qc,Qd,Qe,Qf,Qg,Qh,Qi,Qj,Qk,Ql,Qm,Qn,Qo,Qp,Qq,Qr,Qs,Qt,Qu,Qv,Qw,Qx,Qy,Qz,QA,QB,QC,QD,QE,QF,QG,QH,QI,QJ,QK,QL,QM,QN,QO,QP,QQ,QR,QS,QT,QU,QV,QW,QX,QY,QZ,X0,X1,X2,X3,X4,X5,X6,X7,X8,X9,Xa,Xb,Xc,Xd,Xe,Xf,Xg,Xh,Xi,Xj,Xk,Xl,Xm,Xn,Xo,Xp,Xq,Xr,Xs,Xt,Xu,Xv,Xw,Xx,Xy,Xz,reduceIte,reduceCtorEq,ite_true,ite_false,if_true,if_false,XA,XB,XC,XD,XE,XF,and_true,true_and,and_self,true_imp_iff,false_imp_iff,eq_self,not_true_eq_false,not_false_eq_true,ne_eq,decide_true,decide_false,XG,XH,XI,XJ,XK,XL,XM,XN,XO,XP,XQ,XR,XS,XT,XU,XV,XW,XX,XY,Try.underlying3,Try.q3,Try.underlying4,Try.q4,Try.underlying22,Try.q22,Try.underlying23,Try.q23,Try.underlying25,Try.q25,Try.underlying26,Try.q26]
  refine awp_seq (awp_vc (by kernel_rfl) ?_)
  simp -implicitDefEqProofs only [Q0,Q1,Q2,Q3,Q4,Q5,Q6,Q7,Q8,Q9,Qa,Qb,Qc,Qd,Qe,Qf,Qg,Qh,Qi,Qj,Qk,Ql,Qm,Qn,Qo,Qp,Qq,Qr,Qs,Qt,Qu,Qv,Qw,Qx,Qy,Qz,QA,QB,QC,QD,QE,QF,QG,QH,QI,QJ,QK,QL,QM,QN,QO,QP,QQ,QR,QS,QT,QU,QV,QW,QX,QY,QZ,X0,X1,X2,X3,X4,X5,X6,X7,X8,X9,Xa,Xb,Xc,Xd,Xe,Xf,Xg,Xh,Xi,Xj,Xk,Xl,Xm,Xn,Xo,Xp,Xq,Xr,Xs,Xt,Xu,Xv,Xw,Xx,Xy,Xz,reduceIte,reduceCtorEq,ite_true,ite_false,if_true,if_false,XA,XB,XC,XD,XE,XF,and_true,true_and,and_self,true_imp_iff,false_imp_iff,eq_self,not_true_eq_false,not_false_eq_true,ne_eq,decide_true,decide_false,XG,XH,XI,XJ,XK,XL,XM,XN,XO,XP,XQ,XR,XS,XT,XU,XV,XW,XX,XY,Try.underlying3,Try.q3,Try.underlying4,Try.q4,Try.underlying22,Try.q22,Try.underlying23,Try.q23,Try.underlying25,Try.q25,Try.underlying26,Try.q26]
  refine acalls_then (kN _) ?_
  simp -implicitDefEqProofs only [seqA_normal,Q0,Q1,Q2,Q3,Q4,Q5,Q6,Q7,Q8,Q9,Qa,Qb,Qc,Qd,Qe,Qf,Qg,Qh,Qi,Qj,Qk,Ql,Qm,Qn,Qo,Qp,Qq,Qr,Qs,Qt,Qu,Qv,Qw,Qx,Qy,Qz,QA,QB,QC,QD,QE,QF,QG,QH,QI,QJ,QK,QL,QM,QN,QO,QP,QQ,QR,QS,QT,QU,QV,QW,QX,QY,QZ,X0,X1,X2,X3,X4,X5,X6,X7,X8,X9,Xa,Xb,Xc,Xd,Xe,Xf,Xg,Xh,Xi,Xj,Xk,Xl,Xm,Xn,Xo,Xp,Xq,Xr,Xs,Xt,Xu,Xv,Xw,Xx,Xy,Xz,reduceIte,reduceCtorEq,ite_true,ite_false,if_true,if_false,XA,XB,XC,XD,XE,XF,and_true,true_and,and_self,true_imp_iff,false_imp_iff,eq_self,not_true_eq_false,not_false_eq_true,ne_eq,decide_true,decide_false,XG,XH,XI,XJ,XK,XL,XM,XN,XO,XP,XQ,XR,XS,XT,XU,XV,XW,XX,XY,Try.underlying3,Try.q3,Try.underlying4,Try.q4,Try.underlying22,Try.q22,Try.underlying23,Try.q23,Try.underlying25,Try.q25,Try.underlying26,Try.q26]
  refine awp_seq (awp_vc (by kernel_rfl) ?_)
  simp -implicitDefEqProofs only [seqA_normal,seqA_ret,seqA_exit,Q0,Q1,Q2,Q3,Q4,Q5,Q6,Q7,Q8,Q9,Qa,Qb,Qc,Qd,Qe,Qf,Qg,Qh,Qi,Qj,Qk,Ql,Qm,Qn,Qo,Qp,Qq,Qr,Qs,Qt,Qu,Qv,Qw,Qx,Qy,Qz,QA,QB,QC,QD,QE,QF,QG,QH,QI,QJ,QK,QL,QM,QN,QO,QP,QQ,QR,QS,QT,QU,QV,QW,QX,QY,QZ,X0,X1,X2,X3,X4,X5,X6,X7,X8,X9,Xa,Xb,Xc,Xd,Xe,Xf,Xg,Xh,Xi,Xj,Xk,Xl,Xm,Xn,Xo,Xp,Xq,Xr,Xs,Xt,Xu,Xv,Xw,Xx,Xy,Xz,reduceIte,reduceCtorEq,ite_true,ite_false,if_true,if_false,XA,XB,XC,XD,XE,XF,and_true,true_and,and_self,true_imp_iff,false_imp_iff,eq_self,not_true_eq_false,not_false_eq_true,ne_eq,decide_true,decide_false,XG,XH,XI,XJ,XK,XL,XM,XN,XO,XP,XQ,XR,XS,XT,XU,XV,XW,XX,XY,Try.underlying3,Try.q3,Try.underlying4,Try.q4,Try.underlying22,Try.q22,Try.underlying23,Try.q23,Try.underlying25,Try.q25,Try.underlying26,Try.q26]
  refine awp_seq (awp_vc (by kernel_rfl) ?_)
  simp -implicitDefEqProofs only [seqA_normal,seqA_ret,seqA_exit,Q0,Q1,Q2,Q3,Q4,Q5,Q6,Q7,Q8,Q9,Qa,Qb,Qc,Qd,Qe,Qf,Qg,Qh,Qi,Qj,Qk,Ql,Qm,Qn,Qo,Qp,Qq,Qr,Qs,Qt,Qu,Qv,Qw,Qx,Qy,Qz,QA,QB,QC,QD,QE,QF,QG,QH,QI,QJ,QK,QL,QM,QN,QO,QP,QQ,QR,QS,QT,QU,QV,QW,QX,QY,QZ,X0,X1,X2,X3,X4,X5,X6,X7,X8,X9,Xa,Xb,Xc,Xd,Xe,Xf,Xg,Xh,Xi,Xj,Xk,Xl,Xm,Xn,Xo,Xp,Xq,Xr,Xs,Xt,Xu,Xv,Xw,Xx,Xy,Xz,reduceIte,reduceCtorEq,ite_true,ite_false,if_true,if_false,XA,XB,XC,XD,XE,XF,and_true,true_and,and_self,true_imp_iff,false_imp_iff,eq_self,not_true_eq_false,not_false_eq_true,ne_eq,decide_true,decide_false,XG,XH,XI,XJ,XK,XL,XM,XN,XO,XP,XQ,XR,XS,XT,XU,XV,XW,XX,XY,Try.underlying3,Try.q3,Try.underlying4,Try.q4,Try.underlying22,Try.q22,Try.underlying23,Try.q23,Try.underlying25,Try.q25,Try.underlying26,Try.q26]
  refine awp_loopW (fun c : Nat => [(6, .int .i64 c), (3, .rows 1 (p.map rowI)), (4, .iptr cs)]) (fun c s => c ≤ p.length) (fun c => p.length - c) 0 (by simp [sub_cons, sub_nil, get_cons]) (by simp) ?_
  rintro c s hc
  by_cases hlt : c < p.length
  · have d1 : decide ((c : Int) < (p.length : Int)) = true := decide_eq_true (by omega)
    have wc : IntKind.i64.wrap ((c : Int) + 1) = ((c + 1 : Nat) : Int) := by rw [wrap_i64 (by omega) (by omega)]; rfl
    have hrow := rowI_get p hlt
    have bc : (0 : Int) ≤ (c : Int) ∧ (c : Int) < (p.length : Int) := by omega
    refine awp_seq (awp_vc (by kernel_rfl) ?_)
    simp -implicitDefEqProofs only [seqA_normal,seqA_ret,seqA_exit,d1,hml,Q0,Q1,Q2,Q3,Q4,Q5,Q6,Q7,Q8,Q9,Qa,Qb,Qc,Qd,Qe,Qf,Qg,Qh,Qi,Qj,Qk,Ql,Qm,Qn,Qo,Qp,Qq,Qr,Qs,Qt,Qu,Qv,Qw,Qx,Qy,Qz,QA,QB,QC,QD,QE,QF,QG,QH,QI,QJ,QK,QL,QM,QN,QO,QP,QQ,QR,QS,QT,QU,QV,QW,QX,QY,QZ,X0,X1,X2,X3,X4,X5,X6,X7,X8,X9,Xa,Xb,Xc,Xd,Xe,Xf,Xg,Xh,Xi,Xj,Xk,Xl,Xm,Xn,Xo,Xp,Xq,Xr,Xs,Xt,Xu,Xv,Xw,Xx,Xy,Xz,reduceIte,reduceCtorEq,ite_true,ite_false,if_true,if_false,XA,XB,XC,XD,XE,XF,and_true,true_and,and_self,true_imp_iff,false_imp_iff,eq_self,not_true_eq_false,not_false_eq_true,ne_eq,decide_true,decide_false,XG,XH,XI,XJ,XK,XL,XM,XN,XO,XP,XQ,XR,XS,XT,XU,XV,XW,XX,XY,Try.underlying3,Try.q3,Try.underlying4,Try.q4,Try.underlying22,Try.q22,Try.underlying23,Try.q23,Try.underlying25,Try.q25,Try.underlying26,Try.q26]
    refine awp_seq (awp_blk ?_)
    refine awp_seq (awp_vc (by kernel_rfl) ?_)
    simp -implicitDefEqProofs only [seqA_normal,seqA_ret,seqA_exit,Q0,Q1,Q2,Q3,Q4,Q5,Q6,Q7,Q8,Q9,Qa,Qb,Qc,Qd,Qe,Qf,Qg,Qh,Qi,Qj,Qk,Ql,Qm,Qn,Qo,Qp,Qq,Qr,Qs,Qt,Qu,Qv,Qw,Qx,Qy,Qz,QA,QB,QC,QD,QE,QF,QG,QH,QI,QJ,QK,QL,QM,QN,QO,QP,QQ,QR,QS,QT,QU,QV,QW,QX,QY,QZ,X0,X1,X2,X3,X4,X5,X6,X7,X8,X9,Xa,Xb,Xc,Xd,Xe,Xf,Xg,Xh,Xi,Xj,Xk,Xl,Xm,Xn,Xo,Xp,Xq,Xr,Xs,Xt,Xu,Xv,Xw,Xx,Xy,Xz,reduceIte,reduceCtorEq,ite_true,ite_false,if_true,if_false,XA,XB,XC,XD,XE,XF,and_true,true_and,and_self,true_imp_iff,false_imp_iff,eq_self,not_true_eq_false,not_false_eq_true,ne_eq,decide_true,decide_false,XG,XH,XI,XJ,XK,XL,XM,XN,XO,XP,XQ,XR,XS,XT,XU,XV,XW,XX,XY,Try.underlying3,Try.q3,Try.underlying4,Try.q4,Try.underlying22,Try.q22,Try.underlying23,Try.q23,Try.underlying25,Try.q25,Try.underlying26,Try.q26]
    refine awp_blk ?_
    refine awp_loopW (fun d : Nat => [(7, .int .i64 d), (6, .int .i64 c), (3, .rows 1 (p.map rowI)), (4, .iptr cs)]) (fun d s => d ≤ p.length) (fun d => p.length - d) 0 (by simp [sub_cons, sub_nil, get_cons]) (by simp) ?_
    rintro d s hd
    by_cases hld : d < p.length
    · have d2 : decide ((d : Int) < (p.length : Int)) = true := decide_eq_true (by omega)
      have wd : IntKind.i64.wrap ((d : Int) + 1) = ((d + 1 : Nat) : Int) := by rw [wrap_i64 (by omega) (by omega)]; rfl
      have hsome := isI_some hI hlt hld
      have hrl1 := hrl p[c] (List.getElem_mem hlt)
      obtain ⟨q, hq⟩ : ∃ q, q = p[c] := ⟨_, rfl⟩
      rw [← hq] at hsome hrow hrl1
      refine awp_seq (awp_vc (by kernel_rfl) ?_)
      simp -implicitDefEqProofs only [seqA_normal,seqA_ret,seqA_exit,d2,hml,Q0,Q1,Q2,Q3,Q4,Q5,Q6,Q7,Q8,Q9,Qa,Qb,Qc,Qd,Qe,Qf,Qg,Qh,Qi,Qj,Qk,Ql,Qm,Qn,Qo,Qp,Qq,Qr,Qs,Qt,Qu,Qv,Qw,Qx,Qy,Qz,QA,QB,QC,QD,QE,QF,QG,QH,QI,QJ,QK,QL,QM,QN,QO,QP,QQ,QR,QS,QT,QU,QV,QW,QX,QY,QZ,X0,X1,X2,X3,X4,X5,X6,X7,X8,X9,Xa,Xb,Xc,Xd,Xe,Xf,Xg,Xh,Xi,Xj,Xk,Xl,Xm,Xn,Xo,Xp,Xq,Xr,Xs,Xt,Xu,Xv,Xw,Xx,Xy,Xz,reduceIte,reduceCtorEq,ite_true,ite_false,if_true,if_false,XA,XB,XC,XD,XE,XF,and_true,true_and,and_self,true_imp_iff,false_imp_iff,eq_self,not_true_eq_false,not_false_eq_true,ne_eq,decide_true,decide_false,XG,XH,XI,XJ,XK,XL,XM,XN,XO,XP,XQ,XR,XS,XT,XU,XV,XW,XX,XY,Try.underlying3,Try.q3,Try.underlying4,Try.q4,Try.underlying22,Try.q22,Try.underlying23,Try.q23,Try.underlying25,Try.q25,Try.underlying26,Try.q26]
      refine awp_seq (awp_blk ?_)
      refine awp_seq (awp_vc (by kernel_rfl) ?_)
      simp -implicitDefEqProofs only [seqA_normal,seqA_ret,seqA_exit,Q0,Q1,Q2,Q3,Q4,Q5,Q6,Q7,Q8,Q9,Qa,Qb,Qc,Qd,Qe,Qf,Qg,Qh,Qi,Qj,Qk,Ql,Qm,Qn,Qo,Qp,Qq,Qr,Qs,Qt,Qu,Qv,Qw,Qx,Qy,Qz,QA,QB,QC,QD,QE,QF,QG,QH,QI,QJ,QK,QL,QM,QN,QO,QP,QQ,QR,QS,QT,QU,QV,QW,QX,QY,QZ,X0,X1,X2,X3,X4,X5,X6,X7,X8,X9,Xa,Xb,Xc,Xd,Xe,Xf,Xg,Xh,Xi,Xj,Xk,Xl,Xm,Xn,Xo,Xp,Xq,Xr,Xs,Xt,Xu,Xv,Xw,Xx,Xy,Xz,reduceIte,reduceCtorEq,ite_true,ite_false,if_true,if_false,XA,XB,XC,XD,XE,XF,and_true,true_and,and_self,true_imp_iff,false_imp_iff,eq_self,not_true_eq_false,not_false_eq_true,ne_eq,decide_true,decide_false,XG,XH,XI,XJ,XK,XL,XM,XN,XO,XP,XQ,XR,XS,XT,XU,XV,XW,XX,XY,Try.underlying3,Try.q3,Try.underlying4,Try.q4,Try.underlying22,Try.q22,Try.underlying23,Try.q23,Try.underlying25,Try.q25,Try.underlying26,Try.q26]
      refine awp_seq ?_
      refine awp_seq (awp_vc (by kernel_rfl) ?_)
      simp -implicitDefEqProofs only [seqA_normal,seqA_ret,seqA_exit,Q0,Q1,Q2,Q3,Q4,Q5,Q6,Q7,Q8,Q9,Qa,Qb,Qc,Qd,Qe,Qf,Qg,Qh,Qi,Qj,Qk,Ql,Qm,Qn,Qo,Qp,Qq,Qr,Qs,Qt,Qu,Qv,Qw,Qx,Qy,Qz,QA,QB,QC,QD,QE,QF,QG,QH,QI,QJ,QK,QL,QM,QN,QO,QP,QQ,QR,QS,QT,QU,QV,QW,QX,QY,QZ,X0,X1,X2,X3,X4,X5,X6,X7,X8,X9,Xa,Xb,Xc,Xd,Xe,Xf,Xg,Xh,Xi,Xj,Xk,Xl,Xm,Xn,Xo,Xp,Xq,Xr,Xs,Xt,Xu,Xv,Xw,Xx,Xy,Xz,reduceIte,reduceCtorEq,ite_true,ite_false,if_true,if_false,XA,XB,XC,XD,XE,XF,and_true,true_and,and_self,true_imp_iff,false_imp_iff,eq_self,not_true_eq_false,not_false_eq_true,ne_eq,decide_true,decide_false,XG,XH,XI,XJ,XK,XL,XM,XN,XO,XP,XQ,XR,XS,XT,XU,XV,XW,XX,XY,Try.underlying3,Try.q3,Try.underlying4,Try.q4,Try.underlying22,Try.q22,Try.underlying23,Try.q23,Try.underlying25,Try.q25,Try.underlying26,Try.q26]
      refine awp_blk ?_
      refine awp_loopW (fun k : Nat => [(9, .int .i64 k), (8, .bool (decide ((c : Int) = (d : Int)) || (q.take k).any fun x => isI p x d)), (7, .int .i64 d), (6, .int .i64 c), (3, .rows 1 (p.map rowI)), (4, .iptr cs)]) (fun k s => k ≤ q.length) (fun k => q.length - k) 0 (by simp [sub_cons, sub_nil, get_cons]) (by simp) ?_
      rintro k s hk
      by_cases hlk : k < q.length
      · have d3 : decide ((k : Int) < (q.length : Int)) = true := decide_eq_true (by omega)
        have wk : IntKind.i64.wrap ((k : Int) + 1) = ((k + 1 : Nat) : Int) := by rw [wrap_i64 (by omega) (by omega)]; rfl
        have hta := any_take' (fun x => isI p x d) q hlk
        have hqk : q.getD k 0 = q[k] := getD_get hlk
        have bk : (0 : Int) ≤ (k : Int) ∧ (k : Int) < (q.length : Int) := by omega
        have ks := kI q[k] (d : Int)
        generalize isI p q[k] d = V at ks hta
        refine awp_vc (by kernel_rfl) ?_
        cases hS : (decide ((c : Int) = (d : Int)) || (q.take k).any fun x => isI p x d) with
        | true =>
          simp -implicitDefEqProofs only [hml,hrow,Int.toNat_natCast,Q0,Q1,Q2,Q3,Q4,Q5,Q6,Q7,Q8,Q9,Qa,Qb,Qc,Qd,Qe,Qf,Qg,Qh,Qi,Qj,Qk,Ql,Qm,Qn,Qo,Qp,Qq,Qr,Qs,Qt,Qu,Qv,Qw,Qx,Qy,Qz,QA,QB,QC,QD,QE,QF,QG,QH,QI,QJ,QK,QL,QM,QN,QO,QP,QQ,QR,QS,QT,QU,QV,QW,QX,QY,QZ,X0,X1,X2,X3,X4,X5,X6,X7,X8,X9,Xa,Xb,Xc,Xd,Xe,Xf,Xg,Xh,Xi,Xj,Xk,Xl,Xm,Xn,Xo,Xp,Xq,Xr,Xs,Xt,Xu,Xv,Xw,Xx,Xy,Xz,reduceIte,reduceCtorEq,ite_true,ite_false,if_true,if_false,XA,XB,XC,XD,XE,XF,and_true,true_and,and_self,true_imp_iff,false_imp_iff,eq_self,not_true_eq_false,not_false_eq_true,ne_eq,decide_true,decide_false,XG,XH,XI,XJ,XK,XL,XM,XN,XO,XP,XQ,XR,XS,XT,XU,XV,XW,XX,XY,Try.underlying3,Try.q3,Try.underlying4,Try.q4,Try.underlying22,Try.q22,Try.underlying23,Try.q23,Try.underlying25,Try.q25,Try.underlying26,Try.q26]
          refine ⟨bc, ?_⟩
          simp -implicitDefEqProofs only [d3,wk,Q0,Q1,Q2,Q3,Q4,Q5,Q6,Q7,Q8,Q9,Qa,Qb,Qc,Qd,Qe,Qf,Qg,Qh,Qi,Qj,Qk,Ql,Qm,Qn,Qo,Qp,Qq,Qr,Qs,Qt,Qu,Qv,Qw,Qx,Qy,Qz,QA,QB,QC,QD,QE,QF,QG,QH,QI,QJ,QK,QL,QM,QN,QO,QP,QQ,QR,QS,QT,QU,QV,QW,QX,QY,QZ,X0,X1,X2,X3,X4,X5,X6,X7,X8,X9,Xa,Xb,Xc,Xd,Xe,Xf,Xg,Xh,Xi,Xj,Xk,Xl,Xm,Xn,Xo,Xp,Xq,Xr,Xs,Xt,Xu,Xv,Xw,Xx,Xy,Xz,reduceIte,reduceCtorEq,ite_true,ite_false,if_true,if_false,XA,XB,XC,XD,XE,XF,and_true,true_and,and_self,true_imp_iff,false_imp_iff,eq_self,not_true_eq_false,not_false_eq_true,ne_eq,decide_true,decide_false,XG,XH,XI,XJ,XK,XL,XM,XN,XO,XP,XQ,XR,XS,XT,XU,XV,XW,XX,XY,Try.underlying3,Try.q3,Try.underlying4,Try.q4,Try.underlying22,Try.q22,Try.underlying23,Try.q23,Try.underlying25,Try.q25,Try.underlying26,Try.q26]
          refine ⟨k + 1, ?_, by omega, by omega⟩
          rw [hta, ← Bool.or_assoc, hS, Bool.true_or]
          simp
        | false =>
          simp -implicitDefEqProofs only [hml,hrow,Int.toNat_natCast,Q0,Q1,Q2,Q3,Q4,Q5,Q6,Q7,Q8,Q9,Qa,Qb,Qc,Qd,Qe,Qf,Qg,Qh,Qi,Qj,Qk,Ql,Qm,Qn,Qo,Qp,Qq,Qr,Qs,Qt,Qu,Qv,Qw,Qx,Qy,Qz,QA,QB,QC,QD,QE,QF,QG,QH,QI,QJ,QK,QL,QM,QN,QO,QP,QQ,QR,QS,QT,QU,QV,QW,QX,QY,QZ,X0,X1,X2,X3,X4,X5,X6,X7,X8,X9,Xa,Xb,Xc,Xd,Xe,Xf,Xg,Xh,Xi,Xj,Xk,Xl,Xm,Xn,Xo,Xp,Xq,Xr,Xs,Xt,Xu,Xv,Xw,Xx,Xy,Xz,reduceIte,reduceCtorEq,ite_true,ite_false,if_true,if_false,XA,XB,XC,XD,XE,XF,and_true,true_and,and_self,true_imp_iff,false_imp_iff,eq_self,not_true_eq_false,not_false_eq_true,ne_eq,decide_true,decide_false,XG,XH,XI,XJ,XK,XL,XM,XN,XO,XP,XQ,XR,XS,XT,XU,XV,XW,XX,XY,Try.underlying3,Try.q3,Try.underlying4,Try.q4,Try.underlying22,Try.q22,Try.underlying23,Try.q23,Try.underlying25,Try.q25,Try.underlying26,Try.q26]
          refine ⟨bc, ?_⟩
          simp -implicitDefEqProofs only [d3,hml,hrow,Int.toNat_natCast,Q0,Q1,Q2,Q3,Q4,Q5,Q6,Q7,Q8,Q9,Qa,Qb,Qc,Qd,Qe,Qf,Qg,Qh,Qi,Qj,Qk,Ql,Qm,Qn,Qo,Qp,Qq,Qr,Qs,Qt,Qu,Qv,Qw,Qx,Qy,Qz,QA,QB,QC,QD,QE,QF,QG,QH,QI,QJ,QK,QL,QM,QN,QO,QP,QQ,QR,QS,QT,QU,QV,QW,QX,QY,QZ,X0,X1,X2,X3,X4,X5,X6,X7,X8,X9,Xa,Xb,Xc,Xd,Xe,Xf,Xg,Xh,Xi,Xj,Xk,Xl,Xm,Xn,Xo,Xp,Xq,Xr,Xs,Xt,Xu,Xv,Xw,Xx,Xy,Xz,reduceIte,reduceCtorEq,ite_true,ite_false,if_true,if_false,XA,XB,XC,XD,XE,XF,and_true,true_and,and_self,true_imp_iff,false_imp_iff,eq_self,not_true_eq_false,not_false_eq_true,ne_eq,decide_true,decide_false,XG,XH,XI,XJ,XK,XL,XM,XN,XO,XP,XQ,XR,XS,XT,XU,XV,XW,XX,XY,Try.underlying3,Try.q3,Try.underlying4,Try.q4,Try.underlying22,Try.q22,Try.underlying23,Try.q23,Try.underlying25,Try.q25,Try.underlying26,Try.q26]
          refine ⟨bc, ?_⟩
          simp -implicitDefEqProofs only [Int.toNat_natCast,hqk,Q0,Q1,Q2,Q3,Q4,Q5,Q6,Q7,Q8,Q9,Qa,Qb,Qc,Qd,Qe,Qf,Qg,Qh,Qi,Qj,Qk,Ql,Qm,Qn,Qo,Qp,Qq,Qr,Qs,Qt,Qu,Qv,Qw,Qx,Qy,Qz,QA,QB,QC,QD,QE,QF,QG,QH,QI,QJ,QK,QL,QM,QN,QO,QP,QQ,QR,QS,QT,QU,QV,QW,QX,QY,QZ,X0,X1,X2,X3,X4,X5,X6,X7,X8,X9,Xa,Xb,Xc,Xd,Xe,Xf,Xg,Xh,Xi,Xj,Xk,Xl,Xm,Xn,Xo,Xp,Xq,Xr,Xs,Xt,Xu,Xv,Xw,Xx,Xy,Xz,reduceIte,reduceCtorEq,ite_true,ite_false,if_true,if_false,XA,XB,XC,XD,XE,XF,and_true,true_and,and_self,true_imp_iff,false_imp_iff,eq_self,not_true_eq_false,not_false_eq_true,ne_eq,decide_true,decide_false,XG,XH,XI,XJ,XK,XL,XM,XN,XO,XP,XQ,XR,XS,XT,XU,XV,XW,XX,XY,Try.underlying3,Try.q3,Try.underlying4,Try.q4,Try.underlying22,Try.q22,Try.underlying23,Try.q23,Try.underlying25,Try.q25,Try.underlying26,Try.q26]
          refine ⟨bk, ?_⟩
          refine acalls_then (ks _) ?_
          simp -implicitDefEqProofs only [wk,Q0,Q1,Q2,Q3,Q4,Q5,Q6,Q7,Q8,Q9,Qa,Qb,Qc,Qd,Qe,Qf,Qg,Qh,Qi,Qj,Qk,Ql,Qm,Qn,Qo,Qp,Qq,Qr,Qs,Qt,Qu,Qv,Qw,Qx,Qy,Qz,QA,QB,QC,QD,QE,QF,QG,QH,QI,QJ,QK,QL,QM,QN,QO,QP,QQ,QR,QS,QT,QU,QV,QW,QX,QY,QZ,X0,X1,X2,X3,X4,X5,X6,X7,X8,X9,Xa,Xb,Xc,Xd,Xe,Xf,Xg,Xh,Xi,Xj,Xk,Xl,Xm,Xn,Xo,Xp,Xq,Xr,Xs,Xt,Xu,Xv,Xw,Xx,Xy,Xz,reduceIte,reduceCtorEq,ite_true,ite_false,if_true,if_false,XA,XB,XC,XD,XE,XF,and_true,true_and,and_self,true_imp_iff,false_imp_iff,eq_self,not_true_eq_false,not_false_eq_true,ne_eq,decide_true,decide_false,XG,XH,XI,XJ,XK,XL,XM,XN,XO,XP,XQ,XR,XS,XT,XU,XV,XW,XX,XY,Try.underlying3,Try.q3,Try.underlying4,Try.q4,Try.underlying22,Try.q22,Try.underlying23,Try.q23,Try.underlying25,Try.q25,Try.underlying26,Try.q26]
          refine ⟨k + 1, ?_, by omega, by omega⟩
          rw [hta, ← Bool.or_assoc, hS, Bool.false_or]
          simp
      · have d3 : decide ((k : Int) < (q.length : Int)) = false := decide_eq_false (by omega)
        have : k = q.length := by omega
        subst this
        rw [List.take_length, hsome]
        have k1 := kI (c : Int) (d : Int)
        have k2 := kI (d : Int) (c : Int)
        have hanti := isI_anti hA hlt hld
        refine awp_vc (by kernel_rfl) ?_
        simp -implicitDefEqProofs only [hml,hrow,Int.toNat_natCast,Q0,Q1,Q2,Q3,Q4,Q5,Q6,Q7,Q8,Q9,Qa,Qb,Qc,Qd,Qe,Qf,Qg,Qh,Qi,Qj,Qk,Ql,Qm,Qn,Qo,Qp,Qq,Qr,Qs,Qt,Qu,Qv,Qw,Qx,Qy,Qz,QA,QB,QC,QD,QE,QF,QG,QH,QI,QJ,QK,QL,QM,QN,QO,QP,QQ,QR,QS,QT,QU,QV,QW,QX,QY,QZ,X0,X1,X2,X3,X4,X5,X6,X7,X8,X9,Xa,Xb,Xc,Xd,Xe,Xf,Xg,Xh,Xi,Xj,Xk,Xl,Xm,Xn,Xo,Xp,Xq,Xr,Xs,Xt,Xu,Xv,Xw,Xx,Xy,Xz,reduceIte,reduceCtorEq,ite_true,ite_false,if_true,if_false,XA,XB,XC,XD,XE,XF,and_true,true_and,and_self,true_imp_iff,false_imp_iff,eq_self,not_true_eq_false,not_false_eq_true,ne_eq,decide_true,decide_false,XG,XH,XI,XJ,XK,XL,XM,XN,XO,XP,XQ,XR,XS,XT,XU,XV,XW,XX,XY,Try.underlying3,Try.q3,Try.underlying4,Try.q4,Try.underlying22,Try.q22,Try.underlying23,Try.q23,Try.underlying25,Try.q25,Try.underlying26,Try.q26]
        refine ⟨bc, ?_⟩
        simp -implicitDefEqProofs only [d3,seqA_normal,Q0,Q1,Q2,Q3,Q4,Q5,Q6,Q7,Q8,Q9,Qa,Qb,Qc,Qd,Qe,Qf,Qg,Qh,Qi,Qj,Qk,Ql,Qm,Qn,Qo,Qp,Qq,Qr,Qs,Qt,Qu,Qv,Qw,Qx,Qy,Qz,QA,QB,QC,QD,QE,QF,QG,QH,QI,QJ,QK,QL,QM,QN,QO,QP,QQ,QR,QS,QT,QU,QV,QW,QX,QY,QZ,X0,X1,X2,X3,X4,X5,X6,X7,X8,X9,Xa,Xb,Xc,Xd,Xe,Xf,Xg,Xh,Xi,Xj,Xk,Xl,Xm,Xn,Xo,Xp,Xq,Xr,Xs,Xt,Xu,Xv,Xw,Xx,Xy,Xz,reduceIte,reduceCtorEq,ite_true,ite_false,if_true,if_false,XA,XB,XC,XD,XE,XF,and_true,true_and,and_self,true_imp_iff,false_imp_iff,eq_self,not_true_eq_false,not_false_eq_true,ne_eq,decide_true,decide_false,XG,XH,XI,XJ,XK,XL,XM,XN,XO,XP,XQ,XR,XS,XT,XU,XV,XW,XX,XY,Try.underlying3,Try.q3,Try.underlying4,Try.q4,Try.underlying22,Try.q22,Try.underlying23,Try.q23,Try.underlying25,Try.q25,Try.underlying26,Try.q26]
        have hbeq : ∀ b : Bool, (b == b) = true := by decide
        refine awp_cutK (fun e' s' => Env.sub [(7, .int .i64 d), (6, .int .i64 c), (3, .rows 1 (p.map rowI)), (4, .iptr cs)] e') ?_ ?_
        · refine awp_vc (by kernel_rfl) ?_
          simp -implicitDefEqProofs only [Q0,Q1,Q2,Q3,Q4,Q5,Q6,Q7,Q8,Q9,Qa,Qb,Qc,Qd,Qe,Qf,Qg,Qh,Qi,Qj,Qk,Ql,Qm,Qn,Qo,Qp,Qq,Qr,Qs,Qt,Qu,Qv,Qw,Qx,Qy,Qz,QA,QB,QC,QD,QE,QF,QG,QH,QI,QJ,QK,QL,QM,QN,QO,QP,QQ,QR,QS,QT,QU,QV,QW,QX,QY,QZ,X0,X1,X2,X3,X4,X5,X6,X7,X8,X9,Xa,Xb,Xc,Xd,Xe,Xf,Xg,Xh,Xi,Xj,Xk,Xl,Xm,Xn,Xo,Xp,Xq,Xr,Xs,Xt,Xu,Xv,Xw,Xx,Xy,Xz,reduceIte,reduceCtorEq,ite_true,ite_false,if_true,if_false,XA,XB,XC,XD,XE,XF,and_true,true_and,and_self,true_imp_iff,false_imp_iff,eq_self,not_true_eq_false,not_false_eq_true,ne_eq,decide_true,decide_false,XG,XH,XI,XJ,XK,XL,XM,XN,XO,XP,XQ,XR,XS,XT,XU,XV,XW,XX,XY,Try.underlying3,Try.q3,Try.underlying4,Try.q4,Try.underlying22,Try.q22,Try.underlying23,Try.q23,Try.underlying25,Try.q25,Try.underlying26,Try.q26]
          cases hV : isI p (c : Int) (d : Int) with
          | true =>
            rw [hV] at k1
            by_cases hcd : (c : Int) = (d : Int)
            · refine acalls_then (k1 _) ?_
              simp -implicitDefEqProofs only [decide_eq_true hcd,Q0,Q1,Q2,Q3,Q4,Q5,Q6,Q7,Q8,Q9,Qa,Qb,Qc,Qd,Qe,Qf,Qg,Qh,Qi,Qj,Qk,Ql,Qm,Qn,Qo,Qp,Qq,Qr,Qs,Qt,Qu,Qv,Qw,Qx,Qy,Qz,QA,QB,QC,QD,QE,QF,QG,QH,QI,QJ,QK,QL,QM,QN,QO,QP,QQ,QR,QS,QT,QU,QV,QW,QX,QY,QZ,X0,X1,X2,X3,X4,X5,X6,X7,X8,X9,Xa,Xb,Xc,Xd,Xe,Xf,Xg,Xh,Xi,Xj,Xk,Xl,Xm,Xn,Xo,Xp,Xq,Xr,Xs,Xt,Xu,Xv,Xw,Xx,Xy,Xz,reduceIte,reduceCtorEq,ite_true,ite_false,if_true,if_false,XA,XB,XC,XD,XE,XF,and_true,true_and,and_self,true_imp_iff,false_imp_iff,eq_self,not_true_eq_false,not_false_eq_true,ne_eq,decide_true,decide_false,XG,XH,XI,XJ,XK,XL,XM,XN,XO,XP,XQ,XR,XS,XT,XU,XV,XW,XX,XY,Try.underlying3,Try.q3,Try.underlying4,Try.q4,Try.underlying22,Try.q22,Try.underlying23,Try.q23,Try.underlying25,Try.q25,Try.underlying26,Try.q26]
              simp -implicitDefEqProofs only [hbeq,decide_eq_true hcd,cutK_normal,Q0,Q1,Q2,Q3,Q4,Q5,Q6,Q7,Q8,Q9,Qa,Qb,Qc,Qd,Qe,Qf,Qg,Qh,Qi,Qj,Qk,Ql,Qm,Qn,Qo,Qp,Qq,Qr,Qs,Qt,Qu,Qv,Qw,Qx,Qy,Qz,QA,QB,QC,QD,QE,QF,QG,QH,QI,QJ,QK,QL,QM,QN,QO,QP,QQ,QR,QS,QT,QU,QV,QW,QX,QY,QZ,X0,X1,X2,X3,X4,X5,X6,X7,X8,X9,Xa,Xb,Xc,Xd,Xe,Xf,Xg,Xh,Xi,Xj,Xk,Xl,Xm,Xn,Xo,Xp,Xq,Xr,Xs,Xt,Xu,Xv,Xw,Xx,Xy,Xz,reduceIte,reduceCtorEq,ite_true,ite_false,if_true,if_false,XA,XB,XC,XD,XE,XF,and_true,true_and,and_self,true_imp_iff,false_imp_iff,eq_self,not_true_eq_false,not_false_eq_true,ne_eq,decide_true,decide_false,XG,XH,XI,XJ,XK,XL,XM,XN,XO,XP,XQ,XR,XS,XT,XU,XV,XW,XX,XY,Try.underlying3,Try.q3,Try.underlying4,Try.q4,Try.underlying22,Try.q22,Try.underlying23,Try.q23,Try.underlying25,Try.q25,Try.underlying26,Try.q26]
            · rw [hanti hcd hV] at k2
              refine acalls_then (k1 _) ?_
              simp -implicitDefEqProofs only [hbeq,decide_eq_false hcd,Q0,Q1,Q2,Q3,Q4,Q5,Q6,Q7,Q8,Q9,Qa,Qb,Qc,Qd,Qe,Qf,Qg,Qh,Qi,Qj,Qk,Ql,Qm,Qn,Qo,Qp,Qq,Qr,Qs,Qt,Qu,Qv,Qw,Qx,Qy,Qz,QA,QB,QC,QD,QE,QF,QG,QH,QI,QJ,QK,QL,QM,QN,QO,QP,QQ,QR,QS,QT,QU,QV,QW,QX,QY,QZ,X0,X1,X2,X3,X4,X5,X6,X7,X8,X9,Xa,Xb,Xc,Xd,Xe,Xf,Xg,Xh,Xi,Xj,Xk,Xl,Xm,Xn,Xo,Xp,Xq,Xr,Xs,Xt,Xu,Xv,Xw,Xx,Xy,Xz,reduceIte,reduceCtorEq,ite_true,ite_false,if_true,if_false,XA,XB,XC,XD,XE,XF,and_true,true_and,and_self,true_imp_iff,false_imp_iff,eq_self,not_true_eq_false,not_false_eq_true,ne_eq,decide_true,decide_false,XG,XH,XI,XJ,XK,XL,XM,XN,XO,XP,XQ,XR,XS,XT,XU,XV,XW,XX,XY,Try.underlying3,Try.q3,Try.underlying4,Try.q4,Try.underlying22,Try.q22,Try.underlying23,Try.q23,Try.underlying25,Try.q25,Try.underlying26,Try.q26]
              refine acalls_then (k1 _) ?_
              simp -implicitDefEqProofs only [hbeq,decide_eq_false hcd,Q0,Q1,Q2,Q3,Q4,Q5,Q6,Q7,Q8,Q9,Qa,Qb,Qc,Qd,Qe,Qf,Qg,Qh,Qi,Qj,Qk,Ql,Qm,Qn,Qo,Qp,Qq,Qr,Qs,Qt,Qu,Qv,Qw,Qx,Qy,Qz,QA,QB,QC,QD,QE,QF,QG,QH,QI,QJ,QK,QL,QM,QN,QO,QP,QQ,QR,QS,QT,QU,QV,QW,QX,QY,QZ,X0,X1,X2,X3,X4,X5,X6,X7,X8,X9,Xa,Xb,Xc,Xd,Xe,Xf,Xg,Xh,Xi,Xj,Xk,Xl,Xm,Xn,Xo,Xp,Xq,Xr,Xs,Xt,Xu,Xv,Xw,Xx,Xy,Xz,reduceIte,reduceCtorEq,ite_true,ite_false,if_true,if_false,XA,XB,XC,XD,XE,XF,and_true,true_and,and_self,true_imp_iff,false_imp_iff,eq_self,not_true_eq_false,not_false_eq_true,ne_eq,decide_true,decide_false,XG,XH,XI,XJ,XK,XL,XM,XN,XO,XP,XQ,XR,XS,XT,XU,XV,XW,XX,XY,Try.underlying3,Try.q3,Try.underlying4,Try.q4,Try.underlying22,Try.q22,Try.underlying23,Try.q23,Try.underlying25,Try.q25,Try.underlying26,Try.q26]
              refine acalls_then (k2 _) ?_
              simp -implicitDefEqProofs only [hbeq,decide_eq_false hcd,cutK_normal,Q0,Q1,Q2,Q3,Q4,Q5,Q6,Q7,Q8,Q9,Qa,Qb,Qc,Qd,Qe,Qf,Qg,Qh,Qi,Qj,Qk,Ql,Qm,Qn,Qo,Qp,Qq,Qr,Qs,Qt,Qu,Qv,Qw,Qx,Qy,Qz,QA,QB,QC,QD,QE,QF,QG,QH,QI,QJ,QK,QL,QM,QN,QO,QP,QQ,QR,QS,QT,QU,QV,QW,QX,QY,QZ,X0,X1,X2,X3,X4,X5,X6,X7,X8,X9,Xa,Xb,Xc,Xd,Xe,Xf,Xg,Xh,Xi,Xj,Xk,Xl,Xm,Xn,Xo,Xp,Xq,Xr,Xs,Xt,Xu,Xv,Xw,Xx,Xy,Xz,reduceIte,reduceCtorEq,ite_true,ite_false,if_true,if_false,XA,XB,XC,XD,XE,XF,and_true,true_and,and_self,true_imp_iff,false_imp_iff,eq_self,not_true_eq_false,not_false_eq_true,ne_eq,decide_true,decide_false,XG,XH,XI,XJ,XK,XL,XM,XN,XO,XP,XQ,XR,XS,XT,XU,XV,XW,XX,XY,Try.underlying3,Try.q3,Try.underlying4,Try.q4,Try.underlying22,Try.q22,Try.underlying23,Try.q23,Try.underlying25,Try.q25,Try.underlying26,Try.q26]
          | false =>
            rw [hV] at k1
            by_cases hcd : (c : Int) = (d : Int)
            · refine acalls_then (k1 _) ?_
              simp -implicitDefEqProofs only [hbeq,decide_eq_true hcd,cutK_normal,Q0,Q1,Q2,Q3,Q4,Q5,Q6,Q7,Q8,Q9,Qa,Qb,Qc,Qd,Qe,Qf,Qg,Qh,Qi,Qj,Qk,Ql,Qm,Qn,Qo,Qp,Qq,Qr,Qs,Qt,Qu,Qv,Qw,Qx,Qy,Qz,QA,QB,QC,QD,QE,QF,QG,QH,QI,QJ,QK,QL,QM,QN,QO,QP,QQ,QR,QS,QT,QU,QV,QW,QX,QY,QZ,X0,X1,X2,X3,X4,X5,X6,X7,X8,X9,Xa,Xb,Xc,Xd,Xe,Xf,Xg,Xh,Xi,Xj,Xk,Xl,Xm,Xn,Xo,Xp,Xq,Xr,Xs,Xt,Xu,Xv,Xw,Xx,Xy,Xz,reduceIte,reduceCtorEq,ite_true,ite_false,if_true,if_false,XA,XB,XC,XD,XE,XF,and_true,true_and,and_self,true_imp_iff,false_imp_iff,eq_self,not_true_eq_false,not_false_eq_true,ne_eq,decide_true,decide_false,XG,XH,XI,XJ,XK,XL,XM,XN,XO,XP,XQ,XR,XS,XT,XU,XV,XW,XX,XY,Try.underlying3,Try.q3,Try.underlying4,Try.q4,Try.underlying22,Try.q22,Try.underlying23,Try.q23,Try.underlying25,Try.q25,Try.underlying26,Try.q26]
            · refine acalls_then (k1 _) ?_
              simp -implicitDefEqProofs only [hbeq,decide_eq_false hcd,Q0,Q1,Q2,Q3,Q4,Q5,Q6,Q7,Q8,Q9,Qa,Qb,Qc,Qd,Qe,Qf,Qg,Qh,Qi,Qj,Qk,Ql,Qm,Qn,Qo,Qp,Qq,Qr,Qs,Qt,Qu,Qv,Qw,Qx,Qy,Qz,QA,QB,QC,QD,QE,QF,QG,QH,QI,QJ,QK,QL,QM,QN,QO,QP,QQ,QR,QS,QT,QU,QV,QW,QX,QY,QZ,X0,X1,X2,X3,X4,X5,X6,X7,X8,X9,Xa,Xb,Xc,Xd,Xe,Xf,Xg,Xh,Xi,Xj,Xk,Xl,Xm,Xn,Xo,Xp,Xq,Xr,Xs,Xt,Xu,Xv,Xw,Xx,Xy,Xz,reduceIte,reduceCtorEq,ite_true,ite_false,if_true,if_false,XA,XB,XC,XD,XE,XF,and_true,true_and,and_self,true_imp_iff,false_imp_iff,eq_self,not_true_eq_false,not_false_eq_true,ne_eq,decide_true,decide_false,XG,XH,XI,XJ,XK,XL,XM,XN,XO,XP,XQ,XR,XS,XT,XU,XV,XW,XX,XY,Try.underlying3,Try.q3,Try.underlying4,Try.q4,Try.underlying22,Try.q22,Try.underlying23,Try.q23,Try.underlying25,Try.q25,Try.underlying26,Try.q26]
              refine acalls_then (k1 _) ?_
              simp -implicitDefEqProofs only [hbeq,decide_eq_false hcd,cutK_normal,Q0,Q1,Q2,Q3,Q4,Q5,Q6,Q7,Q8,Q9,Qa,Qb,Qc,Qd,Qe,Qf,Qg,Qh,Qi,Qj,Qk,Ql,Qm,Qn,Qo,Qp,Qq,Qr,Qs,Qt,Qu,Qv,Qw,Qx,Qy,Qz,QA,QB,QC,QD,QE,QF,QG,QH,QI,QJ,QK,QL,QM,QN,QO,QP,QQ,QR,QS,QT,QU,QV,QW,QX,QY,QZ,X0,X1,X2,X3,X4,X5,X6,X7,X8,X9,Xa,Xb,Xc,Xd,Xe,Xf,Xg,Xh,Xi,Xj,Xk,Xl,Xm,Xn,Xo,Xp,Xq,Xr,Xs,Xt,Xu,Xv,Xw,Xx,Xy,Xz,reduceIte,reduceCtorEq,ite_true,ite_false,if_true,if_false,XA,XB,XC,XD,XE,XF,and_true,true_and,and_self,true_imp_iff,false_imp_iff,eq_self,not_true_eq_false,not_false_eq_true,ne_eq,decide_true,decide_false,XG,XH,XI,XJ,XK,XL,XM,XN,XO,XP,XQ,XR,XS,XT,XU,XV,XW,XX,XY,Try.underlying3,Try.q3,Try.underlying4,Try.q4,Try.underlying22,Try.q22,Try.underlying23,Try.q23,Try.underlying25,Try.q25,Try.underlying26,Try.q26]
        · intro e' s' he
          refine awp_sub _ he ?_
          refine awp_seq (awp_vc (by kernel_rfl) ?_)
          simp -implicitDefEqProofs only [seqA_normal,seqA_ret,seqA_exit,Q0,Q1,Q2,Q3,Q4,Q5,Q6,Q7,Q8,Q9,Qa,Qb,Qc,Qd,Qe,Qf,Qg,Qh,Qi,Qj,Qk,Ql,Qm,Qn,Qo,Qp,Qq,Qr,Qs,Qt,Qu,Qv,Qw,Qx,Qy,Qz,QA,QB,QC,QD,QE,QF,QG,QH,QI,QJ,QK,QL,QM,QN,QO,QP,QQ,QR,QS,QT,QU,QV,QW,QX,QY,QZ,X0,X1,X2,X3,X4,X5,X6,X7,X8,X9,Xa,Xb,Xc,Xd,Xe,Xf,Xg,Xh,Xi,Xj,Xk,Xl,Xm,Xn,Xo,Xp,Xq,Xr,Xs,Xt,Xu,Xv,Xw,Xx,Xy,Xz,reduceIte,reduceCtorEq,ite_true,ite_false,if_true,if_false,XA,XB,XC,XD,XE,XF,and_true,true_and,and_self,true_imp_iff,false_imp_iff,eq_self,not_true_eq_false,not_false_eq_true,ne_eq,decide_true,decide_false,XG,XH,XI,XJ,XK,XL,XM,XN,XO,XP,XQ,XR,XS,XT,XU,XV,XW,XX,XY,Try.underlying3,Try.q3,Try.underlying4,Try.q4,Try.underlying22,Try.q22,Try.underlying23,Try.q23,Try.underlying25,Try.q25,Try.underlying26,Try.q26]
          refine awp_blk ?_
          refine awp_loopW (fun b : Nat => [(10, .int .i64 b), (7, .int .i64 d), (6, .int .i64 c), (3, .rows 1 (p.map rowI)), (4, .iptr cs)]) (fun b s => b ≤ p.length) (fun b => p.length - b) 0 (by simp [sub_cons, sub_nil, get_cons]) (by simp) ?_
          rintro b s hb
          by_cases hlb : b < p.length
          · have d4 : decide ((b : Int) < (p.length : Int)) = true := decide_eq_true (by omega)
            have wb : IntKind.i64.wrap ((b : Int) + 1) = ((b + 1 : Nat) : Int) := by rw [wrap_i64 (by omega) (by omega)]; rfl
            have k3 := kI (d : Int) (b : Int)
            have k4 := kI (c : Int) (b : Int)
            have htr := isI_trans hlt hld hlb
            generalize isI p (c : Int) (d : Int) = V at k1 htr
            generalize isI p (d : Int) (b : Int) = U at k3 htr
            generalize isI p (c : Int) (b : Int) = X at k4 htr
            refine awp_vc (by kernel_rfl) ?_
            simp -implicitDefEqProofs only [d4,hml,Q0,Q1,Q2,Q3,Q4,Q5,Q6,Q7,Q8,Q9,Qa,Qb,Qc,Qd,Qe,Qf,Qg,Qh,Qi,Qj,Qk,Ql,Qm,Qn,Qo,Qp,Qq,Qr,Qs,Qt,Qu,Qv,Qw,Qx,Qy,Qz,QA,QB,QC,QD,QE,QF,QG,QH,QI,QJ,QK,QL,QM,QN,QO,QP,QQ,QR,QS,QT,QU,QV,QW,QX,QY,QZ,X0,X1,X2,X3,X4,X5,X6,X7,X8,X9,Xa,Xb,Xc,Xd,Xe,Xf,Xg,Xh,Xi,Xj,Xk,Xl,Xm,Xn,Xo,Xp,Xq,Xr,Xs,Xt,Xu,Xv,Xw,Xx,Xy,Xz,reduceIte,reduceCtorEq,ite_true,ite_false,if_true,if_false,XA,XB,XC,XD,XE,XF,and_true,true_and,and_self,true_imp_iff,false_imp_iff,eq_self,not_true_eq_false,not_false_eq_true,ne_eq,decide_true,decide_false,XG,XH,XI,XJ,XK,XL,XM,XN,XO,XP,XQ,XR,XS,XT,XU,XV,XW,XX,XY,Try.underlying3,Try.q3,Try.underlying4,Try.q4,Try.underlying22,Try.q22,Try.underlying23,Try.q23,Try.underlying25,Try.q25,Try.underlying26,Try.q26]
            cases V with
            | false =>
              refine acalls_then (k1 _) ?_
              simp -implicitDefEqProofs only [wb,Q0,Q1,Q2,Q3,Q4,Q5,Q6,Q7,Q8,Q9,Qa,Qb,Qc,Qd,Qe,Qf,Qg,Qh,Qi,Qj,Qk,Ql,Qm,Qn,Qo,Qp,Qq,Qr,Qs,Qt,Qu,Qv,Qw,Qx,Qy,Qz,QA,QB,QC,QD,QE,QF,QG,QH,QI,QJ,QK,QL,QM,QN,QO,QP,QQ,QR,QS,QT,QU,QV,QW,QX,QY,QZ,X0,X1,X2,X3,X4,X5,X6,X7,X8,X9,Xa,Xb,Xc,Xd,Xe,Xf,Xg,Xh,Xi,Xj,Xk,Xl,Xm,Xn,Xo,Xp,Xq,Xr,Xs,Xt,Xu,Xv,Xw,Xx,Xy,Xz,reduceIte,reduceCtorEq,ite_true,ite_false,if_true,if_false,XA,XB,XC,XD,XE,XF,and_true,true_and,and_self,true_imp_iff,false_imp_iff,eq_self,not_true_eq_false,not_false_eq_true,ne_eq,decide_true,decide_false,XG,XH,XI,XJ,XK,XL,XM,XN,XO,XP,XQ,XR,XS,XT,XU,XV,XW,XX,XY,Try.underlying3,Try.q3,Try.underlying4,Try.q4,Try.underlying22,Try.q22,Try.underlying23,Try.q23,Try.underlying25,Try.q25,Try.underlying26,Try.q26]
              exact ⟨b + 1, by simp, by omega, by omega⟩
            | true =>
              cases U with
              | false =>
                refine acalls_then (k1 _) ?_
                simp -implicitDefEqProofs only [Q0,Q1,Q2,Q3,Q4,Q5,Q6,Q7,Q8,Q9,Qa,Qb,Qc,Qd,Qe,Qf,Qg,Qh,Qi,Qj,Qk,Ql,Qm,Qn,Qo,Qp,Qq,Qr,Qs,Qt,Qu,Qv,Qw,Qx,Qy,Qz,QA,QB,QC,QD,QE,QF,QG,QH,QI,QJ,QK,QL,QM,QN,QO,QP,QQ,QR,QS,QT,QU,QV,QW,QX,QY,QZ,X0,X1,X2,X3,X4,X5,X6,X7,X8,X9,Xa,Xb,Xc,Xd,Xe,Xf,Xg,Xh,Xi,Xj,Xk,Xl,Xm,Xn,Xo,Xp,Xq,Xr,Xs,Xt,Xu,Xv,Xw,Xx,Xy,Xz,reduceIte,reduceCtorEq,ite_true,ite_false,if_true,if_false,XA,XB,XC,XD,XE,XF,and_true,true_and,and_self,true_imp_iff,false_imp_iff,eq_self,not_true_eq_false,not_false_eq_true,ne_eq,decide_true,decide_false,XG,XH,XI,XJ,XK,XL,XM,XN,XO,XP,XQ,XR,XS,XT,XU,XV,XW,XX,XY,Try.underlying3,Try.q3,Try.underlying4,Try.q4,Try.underlying22,Try.q22,Try.underlying23,Try.q23,Try.underlying25,Try.q25,Try.underlying26,Try.q26]
                refine acalls_then (k3 _) ?_
                simp -implicitDefEqProofs only [wb,Q0,Q1,Q2,Q3,Q4,Q5,Q6,Q7,Q8,Q9,Qa,Qb,Qc,Qd,Qe,Qf,Qg,Qh,Qi,Qj,Qk,Ql,Qm,Qn,Qo,Qp,Qq,Qr,Qs,Qt,Qu,Qv,Qw,Qx,Qy,Qz,QA,QB,QC,QD,QE,QF,QG,QH,QI,QJ,QK,QL,QM,QN,QO,QP,QQ,QR,QS,QT,QU,QV,QW,QX,QY,QZ,X0,X1,X2,X3,X4,X5,X6,X7,X8,X9,Xa,Xb,Xc,Xd,Xe,Xf,Xg,Xh,Xi,Xj,Xk,Xl,Xm,Xn,Xo,Xp,Xq,Xr,Xs,Xt,Xu,Xv,Xw,Xx,Xy,Xz,reduceIte,reduceCtorEq,ite_true,ite_false,if_true,if_false,XA,XB,XC,XD,XE,XF,and_true,true_and,and_self,true_imp_iff,false_imp_iff,eq_self,not_true_eq_false,not_false_eq_true,ne_eq,decide_true,decide_false,XG,XH,XI,XJ,XK,XL,XM,XN,XO,XP,XQ,XR,XS,XT,XU,XV,XW,XX,XY,Try.underlying3,Try.q3,Try.underlying4,Try.q4,Try.underlying22,Try.q22,Try.underlying23,Try.q23,Try.underlying25,Try.q25,Try.underlying26,Try.q26]
                exact ⟨b + 1, by simp, by omega, by omega⟩
              | true =>
                rw [htr rfl rfl] at k4
                refine acalls_then (k1 _) ?_
                simp -implicitDefEqProofs only [Q0,Q1,Q2,Q3,Q4,Q5,Q6,Q7,Q8,Q9,Qa,Qb,Qc,Qd,Qe,Qf,Qg,Qh,Qi,Qj,Qk,Ql,Qm,Qn,Qo,Qp,Qq,Qr,Qs,Qt,Qu,Qv,Qw,Qx,Qy,Qz,QA,QB,QC,QD,QE,QF,QG,QH,QI,QJ,QK,QL,QM,QN,QO,QP,QQ,QR,QS,QT,QU,QV,QW,QX,QY,QZ,X0,X1,X2,X3,X4,X5,X6,X7,X8,X9,Xa,Xb,Xc,Xd,Xe,Xf,Xg,Xh,Xi,Xj,Xk,Xl,Xm,Xn,Xo,Xp,Xq,Xr,Xs,Xt,Xu,Xv,Xw,Xx,Xy,Xz,reduceIte,reduceCtorEq,ite_true,ite_false,if_true,if_false,XA,XB,XC,XD,XE,XF,and_true,true_and,and_self,true_imp_iff,false_imp_iff,eq_self,not_true_eq_false,not_false_eq_true,ne_eq,decide_true,decide_false,XG,XH,XI,XJ,XK,XL,XM,XN,XO,XP,XQ,XR,XS,XT,XU,XV,XW,XX,XY,Try.underlying3,Try.q3,Try.underlying4,Try.q4,Try.underlying22,Try.q22,Try.underlying23,Try.q23,Try.underlying25,Try.q25,Try.underlying26,Try.q26]
                refine acalls_then (k3 _) ?_
                simp -implicitDefEqProofs only [Q0,Q1,Q2,Q3,Q4,Q5,Q6,Q7,Q8,Q9,Qa,Qb,Qc,Qd,Qe,Qf,Qg,Qh,Qi,Qj,Qk,Ql,Qm,Qn,Qo,Qp,Qq,Qr,Qs,Qt,Qu,Qv,Qw,Qx,Qy,Qz,QA,QB,QC,QD,QE,QF,QG,QH,QI,QJ,QK,QL,QM,QN,QO,QP,QQ,QR,QS,QT,QU,QV,QW,QX,QY,QZ,X0,X1,X2,X3,X4,X5,X6,X7,X8,X9,Xa,Xb,Xc,Xd,Xe,Xf,Xg,Xh,Xi,Xj,Xk,Xl,Xm,Xn,Xo,Xp,Xq,Xr,Xs,Xt,Xu,Xv,Xw,Xx,Xy,Xz,reduceIte,reduceCtorEq,ite_true,ite_false,if_true,if_false,XA,XB,XC,XD,XE,XF,and_true,true_and,and_self,true_imp_iff,false_imp_iff,eq_self,not_true_eq_false,not_false_eq_true,ne_eq,decide_true,decide_false,XG,XH,XI,XJ,XK,XL,XM,XN,XO,XP,XQ,XR,XS,XT,XU,XV,XW,XX,XY,Try.underlying3,Try.q3,Try.underlying4,Try.q4,Try.underlying22,Try.q22,Try.underlying23,Try.q23,Try.underlying25,Try.q25,Try.underlying26,Try.q26]
                refine acalls_then (k4 _) ?_
                simp -implicitDefEqProofs only [wb,Q0,Q1,Q2,Q3,Q4,Q5,Q6,Q7,Q8,Q9,Qa,Qb,Qc,Qd,Qe,Qf,Qg,Qh,Qi,Qj,Qk,Ql,Qm,Qn,Qo,Qp,Qq,Qr,Qs,Qt,Qu,Qv,Qw,Qx,Qy,Qz,QA,QB,QC,QD,QE,QF,QG,QH,QI,QJ,QK,QL,QM,QN,QO,QP,QQ,QR,QS,QT,QU,QV,QW,QX,QY,QZ,X0,X1,X2,X3,X4,X5,X6,X7,X8,X9,Xa,Xb,Xc,Xd,Xe,Xf,Xg,Xh,Xi,Xj,Xk,Xl,Xm,Xn,Xo,Xp,Xq,Xr,Xs,Xt,Xu,Xv,Xw,Xx,Xy,Xz,reduceIte,reduceCtorEq,ite_true,ite_false,if_true,if_false,XA,XB,XC,XD,XE,XF,and_true,true_and,and_self,true_imp_iff,false_imp_iff,eq_self,not_true_eq_false,not_false_eq_true,ne_eq,decide_true,decide_false,XG,XH,XI,XJ,XK,XL,XM,XN,XO,XP,XQ,XR,XS,XT,XU,XV,XW,XX,XY,Try.underlying3,Try.q3,Try.underlying4,Try.q4,Try.underlying22,Try.q22,Try.underlying23,Try.q23,Try.underlying25,Try.q25,Try.underlying26,Try.q26]
                exact ⟨b + 1, by simp, by omega, by omega⟩
          · have d4 : decide ((b : Int) < (p.length : Int)) = false := decide_eq_false (by omega)
            refine awp_vc (by kernel_rfl) ?_
            simp -implicitDefEqProofs only [d4,hml,seqA_normal,Q0,Q1,Q2,Q3,Q4,Q5,Q6,Q7,Q8,Q9,Qa,Qb,Qc,Qd,Qe,Qf,Qg,Qh,Qi,Qj,Qk,Ql,Qm,Qn,Qo,Qp,Qq,Qr,Qs,Qt,Qu,Qv,Qw,Qx,Qy,Qz,QA,QB,QC,QD,QE,QF,QG,QH,QI,QJ,QK,QL,QM,QN,QO,QP,QQ,QR,QS,QT,QU,QV,QW,QX,QY,QZ,X0,X1,X2,X3,X4,X5,X6,X7,X8,X9,Xa,Xb,Xc,Xd,Xe,Xf,Xg,Xh,Xi,Xj,Xk,Xl,Xm,Xn,Xo,Xp,Xq,Xr,Xs,Xt,Xu,Xv,Xw,Xx,Xy,Xz,reduceIte,reduceCtorEq,ite_true,ite_false,if_true,if_false,XA,XB,XC,XD,XE,XF,and_true,true_and,and_self,true_imp_iff,false_imp_iff,eq_self,not_true_eq_false,not_false_eq_true,ne_eq,decide_true,decide_false,XG,XH,XI,XJ,XK,XL,XM,XN,XO,XP,XQ,XR,XS,XT,XU,XV,XW,XX,XY,Try.underlying3,Try.q3,Try.underlying4,Try.q4,Try.underlying22,Try.q22,Try.underlying23,Try.q23,Try.underlying25,Try.q25,Try.underlying26,Try.q26]
            refine awp_vc (by kernel_rfl) ?_
            simp -implicitDefEqProofs only [wd,Q0,Q1,Q2,Q3,Q4,Q5,Q6,Q7,Q8,Q9,Qa,Qb,Qc,Qd,Qe,Qf,Qg,Qh,Qi,Qj,Qk,Ql,Qm,Qn,Qo,Qp,Qq,Qr,Qs,Qt,Qu,Qv,Qw,Qx,Qy,Qz,QA,QB,QC,QD,QE,QF,QG,QH,QI,QJ,QK,QL,QM,QN,QO,QP,QQ,QR,QS,QT,QU,QV,QW,QX,QY,QZ,X0,X1,X2,X3,X4,X5,X6,X7,X8,X9,Xa,Xb,Xc,Xd,Xe,Xf,Xg,Xh,Xi,Xj,Xk,Xl,Xm,Xn,Xo,Xp,Xq,Xr,Xs,Xt,Xu,Xv,Xw,Xx,Xy,Xz,reduceIte,reduceCtorEq,ite_true,ite_false,if_true,if_false,XA,XB,XC,XD,XE,XF,and_true,true_and,and_self,true_imp_iff,false_imp_iff,eq_self,not_true_eq_false,not_false_eq_true,ne_eq,decide_true,decide_false,XG,XH,XI,XJ,XK,XL,XM,XN,XO,XP,XQ,XR,XS,XT,XU,XV,XW,XX,XY,Try.underlying3,Try.q3,Try.underlying4,Try.q4,Try.underlying22,Try.q22,Try.underlying23,Try.q23,Try.underlying25,Try.q25,Try.underlying26,Try.q26]
            exact ⟨d + 1, by simp, by omega, by omega⟩
    · have d2 : decide ((d : Int) < (p.length : Int)) = false := decide_eq_false (by omega)
      refine awp_vc (by kernel_rfl) ?_
      simp -implicitDefEqProofs only [d2,hml,seqA_normal,Q0,Q1,Q2,Q3,Q4,Q5,Q6,Q7,Q8,Q9,Qa,Qb,Qc,Qd,Qe,Qf,Qg,Qh,Qi,Qj,Qk,Ql,Qm,Qn,Qo,Qp,Qq,Qr,Qs,Qt,Qu,Qv,Qw,Qx,Qy,Qz,QA,QB,QC,QD,QE,QF,QG,QH,QI,QJ,QK,QL,QM,QN,QO,QP,QQ,QR,QS,QT,QU,QV,QW,QX,QY,QZ,X0,X1,X2,X3,X4,X5,X6,X7,X8,X9,Xa,Xb,Xc,Xd,Xe,Xf,Xg,Xh,Xi,Xj,Xk,Xl,Xm,Xn,Xo,Xp,Xq,Xr,Xs,Xt,Xu,Xv,Xw,Xx,Xy,Xz,reduceIte,reduceCtorEq,ite_true,ite_false,if_true,if_false,XA,XB,XC,XD,XE,XF,and_true,true_and,and_self,true_imp_iff,false_imp_iff,eq_self,not_true_eq_false,not_false_eq_true,ne_eq,decide_true,decide_false,XG,XH,XI,XJ,XK,XL,XM,XN,XO,XP,XQ,XR,XS,XT,XU,XV,XW,XX,XY,Try.underlying3,Try.q3,Try.underlying4,Try.q4,Try.underlying22,Try.q22,Try.underlying23,Try.q23,Try.underlying25,Try.q25,Try.underlying26,Try.q26]
      refine awp_vc (by kernel_rfl) ?_
      simp -implicitDefEqProofs only [wc,Q0,Q1,Q2,Q3,Q4,Q5,Q6,Q7,Q8,Q9,Qa,Qb,Qc,Qd,Qe,Qf,Qg,Qh,Qi,Qj,Qk,Ql,Qm,Qn,Qo,Qp,Qq,Qr,Qs,Qt,Qu,Qv,Qw,Qx,Qy,Qz,QA,QB,QC,QD,QE,QF,QG,QH,QI,QJ,QK,QL,QM,QN,QO,QP,QQ,QR,QS,QT,QU,QV,QW,QX,QY,QZ,X0,X1,X2,X3,X4,X5,X6,X7,X8,X9,Xa,Xb,Xc,Xd,Xe,Xf,Xg,Xh,Xi,Xj,Xk,Xl,Xm,Xn,Xo,Xp,Xq,Xr,Xs,Xt,Xu,Xv,Xw,Xx,Xy,Xz,reduceIte,reduceCtorEq,ite_true,ite_false,if_true,if_false,XA,XB,XC,XD,XE,XF,and_true,true_and,and_self,true_imp_iff,false_imp_iff,eq_self,not_true_eq_false,not_false_eq_true,ne_eq,decide_true,decide_false,XG,XH,XI,XJ,XK,XL,XM,XN,XO,XP,XQ,XR,XS,XT,XU,XV,XW,XX,XY,Try.underlying3,Try.q3,Try.underlying4,Try.q4,Try.underlying22,Try.q22,Try.underlying23,Try.q23,Try.underlying25,Try.q25,Try.underlying26,Try.q26]
      exact ⟨c + 1, by simp, by omega, by omega⟩
  · have d1 : decide ((c : Int) < (p.length : Int)) = false := decide_eq_false (by omega)
    refine awp_vc (by kernel_rfl) ?_
    simp -implicitDefEqProofs only [d1,hml,seqA_normal,Q0,Q1,Q2,Q3,Q4,Q5,Q6,Q7,Q8,Q9,Qa,Qb,Qc,Qd,Qe,Qf,Qg,Qh,Qi,Qj,Qk,Ql,Qm,Qn,Qo,Qp,Qq,Qr,Qs,Qt,Qu,Qv,Qw,Qx,Qy,Qz,QA,QB,QC,QD,QE,QF,QG,QH,QI,QJ,QK,QL,QM,QN,QO,QP,QQ,QR,QS,QT,QU,QV,QW,QX,QY,QZ,X0,X1,X2,X3,X4,X5,X6,X7,X8,X9,Xa,Xb,Xc,Xd,Xe,Xf,Xg,Xh,Xi,Xj,Xk,Xl,Xm,Xn,Xo,Xp,Xq,Xr,Xs,Xt,Xu,Xv,Xw,Xx,Xy,Xz,reduceIte,reduceCtorEq,ite_true,ite_false,if_true,if_false,XA,XB,XC,XD,XE,XF,and_true,true_and,and_self,true_imp_iff,false_imp_iff,eq_self,not_true_eq_false,not_false_eq_true,ne_eq,decide_true,decide_false,XG,XH,XI,XJ,XK,XL,XM,XN,XO,XP,XQ,XR,XS,XT,XU,XV,XW,XX,XY,Try.underlying3,Try.q3,Try.underlying4,Try.q4,Try.underlying22,Try.q22,Try.underlying23,Try.q23,Try.underlying25,Try.q25,Try.underlying26,Try.q26]
    refine awp_vc (by kernel_rfl) ?_
    simp -implicitDefEqProofs only [Q0,Q1,Q2,Q3,Q4,Q5,Q6,Q7,Q8,Q9,Qa,Qb,Qc,Qd,Qe,Qf,Qg,Qh,Qi,Qj,Qk,Ql,Qm,Qn,Qo,Qp,Qq,Qr,Qs,Qt,Qu,Qv,Qw,Qx,Qy,Qz,QA,QB,QC,QD,QE,QF,QG,QH,QI,QJ,QK,QL,QM,QN,QO,QP,QQ,QR,QS,QT,QU,QV,QW,QX,QY,QZ,X0,X1,X2,X3,X4,X5,X6,X7,X8,X9,Xa,Xb,Xc,Xd,Xe,Xf,Xg,Xh,Xi,Xj,Xk,Xl,Xm,Xn,Xo,Xp,Xq,Xr,Xs,Xt,Xu,Xv,Xw,Xx,Xy,Xz,reduceIte,reduceCtorEq,ite_true,ite_false,if_true,if_false,XA,XB,XC,XD,XE,XF,and_true,true_and,and_self,true_imp_iff,false_imp_iff,eq_self,not_true_eq_false,not_false_eq_true,ne_eq,decide_true,decide_false,XG,XH,XI,XJ,XK,XL,XM,XN,XO,XP,XQ,XR,XS,XT,XU,XV,XW,XX,XY,Try.underlying3,Try.q3,Try.underlying4,Try.q4,Try.underlying22,Try.q22,Try.underlying23,Try.q23,Try.underlying25,Try.q25,Try.underlying26,Try.q26]
    refine acalls_then (kL _) ?_
    simp -implicitDefEqProofs only [Q0,Q1,Q2,Q3,Q4,Q5,Q6,Q7,Q8,Q9,Qa,Qb,Qc,Qd,Qe,Qf,Qg,Qh,Qi,Qj,Qk,Ql,Qm,Qn,Qo,Qp,Qq,Qr,Qs,Qt,Qu,Qv,Qw,Qx,Qy,Qz,QA,QB,QC,QD,QE,QF,QG,QH,QI,QJ,QK,QL,QM,QN,QO,QP,QQ,QR,QS,QT,QU,QV,QW,QX,QY,QZ,X0,X1,X2,X3,X4,X5,X6,X7,X8,X9,Xa,Xb,Xc,Xd,Xe,Xf,Xg,Xh,Xi,Xj,Xk,Xl,Xm,Xn,Xo,Xp,Xq,Xr,Xs,Xt,Xu,Xv,Xw,Xx,Xy,Xz,reduceIte,reduceCtorEq,ite_true,ite_false,if_true,if_false,XA,XB,XC,XD,XE,XF,and_true,true_and,and_self,true_imp_iff,false_imp_iff,eq_self,not_true_eq_false,not_false_eq_true,ne_eq,decide_true,decide_false,XG,XH,XI,XJ,XK,XL,XM,XN,XO,XP,XQ,XR,XS,XT,XU,XV,XW,XX,XY,Try.underlying3,Try.q3,Try.underlying4,Try.q4,Try.underlying22,Try.q22,Try.underlying23,Try.q23,Try.underlying25,Try.q25,Try.underlying26,Try.q26]

end Go.Proofs
