/-
  The ledger: copies of entries, and entries put together; contracts.
-/
import Derived.Test.YtdioiegkpkjmkaaJf
import Derived.Test.YtdioiegkpkjmkaaAbsI
namespace Go.Proofs
open Go.Pa
open Go.Pa renaming VB0 → Q0, VB1 → Q1, VB2 → Q2, VB3 → Q3, VB4 → Q4, VB5 → Q5, VB6 → Q6, VB7 → Q7, VB8 → Q8, VB9 → Q9, condV_bool → Qa, guardV_bool → Qb, vcS → Qc, evA → Qd, evBin → Qe, nilA → Qf, nilOf → Qg, intOp → Qh, strOp → Qi, evUn → Qj, evConv → Qk, evField → Ql, evFieldAddr → Qm, evIndexAddr → Qn, evIndex → Qo, evIndexA → Qp, bnd → Qq, evSlice → Qr, evLen → Qs, evPick → Qt, evExtract → Qu, evNilCheck → Qv, evMin → Qw, evMax → Qx, evLoadI → Qy, partsOne → QA, intsOf → QB, rowsAV → QC, evBuildSlice → QD, evBuild → QE, fillA → QF, splice → QG, evBuiltin → QH, guardD_bool → QI, dOp → QJ, cl → QK, vcLoad → QL, vcStore → QM, vcMake → QN, convA → QO, evIndexArr → QP, retA → QQ, ressA → QR, resA → QS, envOf → QT, condR_bool → QX, asgEnv → QY, parEnv → QZ, dstAt → XI, vcLook → XT, vcPut → XU, vcEnt → XV, vcESt → XW, vcMLen → XX, vcDel → XY, vcClear → XZ, vcLookD → Y0
open Go.Pa.AV renaming cell → Qz
open Go.Pa.Env renaming put → QU
open List renaming set_cons_zero → QV, set_cons_succ → QW, foldl_cons → X0, foldl_nil → X1, map_cons → X2, map_nil → X3, toList_toArray → X4, getElem?_cons_zero → X5, getElem?_cons_succ → X6, nil_append → Xa, append_nil → Xb, cons_append → Xc, singleton_append → Xd, length_cons → Xe, length_nil → Xf, all_cons → Xg, all_nil → Xh, take_succ_cons → Xi, take_zero → Xj, take_nil → Xk, drop_zero → Xl, drop_succ_cons → Xm, drop_nil → Xn, contains_nil → Xo, contains_cons → Xp
open Option renaming bind_some → X7, map_some → X8, map_none → X9
open Bool renaming or_false → Xq, false_or → Xr, or_true → Xs, true_or → Xt, false_eq_true → XC, not_true → XD, not_false → XE, and_true → XF, true_and → XG, and_self → XH
open Nat renaming reduceEqDiff → Xu, reduceAdd → Xv, reduceSub → Xw, reduceMul → Xx, reduceLT → Xy, reduceLeDiff → Xz, reduceBNe → XA, reduceBEq → XB, zero_add → XL, add_zero → XM
open UInt8 renaming reduceToNat → XJ
open Int renaming cast_ofNat_Int → XK, reduceToNat → XN, reduceLT → XO, reduceLE → XP, reduceNeg → XQ, reduceEq → XR, reduceNe → XS
set_option linter.unusedSimpArgs false
set_option linter.unusedVariables false
set_option maxRecDepth 20000
set_option maxHeartbeats 4000000

theorem rep_rows0 {G : Gh} {sz : Nat} {v : Value} (h : Rep G (.rows sz []) v) : ∃ ad cap, v = .slice ad 0 cap := by
  cases h with
  | rows0 _ a cap => exact ⟨a, cap, rfl⟩
  | rows _ _ b o cap f hc hs h hr => exact ⟨_, cap, rfl⟩

/-- Whether an empty slice is nil is not known. -/
theorem opj_nilR {P : Program} {N : Nat} {d : Option Tmp} {t t2 ty el : TypeId} {pos : String} {af : Array Edge} {gd : Option (Nat × Bool)} {x : Operand} {sz : Nat} {e : Env} {s : Store} {R : AV → Store → Prop}
    (ht : P.underlying t = some (.slice el)) (hx : evO e x = .rows sz []) (h : ∀ b, R (.bool b) s) : OpJ P N ⟨d, .binOp .eql t x (.const (.slice none 0 0)) t2, ty, pos, af, gd⟩ e s R := by
  refine .of_run fun G a w he hw => ?_
  have hr := rep_evO he x
  rw [hx] at hr
  obtain ⟨ad, cap, hv⟩ := rep_rows0 hr
  obtain ⟨b, hb⟩ := eq_nil ht ad cap w
  refine ⟨.bool b, w, .bool b, s, G, .inl ?_, .refl _, hw, .bool _, h b⟩
  have hg := run_eqGuard_plain (P := P) .eql t x (.const (.slice none 0 0)) (a := .slice ad 0 cap) (b := .slice none 0 0) ⟨fun _ => Value.noConfusion, Value.noConfusion⟩ w
  have hc : a.eval (.const (.slice none 0 0)) = .slice none 0 0 := rfl
  have hn : (binOp .eql t (.slice ad 0 cap) (.slice none 0 0)).run P w = .ok (.bool b) w := by simp only [binOp, Sem.run_bind, hb, Result.andThen_ok, Sem.run_pure]
  simp only [execOp, hv, hc, Sem.run_bind, hg, hn, Result.andThen_ok, Sem.run_pure]

abbrev esV (l : List Ent) : AV := .rows 6 (l.map entA)

theorem clone_buf (l : List Ent) (hl : l.length ≤ 1000000) (σ : Store) : ACalls Try.prog 35 [esV l] σ (fun r s => Ext σ s ∧ BufR s σ.length r 6 (l.map entA)) := by
  by_cases hne : l = []
  · subst hne
    refine acalls_of_awp (fn := Try.f35) Try.call35 Try.func35 rfl (by simp [Try.ntmps35]) ?_
    simp only [Try.ntmps35, Try.results35]
    refine awp_seq (awp_vc (by kernel_rfl) ?_)
    simp -implicitDefEqProofs only [seqA_normal,seqA_ret,seqA_exit,Q0,Q1,Q2,Q3,Q4,Q5,Q6,Q7,Q8,Q9,Qa,Qb,Qc,Qd,Qe,Qf,Qg,Qh,Qi,Qj,Qk,Ql,Qm,Qn,Qo,Qp,Qq,Qr,Qs,Qt,Qu,Qv,Qw,Qx,Qy,Qz,QA,QB,QC,QD,QE,QF,QG,QH,QI,QJ,QK,QL,QM,QN,QO,QP,QQ,QR,QS,QT,QU,QV,QW,QX,QY,QZ,X0,X1,X2,X3,X4,X5,X6,X7,X8,X9,Xa,Xb,Xc,Xd,Xe,Xf,Xg,Xh,Xi,Xj,Xk,Xl,Xm,Xn,Xo,Xp,Xq,Xr,Xs,Xt,Xu,Xv,Xw,Xx,Xy,Xz,XA,XB,reduceIte,reduceCtorEq,XC,XD,XE,XF,XG,XH,XI,XJ,XK,XL,XM,XN,XO,XP,XQ,XR,XS,XT,XU,XV,XW,XX,XY,XZ,Y0,Try.q4,Try.q29,Try.underlying37,Try.q37]
    refine awp_seq (awp_seq (awp_ops (by kernel_rfl) ?_))
    refine ⟨rfl, vcOp_sound ?_⟩
    simp -implicitDefEqProofs only [QU,Q0,Q1,Q2,Q3,Q4,Q5,Q6,Q7,Q8,Q9,Qa,Qb,Qc,Qd,Qe,Qf,Qg,Qh,Qi,Qj,Qk,Ql,Qm,Qn,Qo,Qp,Qq,Qr,Qs,Qt,Qu,Qv,Qw,Qx,Qy,Qz,QA,QB,QC,QD,QE,QF,QG,QH,QI,QJ,QK,QL,QM,QN,QO,QP,QQ,QR,QS,QT,QU,QV,QW,QX,QY,QZ,X0,X1,X2,X3,X4,X5,X6,X7,X8,X9,Xa,Xb,Xc,Xd,Xe,Xf,Xg,Xh,Xi,Xj,Xk,Xl,Xm,Xn,Xo,Xp,Xq,Xr,Xs,Xt,Xu,Xv,Xw,Xx,Xy,Xz,XA,XB,reduceIte,reduceCtorEq,XC,XD,XE,XF,XG,XH,XI,XJ,XK,XL,XM,XN,XO,XP,XQ,XR,XS,XT,XU,XV,XW,XX,XY,XZ,Y0,Try.q4,Try.q29,Try.underlying37,Try.q37]
    refine ⟨rfl, opj_nilR Try.underlying29 rfl fun b => ?_⟩
    show seqA _ _ _ _ .normal _ _
    rw [seqA_normal]
    cases b with
    | true =>
      refine awp_condT rfl ?_
      refine awp_vc (by kernel_rfl) ?_
      simp -implicitDefEqProofs only [seqA_ret,Q0,Q1,Q2,Q3,Q4,Q5,Q6,Q7,Q8,Q9,Qa,Qb,Qc,Qd,Qe,Qf,Qg,Qh,Qi,Qj,Qk,Ql,Qm,Qn,Qo,Qp,Qq,Qr,Qs,Qt,Qu,Qv,Qw,Qx,Qy,Qz,QA,QB,QC,QD,QE,QF,QG,QH,QI,QJ,QK,QL,QM,QN,QO,QP,QQ,QR,QS,QT,QU,QV,QW,QX,QY,QZ,X0,X1,X2,X3,X4,X5,X6,X7,X8,X9,Xa,Xb,Xc,Xd,Xe,Xf,Xg,Xh,Xi,Xj,Xk,Xl,Xm,Xn,Xo,Xp,Xq,Xr,Xs,Xt,Xu,Xv,Xw,Xx,Xy,Xz,XA,XB,reduceIte,reduceCtorEq,XC,XD,XE,XF,XG,XH,XI,XJ,XK,XL,XM,XN,XO,XP,XQ,XR,XS,XT,XU,XV,XW,XX,XY,XZ,Y0,Try.q4,Try.q29,Try.underlying37,Try.q37]
      exact ⟨.refl _, .inl ⟨.inl rfl, rfl⟩⟩
    | false =>
      refine awp_condF rfl ?_
      refine awp_vc (by kernel_rfl) ?_
      simp -implicitDefEqProofs only [seqA_normal,Q0,Q1,Q2,Q3,Q4,Q5,Q6,Q7,Q8,Q9,Qa,Qb,Qc,Qd,Qe,Qf,Qg,Qh,Qi,Qj,Qk,Ql,Qm,Qn,Qo,Qp,Qq,Qr,Qs,Qt,Qu,Qv,Qw,Qx,Qy,Qz,QA,QB,QC,QD,QE,QF,QG,QH,QI,QJ,QK,QL,QM,QN,QO,QP,QQ,QR,QS,QT,QU,QV,QW,QX,QY,QZ,X0,X1,X2,X3,X4,X5,X6,X7,X8,X9,Xa,Xb,Xc,Xd,Xe,Xf,Xg,Xh,Xi,Xj,Xk,Xl,Xm,Xn,Xo,Xp,Xq,Xr,Xs,Xt,Xu,Xv,Xw,Xx,Xy,Xz,XA,XB,reduceIte,reduceCtorEq,XC,XD,XE,XF,XG,XH,XI,XJ,XK,XL,XM,XN,XO,XP,XQ,XR,XS,XT,XU,XV,XW,XX,XY,XZ,Y0,Try.q4,Try.q29,Try.underlying37,Try.q37]
      refine awp_vc (by kernel_rfl) ?_
      simp -implicitDefEqProofs only [seqA_ret,Q0,Q1,Q2,Q3,Q4,Q5,Q6,Q7,Q8,Q9,Qa,Qb,Qc,Qd,Qe,Qf,Qg,Qh,Qi,Qj,Qk,Ql,Qm,Qn,Qo,Qp,Qq,Qr,Qs,Qt,Qu,Qv,Qw,Qx,Qy,Qz,QA,QB,QC,QD,QE,QF,QG,QH,QI,QJ,QK,QL,QM,QN,QO,QP,QQ,QR,QS,QT,QU,QV,QW,QX,QY,QZ,X0,X1,X2,X3,X4,X5,X6,X7,X8,X9,Xa,Xb,Xc,Xd,Xe,Xf,Xg,Xh,Xi,Xj,Xk,Xl,Xm,Xn,Xo,Xp,Xq,Xr,Xs,Xt,Xu,Xv,Xw,Xx,Xy,Xz,XA,XB,reduceIte,reduceCtorEq,XC,XD,XE,XF,XG,XH,XI,XJ,XK,XL,XM,XN,XO,XP,XQ,XR,XS,XT,XU,XV,XW,XX,XY,XZ,Y0,Try.q4,Try.q29,Try.underlying37,Try.q37]
      refine append_bufR (σ := σ) (l := []) Try.sl29 (by simp [Try.bt37]) (.refl _) (.inl ⟨.inr rfl, rfl⟩) rfl (entA_len _) (by simp [appFits, Try.bt37]) fun r2 s2 hx2 hb2 => ?_
      simp -implicitDefEqProofs only [seqA_ret,Q0,Q1,Q2,Q3,Q4,Q5,Q6,Q7,Q8,Q9,Qa,Qb,Qc,Qd,Qe,Qf,Qg,Qh,Qi,Qj,Qk,Ql,Qm,Qn,Qo,Qp,Qq,Qr,Qs,Qt,Qu,Qv,Qw,Qx,Qy,Qz,QA,QB,QC,QD,QE,QF,QG,QH,QI,QJ,QK,QL,QM,QN,QO,QP,QQ,QR,QS,QT,QU,QV,QW,QX,QY,QZ,X0,X1,X2,X3,X4,X5,X6,X7,X8,X9,Xa,Xb,Xc,Xd,Xe,Xf,Xg,Xh,Xi,Xj,Xk,Xl,Xm,Xn,Xo,Xp,Xq,Xr,Xs,Xt,Xu,Xv,Xw,Xx,Xy,Xz,XA,XB,reduceIte,reduceCtorEq,XC,XD,XE,XF,XG,XH,XI,XJ,XK,XL,XM,XN,XO,XP,XQ,XR,XS,XT,XU,XV,XW,XX,XY,XZ,Y0,Try.q4,Try.q29,Try.underlying37,Try.q37]
      exact ⟨hx2, hb2⟩
  · have hne2 : l.map entA ≠ [] := by simpa using hne
    refine acalls_of_vc (fn := Try.f35) Try.call35 Try.func35 rfl (by kernel_rfl) (by simp [Try.ntmps35]) ?_; simp -implicitDefEqProofs only [Try.ntmps35,Try.results35,Q0,Q1,Q2,Q3,Q4,Q5,Q6,Q7,Q8,Q9,Qa,Qb,Qc,Qd,Qe,Qf,Qg,Qh,Qi,Qj,Qk,Ql,Qm,Qn,Qo,Qp,Qq,Qr,Qs,Qt,Qu,Qv,Qw,Qx,Qy,Qz,QA,QB,QC,QD,QE,QF,QG,QH,QI,QJ,QK,QL,QM,QN,QO,QP,QQ,QR,QS,QT,QU,QV,QW,QX,QY,QZ,X0,X1,X2,X3,X4,X5,X6,X7,X8,X9,Xa,Xb,Xc,Xd,Xe,Xf,Xg,Xh,Xi,Xj,Xk,Xl,Xm,Xn,Xo,Xp,Xq,Xr,Xs,Xt,Xu,Xv,Xw,Xx,Xy,Xz,XA,XB,reduceIte,reduceCtorEq,XC,XD,XE,XF,XG,XH,XI,XJ,XK,XL,XM,XN,XO,XP,XQ,XR,XS,XT,XU,XV,XW,XX,XY,XZ,Y0,Try.q4,Try.q29,Try.underlying37,Try.q37]
    simp -implicitDefEqProofs only [hne2,Q0,Q1,Q2,Q3,Q4,Q5,Q6,Q7,Q8,Q9,Qa,Qb,Qc,Qd,Qe,Qf,Qg,Qh,Qi,Qj,Qk,Ql,Qm,Qn,Qo,Qp,Qq,Qr,Qs,Qt,Qu,Qv,Qw,Qx,Qy,Qz,QA,QB,QC,QD,QE,QF,QG,QH,QI,QJ,QK,QL,QM,QN,QO,QP,QQ,QR,QS,QT,QU,QV,QW,QX,QY,QZ,X0,X1,X2,X3,X4,X5,X6,X7,X8,X9,Xa,Xb,Xc,Xd,Xe,Xf,Xg,Xh,Xi,Xj,Xk,Xl,Xm,Xn,Xo,Xp,Xq,Xr,Xs,Xt,Xu,Xv,Xw,Xx,Xy,Xz,XA,XB,reduceIte,reduceCtorEq,XC,XD,XE,XF,XG,XH,XI,XJ,XK,XL,XM,XN,XO,XP,XQ,XR,XS,XT,XU,XV,XW,XX,XY,XZ,Y0,Try.q4,Try.q29,Try.underlying37,Try.q37]
    refine append_bufR (σ := σ) (l := []) Try.sl29 (by simp [Try.bt37]) (.refl _) (.inl ⟨.inr rfl, rfl⟩) rfl (entA_len _) (by simp [appFits, Try.bt37]; omega) fun r2 s2 hx2 hb2 => ?_
    simp -implicitDefEqProofs only [Q0,Q1,Q2,Q3,Q4,Q5,Q6,Q7,Q8,Q9,Qa,Qb,Qc,Qd,Qe,Qf,Qg,Qh,Qi,Qj,Qk,Ql,Qm,Qn,Qo,Qp,Qq,Qr,Qs,Qt,Qu,Qv,Qw,Qx,Qy,Qz,QA,QB,QC,QD,QE,QF,QG,QH,QI,QJ,QK,QL,QM,QN,QO,QP,QQ,QR,QS,QT,QU,QV,QW,QX,QY,QZ,X0,X1,X2,X3,X4,X5,X6,X7,X8,X9,Xa,Xb,Xc,Xd,Xe,Xf,Xg,Xh,Xi,Xj,Xk,Xl,Xm,Xn,Xo,Xp,Xq,Xr,Xs,Xt,Xu,Xv,Xw,Xx,Xy,Xz,XA,XB,reduceIte,reduceCtorEq,XC,XD,XE,XF,XG,XH,XI,XJ,XK,XL,XM,XN,XO,XP,XQ,XR,XS,XT,XU,XV,XW,XX,XY,XZ,Y0,Try.q4,Try.q29,Try.underlying37,Try.q37]
    exact ⟨hx2, hb2⟩

theorem bufR_val {σ s : Store} {r : AV} {l : List Ent} (h : BufR s σ.length r 6 (l.map entA)) : Frz s σ.length r (esV l) :=
  h.frz rfl (entA_len _) fun i x y hx hy => by
    rw [hx] at hy; cases hy
    have hm : x ∈ (l.map entA).flatten := List.mem_of_getElem? hx
    obtain ⟨row, hr, hx⟩ := List.mem_flatten.1 hm
    obtain ⟨e, _, rfl⟩ := List.mem_map.1 hr
    refine .same _ ?_
    simp only [entA, List.mem_cons, List.not_mem_nil, or_false] at hx
    rcases hx with rfl | rfl | rfl | rfl | rfl | rfl <;> rfl

theorem c_cloneE (l : List Ent) (hl : l.length ≤ 1000000) (σ : Store) : ACalls Try.prog 35 [esV l] σ (fun r s => r = esV l ∧ s = σ) :=
  ACalls.frozen ((clone_buf l hl σ).mono fun r s h => ⟨h.1, bufR_val h.2⟩)

theorem c_concat (a b : List Ent) (ha : a.length ≤ 100000) (hb : b.length ≤ 100000) (σ : Store) :
    ACalls Try.prog 48 [.rows 1 [[esV a], [esV b]]] σ (fun r s => r = esV (a ++ b) ∧ s = σ) := by
  refine ACalls.frozen (ACalls.mono (R := fun r s => Ext σ s ∧ BufR s σ.length r 6 ((a ++ b).map entA)) ?_ fun r s h => ⟨h.1, bufR_val h.2⟩)
  have la : (a.map entA).length = a.length := List.length_map _
  have lb : (b.map entA).length = b.length := List.length_map _
  have w0 : IntKind.i64.wrap (0 + (a.length : Int)) = (a.length : Int) := by rw [wrap_i64 (by omega) (by omega)]; omega
  have w1 : IntKind.i64.wrap ((a.length : Int) + (b.length : Int)) = ((a.length + b.length : Nat) : Int) := by rw [wrap_i64 (by omega) (by omega)]; rfl
  have n0 : decide ((a.length : Int) < 0) = false := decide_eq_false (by omega)
  have n1 : decide (((a.length + b.length : Nat) : Int) < 0) = false := decide_eq_false (by omega)
  have q0 : ([(0 : Int), a.length, ((a.length + b.length : Nat) : Int)].getD 0 0) = 0 := rfl
  have q1 : ([(0 : Int), a.length, ((a.length + b.length : Nat) : Int)].getD 1 0) = a.length := rfl
  have q2 : ([(0 : Int), a.length, ((a.length + b.length : Nat) : Int)].getD 2 0) = ((a.length + b.length : Nat) : Int) := rfl
  have i1 : IntKind.i64.wrap ((0 : Int) + 1) = 1 := rfl
  have i2 : IntKind.i64.wrap ((1 : Int) + 1) = 2 := rfl
  unfold esV
  obtain ⟨ea, hea⟩ : ∃ x, x = a.map entA := ⟨_, rfl⟩
  obtain ⟨eb, heb⟩ : ∃ x, x = b.map entA := ⟨_, rfl⟩
  have lea : ∀ r ∈ ea, r.length = 6 := by rw [hea]; exact entA_len _
  have leb : ∀ r ∈ eb, r.length = 6 := by rw [heb]; exact entA_len _
  rw [List.map_append]
  rw [← hea] at la ⊢
  rw [← heb] at lb ⊢
  have t0 : ([[AV.rows 6 ea], [AV.rows 6 eb]] : List (List AV)).getD 0 [] = [AV.rows 6 ea] := rfl
  have t1 : ([[AV.rows 6 ea], [AV.rows 6 eb]] : List (List AV)).getD 1 [] = [AV.rows 6 eb] := rfl
  refine acalls_of_vc (fn := Try.f48) Try.call48 Try.func48 rfl (by kernel_rfl) (by simp [Try.ntmps48]) ?_; simp -implicitDefEqProofs only [Try.ntmps48,Try.results48,Q0,Q1,Q2,Q3,Q4,Q5,Q6,Q7,Q8,Q9,Qa,Qb,Qc,Qd,Qe,Qf,Qg,Qh,Qi,Qj,Qk,Ql,Qm,Qn,Qo,Qp,Qq,Qr,Qs,Qt,Qu,Qv,Qw,Qx,Qy,Qz,QA,QB,QC,QD,QE,QF,QG,QH,QI,QJ,QK,QL,QM,QN,QO,QP,QQ,QR,QS,QT,QU,QV,QW,QX,QY,QZ,X0,X1,X2,X3,X4,X5,X6,X7,X8,X9,Xa,Xb,Xc,Xd,Xe,Xf,Xg,Xh,Xi,Xj,Xk,Xl,Xm,Xn,Xo,Xp,Xq,Xr,Xs,Xt,Xu,Xv,Xw,Xx,Xy,Xz,XA,XB,reduceIte,reduceCtorEq,XC,XD,XE,XF,XG,XH,XI,XJ,XK,XL,XM,XN,XO,XP,XQ,XR,XS,XT,XU,XV,XW,XX,XY,XZ,Y0,Try.q3,Try.q4,Try.q9,Try.underlying20,Try.q20,Try.q29,Try.underlying37,Try.q37,Try.q94]
  refine awp_loop (fun i : Nat => [(11, .int .i64 i), (10, .int .i64 2), (9, .rows 1 [[AV.rows 6 ea], [AV.rows 6 eb]]), (0, .rows 1 [[AV.rows 6 ea], [AV.rows 6 eb]]), (3, .int .i64 ([(0 : Int), a.length, ((a.length + b.length : Nat) : Int)].getD i 0))]) (fun i s => i ≤ 2 ∧ s = σ) (fun i => 2 - i) 0 (by kernel_rfl) (by simp [sub_cons, sub_nil, get_cons]) ⟨by omega, rfl⟩ ?_
  rintro i s ⟨hi, rfl⟩
  have h3 : i = 0 ∨ i = 1 ∨ i = 2 := by omega
  rcases h3 with rfl | rfl | rfl
  · simp -implicitDefEqProofs only [q0,t0,la,w0,n0,i1,Q0,Q1,Q2,Q3,Q4,Q5,Q6,Q7,Q8,Q9,Qa,Qb,Qc,Qd,Qe,Qf,Qg,Qh,Qi,Qj,Qk,Ql,Qm,Qn,Qo,Qp,Qq,Qr,Qs,Qt,Qu,Qv,Qw,Qx,Qy,Qz,QA,QB,QC,QD,QE,QF,QG,QH,QI,QJ,QK,QL,QM,QN,QO,QP,QQ,QR,QS,QT,QU,QV,QW,QX,QY,QZ,X0,X1,X2,X3,X4,X5,X6,X7,X8,X9,Xa,Xb,Xc,Xd,Xe,Xf,Xg,Xh,Xi,Xj,Xk,Xl,Xm,Xn,Xo,Xp,Xq,Xr,Xs,Xt,Xu,Xv,Xw,Xx,Xy,Xz,XA,XB,reduceIte,reduceCtorEq,XC,XD,XE,XF,XG,XH,XI,XJ,XK,XL,XM,XN,XO,XP,XQ,XR,XS,XT,XU,XV,XW,XX,XY,XZ,Y0,Try.q3,Try.q4,Try.q9,Try.underlying20,Try.q20,Try.q29,Try.underlying37,Try.q37,Try.q94]
    exact ⟨1, ⟨rfl, rfl⟩, by omega, by omega⟩
  · simp -implicitDefEqProofs only [q1,t1,lb,w1,n1,i2,Q0,Q1,Q2,Q3,Q4,Q5,Q6,Q7,Q8,Q9,Qa,Qb,Qc,Qd,Qe,Qf,Qg,Qh,Qi,Qj,Qk,Ql,Qm,Qn,Qo,Qp,Qq,Qr,Qs,Qt,Qu,Qv,Qw,Qx,Qy,Qz,QA,QB,QC,QD,QE,QF,QG,QH,QI,QJ,QK,QL,QM,QN,QO,QP,QQ,QR,QS,QT,QU,QV,QW,QX,QY,QZ,X0,X1,X2,X3,X4,X5,X6,X7,X8,X9,Xa,Xb,Xc,Xd,Xe,Xf,Xg,Xh,Xi,Xj,Xk,Xl,Xm,Xn,Xo,Xp,Xq,Xr,Xs,Xt,Xu,Xv,Xw,Xx,Xy,Xz,XA,XB,reduceIte,reduceCtorEq,XC,XD,XE,XF,XG,XH,XI,XJ,XK,XL,XM,XN,XO,XP,XQ,XR,XS,XT,XU,XV,XW,XX,XY,XZ,Y0,Try.q3,Try.q4,Try.q9,Try.underlying20,Try.q20,Try.q29,Try.underlying37,Try.q37,Try.q94]
    exact ⟨2, ⟨rfl, rfl⟩, by omega, by omega⟩
  · simp -implicitDefEqProofs only [q2,Q0,Q1,Q2,Q3,Q4,Q5,Q6,Q7,Q8,Q9,Qa,Qb,Qc,Qd,Qe,Qf,Qg,Qh,Qi,Qj,Qk,Ql,Qm,Qn,Qo,Qp,Qq,Qr,Qs,Qt,Qu,Qv,Qw,Qx,Qy,Qz,QA,QB,QC,QD,QE,QF,QG,QH,QI,QJ,QK,QL,QM,QN,QO,QP,QQ,QR,QS,QT,QU,QV,QW,QX,QY,QZ,X0,X1,X2,X3,X4,X5,X6,X7,X8,X9,Xa,Xb,Xc,Xd,Xe,Xf,Xg,Xh,Xi,Xj,Xk,Xl,Xm,Xn,Xo,Xp,Xq,Xr,Xs,Xt,Xu,Xv,Xw,Xx,Xy,Xz,XA,XB,reduceIte,reduceCtorEq,XC,XD,XE,XF,XG,XH,XI,XJ,XK,XL,XM,XN,XO,XP,XQ,XR,XS,XT,XU,XV,XW,XX,XY,XZ,Y0,Try.q3,Try.q4,Try.q9,Try.underlying20,Try.q20,Try.q29,Try.underlying37,Try.q37,Try.q94]
    refine ACalls.mono (c_grow (a.length + b.length) (by omega) s) ?_
    rintro r s2 ⟨hx, hbuf⟩
    simp -implicitDefEqProofs only [Q0,Q1,Q2,Q3,Q4,Q5,Q6,Q7,Q8,Q9,Qa,Qb,Qc,Qd,Qe,Qf,Qg,Qh,Qi,Qj,Qk,Ql,Qm,Qn,Qo,Qp,Qq,Qr,Qs,Qt,Qu,Qv,Qw,Qx,Qy,Qz,QA,QB,QC,QD,QE,QF,QG,QH,QI,QJ,QK,QL,QM,QN,QO,QP,QQ,QR,QS,QT,QU,QV,QW,QX,QY,QZ,X0,X1,X2,X3,X4,X5,X6,X7,X8,X9,Xa,Xb,Xc,Xd,Xe,Xf,Xg,Xh,Xi,Xj,Xk,Xl,Xm,Xn,Xo,Xp,Xq,Xr,Xs,Xt,Xu,Xv,Xw,Xx,Xy,Xz,XA,XB,reduceIte,reduceCtorEq,XC,XD,XE,XF,XG,XH,XI,XJ,XK,XL,XM,XN,XO,XP,XQ,XR,XS,XT,XU,XV,XW,XX,XY,XZ,Y0,Try.q3,Try.q4,Try.q9,Try.underlying20,Try.q20,Try.q29,Try.underlying37,Try.q37,Try.q94]
    refine awp_loop (fun z : Nat × AV => [(27, .int .i64 z.1), (26, .int .i64 2), (25, .rows 1 [[AV.rows 6 ea], [AV.rows 6 eb]]), (6, z.2)]) (fun z s' => z.1 ≤ 2 ∧ Ext s s' ∧ BufR s' s.length z.2 6 ([[], ea, ea ++ eb].getD z.1 [])) (fun z => 2 - z.1) (0, r) (by kernel_rfl) (by simp [sub_cons, sub_nil, get_cons]) ⟨by simp, hx, hbuf⟩ ?_
    clear hx hbuf
    rintro ⟨i, r⟩ s1 ⟨hi, hx, hbuf⟩
    simp only at hi hbuf
    have h3 : i = 0 ∨ i = 1 ∨ i = 2 := by omega
    rcases h3 with rfl | rfl | rfl
    · simp -implicitDefEqProofs only [t0,Q0,Q1,Q2,Q3,Q4,Q5,Q6,Q7,Q8,Q9,Qa,Qb,Qc,Qd,Qe,Qf,Qg,Qh,Qi,Qj,Qk,Ql,Qm,Qn,Qo,Qp,Qq,Qr,Qs,Qt,Qu,Qv,Qw,Qx,Qy,Qz,QA,QB,QC,QD,QE,QF,QG,QH,QI,QJ,QK,QL,QM,QN,QO,QP,QQ,QR,QS,QT,QU,QV,QW,QX,QY,QZ,X0,X1,X2,X3,X4,X5,X6,X7,X8,X9,Xa,Xb,Xc,Xd,Xe,Xf,Xg,Xh,Xi,Xj,Xk,Xl,Xm,Xn,Xo,Xp,Xq,Xr,Xs,Xt,Xu,Xv,Xw,Xx,Xy,Xz,XA,XB,reduceIte,reduceCtorEq,XC,XD,XE,XF,XG,XH,XI,XJ,XK,XL,XM,XN,XO,XP,XQ,XR,XS,XT,XU,XV,XW,XX,XY,XZ,Y0,Try.q3,Try.q4,Try.q9,Try.underlying20,Try.q20,Try.q29,Try.underlying37,Try.q37,Try.q94]
      refine append_bufR Try.sl29 (by simp [Try.bt37]) (y := AV.rows 6 ea) (l := []) (l' := ea) hx hbuf rfl lea (by simp [appFits, Try.bt37]; omega) fun r2 s2 hx2 hb2 => ?_
      simp -implicitDefEqProofs only [i1,Q0,Q1,Q2,Q3,Q4,Q5,Q6,Q7,Q8,Q9,Qa,Qb,Qc,Qd,Qe,Qf,Qg,Qh,Qi,Qj,Qk,Ql,Qm,Qn,Qo,Qp,Qq,Qr,Qs,Qt,Qu,Qv,Qw,Qx,Qy,Qz,QA,QB,QC,QD,QE,QF,QG,QH,QI,QJ,QK,QL,QM,QN,QO,QP,QQ,QR,QS,QT,QU,QV,QW,QX,QY,QZ,X0,X1,X2,X3,X4,X5,X6,X7,X8,X9,Xa,Xb,Xc,Xd,Xe,Xf,Xg,Xh,Xi,Xj,Xk,Xl,Xm,Xn,Xo,Xp,Xq,Xr,Xs,Xt,Xu,Xv,Xw,Xx,Xy,Xz,XA,XB,reduceIte,reduceCtorEq,XC,XD,XE,XF,XG,XH,XI,XJ,XK,XL,XM,XN,XO,XP,XQ,XR,XS,XT,XU,XV,XW,XX,XY,XZ,Y0,Try.q3,Try.q4,Try.q9,Try.underlying20,Try.q20,Try.q29,Try.underlying37,Try.q37,Try.q94]
      exact ⟨(1, r2), ⟨rfl, rfl⟩, ⟨by simp, hx2, hb2⟩, by simp⟩
    · simp -implicitDefEqProofs only [t1,Q0,Q1,Q2,Q3,Q4,Q5,Q6,Q7,Q8,Q9,Qa,Qb,Qc,Qd,Qe,Qf,Qg,Qh,Qi,Qj,Qk,Ql,Qm,Qn,Qo,Qp,Qq,Qr,Qs,Qt,Qu,Qv,Qw,Qx,Qy,Qz,QA,QB,QC,QD,QE,QF,QG,QH,QI,QJ,QK,QL,QM,QN,QO,QP,QQ,QR,QS,QT,QU,QV,QW,QX,QY,QZ,X0,X1,X2,X3,X4,X5,X6,X7,X8,X9,Xa,Xb,Xc,Xd,Xe,Xf,Xg,Xh,Xi,Xj,Xk,Xl,Xm,Xn,Xo,Xp,Xq,Xr,Xs,Xt,Xu,Xv,Xw,Xx,Xy,Xz,XA,XB,reduceIte,reduceCtorEq,XC,XD,XE,XF,XG,XH,XI,XJ,XK,XL,XM,XN,XO,XP,XQ,XR,XS,XT,XU,XV,XW,XX,XY,XZ,Y0,Try.q3,Try.q4,Try.q9,Try.underlying20,Try.q20,Try.q29,Try.underlying37,Try.q37,Try.q94]
      refine append_bufR Try.sl29 (by simp [Try.bt37]) (y := AV.rows 6 eb) (l := ea) (l' := eb) hx hbuf rfl leb (by simp [appFits, Try.bt37]; omega) fun r2 s2 hx2 hb2 => ?_
      skip
      simp -implicitDefEqProofs only [i2,Q0,Q1,Q2,Q3,Q4,Q5,Q6,Q7,Q8,Q9,Qa,Qb,Qc,Qd,Qe,Qf,Qg,Qh,Qi,Qj,Qk,Ql,Qm,Qn,Qo,Qp,Qq,Qr,Qs,Qt,Qu,Qv,Qw,Qx,Qy,Qz,QA,QB,QC,QD,QE,QF,QG,QH,QI,QJ,QK,QL,QM,QN,QO,QP,QQ,QR,QS,QT,QU,QV,QW,QX,QY,QZ,X0,X1,X2,X3,X4,X5,X6,X7,X8,X9,Xa,Xb,Xc,Xd,Xe,Xf,Xg,Xh,Xi,Xj,Xk,Xl,Xm,Xn,Xo,Xp,Xq,Xr,Xs,Xt,Xu,Xv,Xw,Xx,Xy,Xz,XA,XB,reduceIte,reduceCtorEq,XC,XD,XE,XF,XG,XH,XI,XJ,XK,XL,XM,XN,XO,XP,XQ,XR,XS,XT,XU,XV,XW,XX,XY,XZ,Y0,Try.q3,Try.q4,Try.q9,Try.underlying20,Try.q20,Try.q29,Try.underlying37,Try.q37,Try.q94]
      exact ⟨(2, r2), ⟨rfl, rfl⟩, ⟨by simp, hx2, hb2⟩, by simp⟩
    · simp -implicitDefEqProofs only [Q0,Q1,Q2,Q3,Q4,Q5,Q6,Q7,Q8,Q9,Qa,Qb,Qc,Qd,Qe,Qf,Qg,Qh,Qi,Qj,Qk,Ql,Qm,Qn,Qo,Qp,Qq,Qr,Qs,Qt,Qu,Qv,Qw,Qx,Qy,Qz,QA,QB,QC,QD,QE,QF,QG,QH,QI,QJ,QK,QL,QM,QN,QO,QP,QQ,QR,QS,QT,QU,QV,QW,QX,QY,QZ,X0,X1,X2,X3,X4,X5,X6,X7,X8,X9,Xa,Xb,Xc,Xd,Xe,Xf,Xg,Xh,Xi,Xj,Xk,Xl,Xm,Xn,Xo,Xp,Xq,Xr,Xs,Xt,Xu,Xv,Xw,Xx,Xy,Xz,XA,XB,reduceIte,reduceCtorEq,XC,XD,XE,XF,XG,XH,XI,XJ,XK,XL,XM,XN,XO,XP,XQ,XR,XS,XT,XU,XV,XW,XX,XY,XZ,Y0,Try.q3,Try.q4,Try.q9,Try.underlying20,Try.q20,Try.q29,Try.underlying37,Try.q37,Try.q94]
      exact ⟨hx, hbuf⟩

end Go.Proofs
