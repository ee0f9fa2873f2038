/-
  The Reader of package wire: lists, texts; a new Reader.
-/
import Derived.Test.YteejpckkgepecaaWf
namespace Go.Proofs
open Go.Pa
open Go.Pa renaming VB0 → Q0, VB1 → Q1, VB2 → Q2, VB3 → Q3, VB4 → Q4, VB5 → Q5, VB6 → Q6, VB7 → Q7, VB8 → Q8, VB9 → Q9, condV_bool → Qa, guardV_bool → Qb, vcS → Qc, evA → Qd, evBin → Qe, nilA → Qf, nilOf → Qg, intOp → Qh, strOp → Qi, evUn → Qj, evConv → Qk, evField → Ql, evFieldAddr → Qm, evIndexAddr → Qn, evIndex → Qo, evIndexA → Qp, bnd → Qq, evSlice → Qr, evLen → Qs, evPick → Qt, evExtract → Qu, evNilCheck → Qv, evMin → Qw, evMax → Qx, evLoadI → Qy, partsOne → QA, intsOf → QB, rowsAV → QC, evBuildSlice → QD, evBuild → QE, fillA → QF, splice → QG, evBuiltin → QH, guardD_bool → QI, dOp → QJ, cl → QK, vcLoad → QL, vcStore → QM, vcMake → QN, convA → QO, evIndexArr → QP, retA → QQ, ressA → QR, resA → QS, envOf → QT, condR_bool → QX, asgEnv → QY, parEnv → QZ, dstAt → XI, vcLook → XT, vcPut → XU, vcEnt → XV, vcESt → XW, vcMLen → XX, vcDel → XY, vcClear → XZ, vcLookD → Y0
open Go.Pa.AV renaming cell → Qz
open Go.Pa.Env renaming put → QU
open List renaming set_cons_zero → QV, set_cons_succ → QW, foldl_cons → X0, foldl_nil → X1, map_cons → X2, map_nil → X3, toList_toArray → X4, getElem?_cons_zero → X5, getElem?_cons_succ → X6, nil_append → Xa, append_nil → Xb, cons_append → Xc, singleton_append → Xd, length_cons → Xe, length_nil → Xf, all_cons → Xg, all_nil → Xh, take_succ_cons → Xi, take_zero → Xj, take_nil → Xk, drop_zero → Xl, drop_succ_cons → Xm, drop_nil → Xn, contains_nil → Xo, contains_cons → Xp
open Option renaming bind_some → X7, map_some → X8, map_none → X9
open Bool renaming or_false → Xq, false_or → Xr, or_true → Xs, true_or → Xt, false_eq_true → XC, not_true → XD, not_false → XE, and_true → XF, true_and → XG, and_self → XH
open Nat renaming reduceEqDiff → Xu, reduceAdd → Xv, reduceSub → Xw, reduceMul → Xx, reduceLT → Xy, reduceLeDiff → Xz, reduceBNe → XA, reduceBEq → XB, zero_add → XL, add_zero → XM
open UInt8 renaming reduceToNat → XJ
open Int renaming cast_ofNat_Int → XK, reduceToNat → XN, reduceLT → XO, reduceLE → XP, reduceNeg → XQ, reduceEq → XR, reduceNe → XS
set_option linter.unusedSimpArgs false
set_option maxRecDepth 20000
set_option maxHeartbeats 2000000

theorem manyT_er (k : Nat) (acc : List Int) (e : Int) : manyT k acc (.er e) = ([], .er e) := by cases k <;> rfl

theorem manyT_step (k : Nat) (acc l : List Int) : manyT (k + 1) acc (.ok l) = manyT k (acc ++ [(intT (.ok l)).1]) (intT (.ok l)).2 := by
  show (match intT (.ok l) with | (x, .ok l') => manyT k (acc ++ [x]) (.ok l') | (_, .er e) => ([], .er e)) = _
  cases hq : intT (.ok l) with
  | mk x st =>
  cases st with
  | ok l' => rfl
  | er e => simp only; rw [manyT_er]

theorem rd_listI (st : St) {s : Store} {id : Nat} {o : AObj} (h : s[id]? = some o) (ho : RdO st o) :
    ACalls Try.prog 72 [.ptr id 0, .fn 36 [.ptr id 0] []] s (RdC s id (.ints .i64 (intsT st).1) (intsT st).2) := by
  have hid := (List.getElem?_eq_some_iff.1 h).1
  have hnl := uintT_lt ho
  obtain ⟨T, hT⟩ : ∃ T, T = intsT st := ⟨_, rfl⟩
  rw [← hT]
  refine ACalls.frozen1 id ?_
  refine acalls_of_vc (fn := Try.f72) Try.call72 Try.func72 rfl (by kernel_rfl) (by simp [Try.ntmps72]) ?_; simp -implicitDefEqProofs only [Try.ntmps72,Try.results72,Q0,Q1,Q2,Q3,Q4,Q5,Q6,Q7,Q8,Q9,Qa,Qb,Qc,Qd,Qe,Qf,Qg,Qh,Qi,Qj,Qk,Ql,Qm,Qn,Qo,Qp,Qq,Qr,Qs,Qt,Qu,Qv,Qw,Qx,Qy,Qz,QA,QB,QC,QD,QE,QF,QG,QH,QI,QJ,QK,QL,QM,QN,QO,QP,QQ,QR,QS,QT,QU,QV,QW,QX,QY,QZ,X0,X1,X2,X3,X4,X5,X6,X7,X8,X9,Xa,Xb,Xc,Xd,Xe,Xf,Xg,Xh,Xi,Xj,Xk,Xl,Xm,Xn,Xo,Xp,Xq,Xr,Xs,Xt,Xu,Xv,Xw,Xx,Xy,Xz,XA,XB,reduceIte,reduceCtorEq,XC,XD,XE,XF,XG,XH,XI,XJ,XK,XL,XM,XN,XO,XP,XQ,XR,XS,XT,XU,XV,XW,XX,XY,XZ,Y0,Try.q3,Try.q4,Try.q5,Try.q22,Try.q26,Try.underlying45,Try.q45,Try.q52,Try.q55,Try.underlying83,Try.q83,Try.q87]
  refine ACalls.mono (rd_uint' st h ho) ?_
  rintro _ _ ⟨rfl, o1, rfl, ho1⟩
  unfold intsT at hT
  cases hq : uintT st with
  | mk n st1 =>
  rw [hq] at ho1 hnl hT
  simp only at ho1 hnl hT
  cases st1 with
  | er e =>
    have hn0 : n = 0 := by
      cases st with
      | ok l => exact (uintM_er 10 0 0 l n e hq).1
      | er e' => simp [uintT] at hq; exact hq.1.symm
    have hre := ho1
    obtain ⟨h0, l, hl, rfl⟩ := ho1
    have hh : (s.set id (rdO l e))[id]? = some (.box [.ints .u8 l, .int .i64 e]) := sto_here h
    have w1 : IntKind.u64.wrap (l.length : Int) = (l.length : Int) := wrap_u64 (by omega) (by omega)
    have d1 : decide ((l.length : Int) < (n : Int)) = false := decide_eq_false (by omega)
    have d2 : decide ((0 : Int) < (n : Int)) = false := decide_eq_false (by omega)
    have d3 : decide (e = 0) = false := decide_eq_false h0
    simp -implicitDefEqProofs only [hh,w1,d1,Q0,Q1,Q2,Q3,Q4,Q5,Q6,Q7,Q8,Q9,Qa,Qb,Qc,Qd,Qe,Qf,Qg,Qh,Qi,Qj,Qk,Ql,Qm,Qn,Qo,Qp,Qq,Qr,Qs,Qt,Qu,Qv,Qw,Qx,Qy,Qz,QA,QB,QC,QD,QE,QF,QG,QH,QI,QJ,QK,QL,QM,QN,QO,QP,QQ,QR,QS,QT,QU,QV,QW,QX,QY,QZ,X0,X1,X2,X3,X4,X5,X6,X7,X8,X9,Xa,Xb,Xc,Xd,Xe,Xf,Xg,Xh,Xi,Xj,Xk,Xl,Xm,Xn,Xo,Xp,Xq,Xr,Xs,Xt,Xu,Xv,Xw,Xx,Xy,Xz,XA,XB,reduceIte,reduceCtorEq,XC,XD,XE,XF,XG,XH,XI,XJ,XK,XL,XM,XN,XO,XP,XQ,XR,XS,XT,XU,XV,XW,XX,XY,XZ,Y0,Try.q3,Try.q4,Try.q5,Try.q22,Try.q26,Try.underlying45,Try.q45,Try.q52,Try.q55,Try.underlying83,Try.q83,Try.q87]
    refine awp_loop (fun _ : Unit => [(7, .int .u64 0), (5, .int .u64 n), (6, .nils), (0, .ptr id 0)]) (fun _ s' => s' = s.set id (rdO l e)) (fun _ => 0) () (by kernel_rfl) (by simp [sub_cons, sub_nil, get_cons]) rfl ?_
    rintro _ _ rfl
    replace hT : T = ([], .er e) := hT
    subst hT
    simp -implicitDefEqProofs only [hh,d2,d3,Q0,Q1,Q2,Q3,Q4,Q5,Q6,Q7,Q8,Q9,Qa,Qb,Qc,Qd,Qe,Qf,Qg,Qh,Qi,Qj,Qk,Ql,Qm,Qn,Qo,Qp,Qq,Qr,Qs,Qt,Qu,Qv,Qw,Qx,Qy,Qz,QA,QB,QC,QD,QE,QF,QG,QH,QI,QJ,QK,QL,QM,QN,QO,QP,QQ,QR,QS,QT,QU,QV,QW,QX,QY,QZ,X0,X1,X2,X3,X4,X5,X6,X7,X8,X9,Xa,Xb,Xc,Xd,Xe,Xf,Xg,Xh,Xi,Xj,Xk,Xl,Xm,Xn,Xo,Xp,Xq,Xr,Xs,Xt,Xu,Xv,Xw,Xx,Xy,Xz,XA,XB,reduceIte,reduceCtorEq,XC,XD,XE,XF,XG,XH,XI,XJ,XK,XL,XM,XN,XO,XP,XQ,XR,XS,XT,XU,XV,XW,XX,XY,XZ,Y0,Try.q3,Try.q4,Try.q5,Try.q22,Try.q26,Try.underlying45,Try.q45,Try.q52,Try.q55,Try.underlying83,Try.q83,Try.q87]
    exact ⟨rdO l e, hid, hre.lt _, .refl _, _, .nilI .i64, rfl, _, rfl, hre⟩
  | ok l1 =>
    have hre := ho1
    obtain ⟨rfl, hl1, hu1⟩ := ho1
    have hh : (s.set id (rdO l1 0))[id]? = some (.box [.ints .u8 l1, .int .i64 0]) := sto_here h
    have w1 : IntKind.u64.wrap (l1.length : Int) = (l1.length : Int) := wrap_u64 (by omega) (by omega)
    by_cases hlt : l1.length < n
    · replace hT : T = (if l1.length < n then ([], .er 3) else manyT n [] (.ok l1)) := hT
      rw [if_pos hlt] at hT
      subst hT
      have d1 : decide ((l1.length : Int) < (n : Int)) = true := decide_eq_true (by omega)
      have d2 : decide ((0 : Int) < (n : Int)) = true := decide_eq_true (by omega)
      have d3 : decide ((3 : Int) = 0) = false := rfl
      simp -implicitDefEqProofs only [hh,w1,d1,Q0,Q1,Q2,Q3,Q4,Q5,Q6,Q7,Q8,Q9,Qa,Qb,Qc,Qd,Qe,Qf,Qg,Qh,Qi,Qj,Qk,Ql,Qm,Qn,Qo,Qp,Qq,Qr,Qs,Qt,Qu,Qv,Qw,Qx,Qy,Qz,QA,QB,QC,QD,QE,QF,QG,QH,QI,QJ,QK,QL,QM,QN,QO,QP,QQ,QR,QS,QT,QU,QV,QW,QX,QY,QZ,X0,X1,X2,X3,X4,X5,X6,X7,X8,X9,Xa,Xb,Xc,Xd,Xe,Xf,Xg,Xh,Xi,Xj,Xk,Xl,Xm,Xn,Xo,Xp,Xq,Xr,Xs,Xt,Xu,Xv,Xw,Xx,Xy,Xz,XA,XB,reduceIte,reduceCtorEq,XC,XD,XE,XF,XG,XH,XI,XJ,XK,XL,XM,XN,XO,XP,XQ,XR,XS,XT,XU,XV,XW,XX,XY,XZ,Y0,Try.q3,Try.q4,Try.q5,Try.q22,Try.q26,Try.underlying45,Try.q45,Try.q52,Try.q55,Try.underlying83,Try.q83,Try.q87]
      refine ACalls.mono (rd_fail' 3 (by omega) (.ok l1) (sto_here h) hre) ?_
      rintro _ _ ⟨rfl, o2, rfl, ho2⟩
      have hre2 := ho2
      obtain ⟨_, l, hl, rfl⟩ := ho2
      rw [List.set_set]
      have hh2 : (s.set id (rdO l 3))[id]? = some (.box [.ints .u8 l, .int .i64 3]) := sto_here h
      simp -implicitDefEqProofs only [Q0,Q1,Q2,Q3,Q4,Q5,Q6,Q7,Q8,Q9,Qa,Qb,Qc,Qd,Qe,Qf,Qg,Qh,Qi,Qj,Qk,Ql,Qm,Qn,Qo,Qp,Qq,Qr,Qs,Qt,Qu,Qv,Qw,Qx,Qy,Qz,QA,QB,QC,QD,QE,QF,QG,QH,QI,QJ,QK,QL,QM,QN,QO,QP,QQ,QR,QS,QT,QU,QV,QW,QX,QY,QZ,X0,X1,X2,X3,X4,X5,X6,X7,X8,X9,Xa,Xb,Xc,Xd,Xe,Xf,Xg,Xh,Xi,Xj,Xk,Xl,Xm,Xn,Xo,Xp,Xq,Xr,Xs,Xt,Xu,Xv,Xw,Xx,Xy,Xz,XA,XB,reduceIte,reduceCtorEq,XC,XD,XE,XF,XG,XH,XI,XJ,XK,XL,XM,XN,XO,XP,XQ,XR,XS,XT,XU,XV,XW,XX,XY,XZ,Y0,Try.q3,Try.q4,Try.q5,Try.q22,Try.q26,Try.underlying45,Try.q45,Try.q52,Try.q55,Try.underlying83,Try.q83,Try.q87]
      refine awp_loop (fun _ : Unit => [(7, .int .u64 0), (5, .int .u64 n), (6, .nils), (0, .ptr id 0)]) (fun _ s' => s' = s.set id (rdO l 3)) (fun _ => 0) () (by kernel_rfl) (by simp [sub_cons, sub_nil, get_cons]) rfl ?_
      rintro _ _ rfl
      simp -implicitDefEqProofs only [hh2,d2,d3,Q0,Q1,Q2,Q3,Q4,Q5,Q6,Q7,Q8,Q9,Qa,Qb,Qc,Qd,Qe,Qf,Qg,Qh,Qi,Qj,Qk,Ql,Qm,Qn,Qo,Qp,Qq,Qr,Qs,Qt,Qu,Qv,Qw,Qx,Qy,Qz,QA,QB,QC,QD,QE,QF,QG,QH,QI,QJ,QK,QL,QM,QN,QO,QP,QQ,QR,QS,QT,QU,QV,QW,QX,QY,QZ,X0,X1,X2,X3,X4,X5,X6,X7,X8,X9,Xa,Xb,Xc,Xd,Xe,Xf,Xg,Xh,Xi,Xj,Xk,Xl,Xm,Xn,Xo,Xp,Xq,Xr,Xs,Xt,Xu,Xv,Xw,Xx,Xy,Xz,XA,XB,reduceIte,reduceCtorEq,XC,XD,XE,XF,XG,XH,XI,XJ,XK,XL,XM,XN,XO,XP,XQ,XR,XS,XT,XU,XV,XW,XX,XY,XZ,Y0,Try.q3,Try.q4,Try.q5,Try.q22,Try.q26,Try.underlying45,Try.q45,Try.q52,Try.q55,Try.underlying83,Try.q83,Try.q87]
      exact ⟨rdO l 3, hid, hre2.lt _, .refl _, _, .nilI .i64, rfl, _, rfl, hre2⟩
    · replace hT : T = (if l1.length < n then ([], .er 3) else manyT n [] (.ok l1)) := hT
      rw [if_neg hlt] at hT
      have d1 : decide ((l1.length : Int) < (n : Int)) = false := decide_eq_false (by omega)
      have d3 : decide ((0 : Int) = 0) = true := rfl
      simp -implicitDefEqProofs only [hh,w1,d1,Q0,Q1,Q2,Q3,Q4,Q5,Q6,Q7,Q8,Q9,Qa,Qb,Qc,Qd,Qe,Qf,Qg,Qh,Qi,Qj,Qk,Ql,Qm,Qn,Qo,Qp,Qq,Qr,Qs,Qt,Qu,Qv,Qw,Qx,Qy,Qz,QA,QB,QC,QD,QE,QF,QG,QH,QI,QJ,QK,QL,QM,QN,QO,QP,QQ,QR,QS,QT,QU,QV,QW,QX,QY,QZ,X0,X1,X2,X3,X4,X5,X6,X7,X8,X9,Xa,Xb,Xc,Xd,Xe,Xf,Xg,Xh,Xi,Xj,Xk,Xl,Xm,Xn,Xo,Xp,Xq,Xr,Xs,Xt,Xu,Xv,Xw,Xx,Xy,Xz,XA,XB,reduceIte,reduceCtorEq,XC,XD,XE,XF,XG,XH,XI,XJ,XK,XL,XM,XN,XO,XP,XQ,XR,XS,XT,XU,XV,XW,XX,XY,XZ,Y0,Try.q3,Try.q4,Try.q5,Try.q22,Try.q26,Try.underlying45,Try.q45,Try.q52,Try.q55,Try.underlying83,Try.q83,Try.q87]
      refine awp_loop (fun p : Nat × AV × St × List Int => [(7, .int .u64 p.1), (5, .int .u64 n), (6, p.2.1), (0, .ptr id 0), (1, .fn 36 [.ptr id 0] [])])
        (fun p s' => p.1 ≤ n ∧ ∃ o2, Ext (s.set id o2) s' ∧ RdO p.2.2.1 o2 ∧ BufI s' s.length p.2.1 .i64 p.2.2.2 ∧ p.2.2.2.length ≤ p.1 ∧ T = manyT (n - p.1) p.2.2.2 p.2.2.1) (fun p => n - p.1) (0, .nils, .ok l1, []) (by kernel_rfl) (by simp [sub_cons, sub_nil, get_cons])
        ⟨by simp only; omega, _, .refl _, hre, .inl ⟨.inl rfl, rfl⟩, by simp, by simpa using hT⟩ ?_
      rintro ⟨i, r, st2, acc⟩ s1 ⟨hi, o2, hx, ho2, hb, hal, hT2⟩
      simp only at hi ho2 hb hal hT2
      cases st2 with
      | er e =>
        have hre2 := ho2
        obtain ⟨h0, l, hl, rfl⟩ := ho2
        have g1 : s1[id]? = some (.box [.ints .u8 l, .int .i64 e]) := hx.at hid
        have d4 : decide (e = 0) = false := decide_eq_false h0
        rw [manyT_er] at hT2
        subst hT2
        by_cases hin : i < n
        · have d2 : decide ((i : Int) < (n : Int)) = true := decide_eq_true (by omega)
          simp -implicitDefEqProofs only [g1,d2,d4,Q0,Q1,Q2,Q3,Q4,Q5,Q6,Q7,Q8,Q9,Qa,Qb,Qc,Qd,Qe,Qf,Qg,Qh,Qi,Qj,Qk,Ql,Qm,Qn,Qo,Qp,Qq,Qr,Qs,Qt,Qu,Qv,Qw,Qx,Qy,Qz,QA,QB,QC,QD,QE,QF,QG,QH,QI,QJ,QK,QL,QM,QN,QO,QP,QQ,QR,QS,QT,QU,QV,QW,QX,QY,QZ,X0,X1,X2,X3,X4,X5,X6,X7,X8,X9,Xa,Xb,Xc,Xd,Xe,Xf,Xg,Xh,Xi,Xj,Xk,Xl,Xm,Xn,Xo,Xp,Xq,Xr,Xs,Xt,Xu,Xv,Xw,Xx,Xy,Xz,XA,XB,reduceIte,reduceCtorEq,XC,XD,XE,XF,XG,XH,XI,XJ,XK,XL,XM,XN,XO,XP,XQ,XR,XS,XT,XU,XV,XW,XX,XY,XZ,Y0,Try.q3,Try.q4,Try.q5,Try.q22,Try.q26,Try.underlying45,Try.q45,Try.q52,Try.q55,Try.underlying83,Try.q83,Try.q87]
          exact ⟨_, hid, hre2.lt _, hx, _, .nilI .i64, rfl, _, rfl, hre2⟩
        · have d2 : decide ((i : Int) < (n : Int)) = false := decide_eq_false (by omega)
          simp -implicitDefEqProofs only [g1,d2,d4,Q0,Q1,Q2,Q3,Q4,Q5,Q6,Q7,Q8,Q9,Qa,Qb,Qc,Qd,Qe,Qf,Qg,Qh,Qi,Qj,Qk,Ql,Qm,Qn,Qo,Qp,Qq,Qr,Qs,Qt,Qu,Qv,Qw,Qx,Qy,Qz,QA,QB,QC,QD,QE,QF,QG,QH,QI,QJ,QK,QL,QM,QN,QO,QP,QQ,QR,QS,QT,QU,QV,QW,QX,QY,QZ,X0,X1,X2,X3,X4,X5,X6,X7,X8,X9,Xa,Xb,Xc,Xd,Xe,Xf,Xg,Xh,Xi,Xj,Xk,Xl,Xm,Xn,Xo,Xp,Xq,Xr,Xs,Xt,Xu,Xv,Xw,Xx,Xy,Xz,XA,XB,reduceIte,reduceCtorEq,XC,XD,XE,XF,XG,XH,XI,XJ,XK,XL,XM,XN,XO,XP,XQ,XR,XS,XT,XU,XV,XW,XX,XY,XZ,Y0,Try.q3,Try.q4,Try.q5,Try.q22,Try.q26,Try.underlying45,Try.q45,Try.q52,Try.q55,Try.underlying83,Try.q83,Try.q87]
          exact ⟨_, hid, hre2.lt _, hx, _, .nilI .i64, rfl, _, rfl, hre2⟩
      | ok l2 =>
        have hof := ok_form ho2
        subst hof
        have g1 : s1[id]? = some (.box [.ints .u8 l2, .int .i64 0]) := hx.at hid
        by_cases hin : i < n
        · have d2 : decide ((i : Int) < (n : Int)) = true := decide_eq_true (by omega)
          rw [show n - i = (n - (i + 1)) + 1 by omega, manyT_step] at hT2
          simp -implicitDefEqProofs only [g1,d2,d3,Q0,Q1,Q2,Q3,Q4,Q5,Q6,Q7,Q8,Q9,Qa,Qb,Qc,Qd,Qe,Qf,Qg,Qh,Qi,Qj,Qk,Ql,Qm,Qn,Qo,Qp,Qq,Qr,Qs,Qt,Qu,Qv,Qw,Qx,Qy,Qz,QA,QB,QC,QD,QE,QF,QG,QH,QI,QJ,QK,QL,QM,QN,QO,QP,QQ,QR,QS,QT,QU,QV,QW,QX,QY,QZ,X0,X1,X2,X3,X4,X5,X6,X7,X8,X9,Xa,Xb,Xc,Xd,Xe,Xf,Xg,Xh,Xi,Xj,Xk,Xl,Xm,Xn,Xo,Xp,Xq,Xr,Xs,Xt,Xu,Xv,Xw,Xx,Xy,Xz,XA,XB,reduceIte,reduceCtorEq,XC,XD,XE,XF,XG,XH,XI,XJ,XK,XL,XM,XN,XO,XP,XQ,XR,XS,XT,XU,XV,XW,XX,XY,XZ,Y0,Try.q3,Try.q4,Try.q5,Try.q22,Try.q26,Try.underlying45,Try.q45,Try.q52,Try.q55,Try.underlying83,Try.q83,Try.q87]
          refine ACalls.mono (rd_int' (.ok l2) (hx.at hid) ho2) ?_
          rintro _ _ ⟨rfl, o3, rfl, ho3⟩
          simp -implicitDefEqProofs only [Q0,Q1,Q2,Q3,Q4,Q5,Q6,Q7,Q8,Q9,Qa,Qb,Qc,Qd,Qe,Qf,Qg,Qh,Qi,Qj,Qk,Ql,Qm,Qn,Qo,Qp,Qq,Qr,Qs,Qt,Qu,Qv,Qw,Qx,Qy,Qz,QA,QB,QC,QD,QE,QF,QG,QH,QI,QJ,QK,QL,QM,QN,QO,QP,QQ,QR,QS,QT,QU,QV,QW,QX,QY,QZ,X0,X1,X2,X3,X4,X5,X6,X7,X8,X9,Xa,Xb,Xc,Xd,Xe,Xf,Xg,Xh,Xi,Xj,Xk,Xl,Xm,Xn,Xo,Xp,Xq,Xr,Xs,Xt,Xu,Xv,Xw,Xx,Xy,Xz,XA,XB,reduceIte,reduceCtorEq,XC,XD,XE,XF,XG,XH,XI,XJ,XK,XL,XM,XN,XO,XP,XQ,XR,XS,XT,XU,XV,XW,XX,XY,XZ,Y0,Try.q3,Try.q4,Try.q5,Try.q22,Try.q26,Try.underlying45,Try.q45,Try.q52,Try.q55,Try.underlying83,Try.q83,Try.q87]
          have hx3 := hx.move hid o3
          have hb3 := hb.move hid o3
          have hlen : (s.set id o3).length = s.length := by simp
          refine append_buf (σ := s.set id o3) Try.sl22 (by simp [Try.bt3]) hx3 (by rw [hlen]; exact hb3) (.inl rfl) (by simp [appFits, Try.bt3]; omega) fun r2 s2 hx2 hb2 => ?_
          rw [hlen] at hb2
          have wi : IntKind.u64.wrap ((i : Int) + 1) = ((i + 1 : Nat) : Int) := by rw [wrap_u64 (by omega) (by omega)]; rfl
          simp -implicitDefEqProofs only [wi,Q0,Q1,Q2,Q3,Q4,Q5,Q6,Q7,Q8,Q9,Qa,Qb,Qc,Qd,Qe,Qf,Qg,Qh,Qi,Qj,Qk,Ql,Qm,Qn,Qo,Qp,Qq,Qr,Qs,Qt,Qu,Qv,Qw,Qx,Qy,Qz,QA,QB,QC,QD,QE,QF,QG,QH,QI,QJ,QK,QL,QM,QN,QO,QP,QQ,QR,QS,QT,QU,QV,QW,QX,QY,QZ,X0,X1,X2,X3,X4,X5,X6,X7,X8,X9,Xa,Xb,Xc,Xd,Xe,Xf,Xg,Xh,Xi,Xj,Xk,Xl,Xm,Xn,Xo,Xp,Xq,Xr,Xs,Xt,Xu,Xv,Xw,Xx,Xy,Xz,XA,XB,reduceIte,reduceCtorEq,XC,XD,XE,XF,XG,XH,XI,XJ,XK,XL,XM,XN,XO,XP,XQ,XR,XS,XT,XU,XV,XW,XX,XY,XZ,Y0,Try.q3,Try.q4,Try.q5,Try.q22,Try.q26,Try.underlying45,Try.q45,Try.q52,Try.q55,Try.underlying83,Try.q83,Try.q87]
          exact ⟨(i + 1, r2, (intT (.ok l2)).2, acc ++ [(intT (.ok l2)).1]), ⟨rfl, rfl⟩, ⟨by simp only; omega, o3, hx2, ho3, hb2, by simp; omega, hT2⟩, by simp only; omega⟩
        · have d2 : decide ((i : Int) < (n : Int)) = false := decide_eq_false (by omega)
          rw [show n - i = 0 by omega] at hT2
          replace hT2 : T = (acc, .ok l2) := hT2
          subst hT2
          simp -implicitDefEqProofs only [g1,d2,d3,Q0,Q1,Q2,Q3,Q4,Q5,Q6,Q7,Q8,Q9,Qa,Qb,Qc,Qd,Qe,Qf,Qg,Qh,Qi,Qj,Qk,Ql,Qm,Qn,Qo,Qp,Qq,Qr,Qs,Qt,Qu,Qv,Qw,Qx,Qy,Qz,QA,QB,QC,QD,QE,QF,QG,QH,QI,QJ,QK,QL,QM,QN,QO,QP,QQ,QR,QS,QT,QU,QV,QW,QX,QY,QZ,X0,X1,X2,X3,X4,X5,X6,X7,X8,X9,Xa,Xb,Xc,Xd,Xe,Xf,Xg,Xh,Xi,Xj,Xk,Xl,Xm,Xn,Xo,Xp,Xq,Xr,Xs,Xt,Xu,Xv,Xw,Xx,Xy,Xz,XA,XB,reduceIte,reduceCtorEq,XC,XD,XE,XF,XG,XH,XI,XJ,XK,XL,XM,XN,XO,XP,XQ,XR,XS,XT,XU,XV,XW,XX,XY,XZ,Y0,Try.q3,Try.q4,Try.q5,Try.q22,Try.q26,Try.underlying45,Try.q45,Try.q52,Try.q55,Try.underlying83,Try.q83,Try.q87]
          exact ⟨_, hid, ho2.lt _, hx, _, hb.frz, rfl, _, rfl, ho2⟩

theorem rd_ints' (st : St) {s : Store} {id : Nat} {o : AObj} (h : s[id]? = some o) (ho : RdO st o) :
    ACalls Try.prog 56 [.ptr id 0] s (RdC s id (.ints .i64 (intsT st).1) (intsT st).2) := by
  refine acalls_of_vc (fn := Try.f56) Try.call56 Try.func56 rfl (by kernel_rfl) (by simp [Try.ntmps56]) ?_; simp -implicitDefEqProofs only [Try.ntmps56,Try.results56,Q0,Q1,Q2,Q3,Q4,Q5,Q6,Q7,Q8,Q9,Qa,Qb,Qc,Qd,Qe,Qf,Qg,Qh,Qi,Qj,Qk,Ql,Qm,Qn,Qo,Qp,Qq,Qr,Qs,Qt,Qu,Qv,Qw,Qx,Qy,Qz,QA,QB,QC,QD,QE,QF,QG,QH,QI,QJ,QK,QL,QM,QN,QO,QP,QQ,QR,QS,QT,QU,QV,QW,QX,QY,QZ,X0,X1,X2,X3,X4,X5,X6,X7,X8,X9,Xa,Xb,Xc,Xd,Xe,Xf,Xg,Xh,Xi,Xj,Xk,Xl,Xm,Xn,Xo,Xp,Xq,Xr,Xs,Xt,Xu,Xv,Xw,Xx,Xy,Xz,XA,XB,reduceIte,reduceCtorEq,XC,XD,XE,XF,XG,XH,XI,XJ,XK,XL,XM,XN,XO,XP,XQ,XR,XS,XT,XU,XV,XW,XX,XY,XZ,Y0,Try.q3,Try.q22,Try.underlying45,Try.q45,Try.q55]
  refine ACalls.mono (rd_listI st h ho) ?_
  rintro _ _ ⟨rfl, o1, rfl, ho1⟩
  simp -implicitDefEqProofs only [Q0,Q1,Q2,Q3,Q4,Q5,Q6,Q7,Q8,Q9,Qa,Qb,Qc,Qd,Qe,Qf,Qg,Qh,Qi,Qj,Qk,Ql,Qm,Qn,Qo,Qp,Qq,Qr,Qs,Qt,Qu,Qv,Qw,Qx,Qy,Qz,QA,QB,QC,QD,QE,QF,QG,QH,QI,QJ,QK,QL,QM,QN,QO,QP,QQ,QR,QS,QT,QU,QV,QW,QX,QY,QZ,X0,X1,X2,X3,X4,X5,X6,X7,X8,X9,Xa,Xb,Xc,Xd,Xe,Xf,Xg,Xh,Xi,Xj,Xk,Xl,Xm,Xn,Xo,Xp,Xq,Xr,Xs,Xt,Xu,Xv,Xw,Xx,Xy,Xz,XA,XB,reduceIte,reduceCtorEq,XC,XD,XE,XF,XG,XH,XI,XJ,XK,XL,XM,XN,XO,XP,XQ,XR,XS,XT,XU,XV,XW,XX,XY,XZ,Y0,Try.q3,Try.q22,Try.underlying45,Try.q45,Try.q55]
  exact ⟨rfl, o1, rfl, ho1⟩

theorem bytesT_u8 {st : St} {o : AObj} (ho : RdO st o) : U8s (bytesT st).1 := by
  cases st with
  | er e => intro x hx; simp [bytesT, uintT] at hx
  | ok l =>
    cases hq : bytesT (.ok l) with
    | mk v st' =>
    cases st' with
    | ok r =>
      have := bytesT_back ho.2.2 hq
      have hu := ho.2.2
      rw [this, textE, List.append_assoc] at hu
      exact U8s.left (U8s.right hu)
    | er e =>
      unfold bytesT at hq
      split at hq
      · split at hq <;> simp at hq
        rw [hq.1]
        intro x hx; simp at hx
      · simp at hq
        rw [hq.1]
        intro x hx; simp at hx

/-- A slice of which it is known whether it is nil. -/
def SlI (k : IntKind) (l : List Int) (x : AV) : Prop := ((x = .nils ∨ x = .emp) ∧ l = []) ∨ (x = .ints k l ∧ l ≠ [])

theorem clone_sl {s : Store} {r : AV} {l : List Int} (h : SlI .u8 l r) (hl : l.length < 2000000) : ACalls Try.prog 59 [r] s (FreshI s .u8 l) := by
  rcases h with ⟨h1, h2⟩ | ⟨rfl, hne⟩
  · exact clone_buf (n := 0) (.inl ⟨h1, h2⟩) hl
  · skip
    refine acalls_of_vc (fn := Try.f59) Try.call59 Try.func59 rfl (by kernel_rfl) (by simp [Try.ntmps59]) ?_; simp -implicitDefEqProofs only [Try.ntmps59,Try.results59,Q0,Q1,Q2,Q3,Q4,Q5,Q6,Q7,Q8,Q9,Qa,Qb,Qc,Qd,Qe,Qf,Qg,Qh,Qi,Qj,Qk,Ql,Qm,Qn,Qo,Qp,Qq,Qr,Qs,Qt,Qu,Qv,Qw,Qx,Qy,Qz,QA,QB,QC,QD,QE,QF,QG,QH,QI,QJ,QK,QL,QM,QN,QO,QP,QQ,QR,QS,QT,QU,QV,QW,QX,QY,QZ,X0,X1,X2,X3,X4,X5,X6,X7,X8,X9,Xa,Xb,Xc,Xd,Xe,Xf,Xg,Xh,Xi,Xj,Xk,Xl,Xm,Xn,Xo,Xp,Xq,Xr,Xs,Xt,Xu,Xv,Xw,Xx,Xy,Xz,XA,XB,reduceIte,reduceCtorEq,XC,XD,XE,XF,XG,XH,XI,XJ,XK,XL,XM,XN,XO,XP,XQ,XR,XS,XT,XU,XV,XW,XX,XY,XZ,Y0,Try.q4,Try.q5,Try.q52]
    refine ⟨hne, ?_⟩
    simp only [vcAppend, Try.sl52, contA]
    refine ⟨by simp [Try.bt5], trivial, fun h0 => absurd h0 hne, fun h0 => ⟨by simp [appFits, Try.bt5]; omega, ?_⟩⟩
    simp -implicitDefEqProofs only [Q0,Q1,Q2,Q3,Q4,Q5,Q6,Q7,Q8,Q9,Qa,Qb,Qc,Qd,Qe,Qf,Qg,Qh,Qi,Qj,Qk,Ql,Qm,Qn,Qo,Qp,Qq,Qr,Qs,Qt,Qu,Qv,Qw,Qx,Qy,Qz,QA,QB,QC,QD,QE,QF,QG,QH,QI,QJ,QK,QL,QM,QN,QO,QP,QQ,QR,QS,QT,QU,QV,QW,QX,QY,QZ,X0,X1,X2,X3,X4,X5,X6,X7,X8,X9,Xa,Xb,Xc,Xd,Xe,Xf,Xg,Xh,Xi,Xj,Xk,Xl,Xm,Xn,Xo,Xp,Xq,Xr,Xs,Xt,Xu,Xv,Xw,Xx,Xy,Xz,XA,XB,reduceIte,reduceCtorEq,XC,XD,XE,XF,XG,XH,XI,XJ,XK,XL,XM,XN,XO,XP,XQ,XR,XS,XT,XU,XV,XW,XX,XY,XZ,Y0,Try.q4,Try.q5,Try.q52]
    exact .inr ⟨rfl, rfl⟩

/-- What a new Reader is. -/
def NewRd (s : Store) (l : List Int) (r : AV) (s' : Store) : Prop := ∃ id, r = .ptr id 0 ∧ s.length ≤ id ∧ Ext s s' ∧ s'[id]? = some (rdO l 0) ∧ s'.length = id + 1

theorem rd_read {s : Store} {n : Nat} {r : AV} {l : List Int} (h : BufI s n r .u8 l ∨ SlI .u8 l r) (hl : l.length < 2000000) : ACalls Try.prog 33 [r] s (NewRd s l) := by
  have hc : ACalls Try.prog 59 [r] s (FreshI s .u8 l) := by
    rcases h with h | h
    · exact clone_buf h hl
    · exact clone_sl h hl
  refine ACalls.tidy ?_
  refine acalls_of_vc (fn := Try.f33) Try.call33 Try.func33 rfl (by kernel_rfl) (by simp [Try.ntmps33]) ?_; simp -implicitDefEqProofs only [Try.ntmps33,Try.results33,Q0,Q1,Q2,Q3,Q4,Q5,Q6,Q7,Q8,Q9,Qa,Qb,Qc,Qd,Qe,Qf,Qg,Qh,Qi,Qj,Qk,Ql,Qm,Qn,Qo,Qp,Qq,Qr,Qs,Qt,Qu,Qv,Qw,Qx,Qy,Qz,QA,QB,QC,QD,QE,QF,QG,QH,QI,QJ,QK,QL,QM,QN,QO,QP,QQ,QR,QS,QT,QU,QV,QW,QX,QY,QZ,X0,X1,X2,X3,X4,X5,X6,X7,X8,X9,Xa,Xb,Xc,Xd,Xe,Xf,Xg,Xh,Xi,Xj,Xk,Xl,Xm,Xn,Xo,Xp,Xq,Xr,Xs,Xt,Xu,Xv,Xw,Xx,Xy,Xz,XA,XB,reduceIte,reduceCtorEq,XC,XD,XE,XF,XG,XH,XI,XJ,XK,XL,XM,XN,XO,XP,XQ,XR,XS,XT,XU,XV,XW,XX,XY,XZ,Y0,Try.q5,Try.q26,Try.q52,Try.q55,Try.underlying83,Try.q83]
  refine ACalls.mono hc ?_
  intro r2 s2 hf
  rcases hf with ⟨h1, rfl, rfl⟩ | ⟨rfl, rfl⟩
  · rcases h1 with rfl | rfl
    · simp -implicitDefEqProofs only [Q0,Q1,Q2,Q3,Q4,Q5,Q6,Q7,Q8,Q9,Qa,Qb,Qc,Qd,Qe,Qf,Qg,Qh,Qi,Qj,Qk,Ql,Qm,Qn,Qo,Qp,Qq,Qr,Qs,Qt,Qu,Qv,Qw,Qx,Qy,Qz,QA,QB,QC,QD,QE,QF,QG,QH,QI,QJ,QK,QL,QM,QN,QO,QP,QQ,QR,QS,QT,QU,QV,QW,QX,QY,QZ,X0,X1,X2,X3,X4,X5,X6,X7,X8,X9,Xa,Xb,Xc,Xd,Xe,Xf,Xg,Xh,Xi,Xj,Xk,Xl,Xm,Xn,Xo,Xp,Xq,Xr,Xs,Xt,Xu,Xv,Xw,Xx,Xy,Xz,XA,XB,reduceIte,reduceCtorEq,XC,XD,XE,XF,XG,XH,XI,XJ,XK,XL,XM,XN,XO,XP,XQ,XR,XS,XT,XU,XV,XW,XX,XY,XZ,Y0,Try.q5,Try.q26,Try.q52,Try.q55,Try.underlying83,Try.q83]
      refine .inr ⟨_, s2 ++ [rdO [] 0], Wk.refl _, by simp, wk_last (.box _ _ rfl ?_), _, rfl, by omega, (Ext.refl _).push _, by simp, by simp⟩
      intro j x y hx hy
      match j with
      | 0 => cases hx; cases hy; exact .nilI .u8
      | 1 => cases hx; cases hy; exact .refl _
    · simp -implicitDefEqProofs only [Q0,Q1,Q2,Q3,Q4,Q5,Q6,Q7,Q8,Q9,Qa,Qb,Qc,Qd,Qe,Qf,Qg,Qh,Qi,Qj,Qk,Ql,Qm,Qn,Qo,Qp,Qq,Qr,Qs,Qt,Qu,Qv,Qw,Qx,Qy,Qz,QA,QB,QC,QD,QE,QF,QG,QH,QI,QJ,QK,QL,QM,QN,QO,QP,QQ,QR,QS,QT,QU,QV,QW,QX,QY,QZ,X0,X1,X2,X3,X4,X5,X6,X7,X8,X9,Xa,Xb,Xc,Xd,Xe,Xf,Xg,Xh,Xi,Xj,Xk,Xl,Xm,Xn,Xo,Xp,Xq,Xr,Xs,Xt,Xu,Xv,Xw,Xx,Xy,Xz,XA,XB,reduceIte,reduceCtorEq,XC,XD,XE,XF,XG,XH,XI,XJ,XK,XL,XM,XN,XO,XP,XQ,XR,XS,XT,XU,XV,XW,XX,XY,XZ,Y0,Try.q5,Try.q26,Try.q52,Try.q55,Try.underlying83,Try.q83]
      refine .inr ⟨_, s2 ++ [rdO [] 0], Wk.refl _, by simp, wk_last (.box _ _ rfl ?_), _, rfl, by omega, (Ext.refl _).push _, by simp, by simp⟩
      intro j x y hx hy
      match j with
      | 0 => cases hx; cases hy; exact .empI .u8
      | 1 => cases hx; cases hy; exact .refl _
  · simp -implicitDefEqProofs only [Q0,Q1,Q2,Q3,Q4,Q5,Q6,Q7,Q8,Q9,Qa,Qb,Qc,Qd,Qe,Qf,Qg,Qh,Qi,Qj,Qk,Ql,Qm,Qn,Qo,Qp,Qq,Qr,Qs,Qt,Qu,Qv,Qw,Qx,Qy,Qz,QA,QB,QC,QD,QE,QF,QG,QH,QI,QJ,QK,QL,QM,QN,QO,QP,QQ,QR,QS,QT,QU,QV,QW,QX,QY,QZ,X0,X1,X2,X3,X4,X5,X6,X7,X8,X9,Xa,Xb,Xc,Xd,Xe,Xf,Xg,Xh,Xi,Xj,Xk,Xl,Xm,Xn,Xo,Xp,Xq,Xr,Xs,Xt,Xu,Xv,Xw,Xx,Xy,Xz,XA,XB,reduceIte,reduceCtorEq,XC,XD,XE,XF,XG,XH,XI,XJ,XK,XL,XM,XN,XO,XP,XQ,XR,XS,XT,XU,XV,XW,XX,XY,XZ,Y0,Try.q5,Try.q26,Try.q52,Try.q55,Try.underlying83,Try.q83]
    refine .inl ⟨s.length, .vecI .u8 l, l.map (AV.int .u8), _, s ++ [.dead, rdO l 0], by simp, rfl, .same _, fz_last (.box _ _ rfl ?_), _, rfl, by omega, fun i x hx => ?_, by simp, by simp⟩
    · intro j x y hx hy
      match j with
      | 0 => cases hx; cases hy; exact .all
      | 1 => cases hx; cases hy; exact .same _
    · rw [List.getElem?_append_left (List.getElem?_eq_some_iff.1 hx).1]; exact hx

end Go.Proofs
