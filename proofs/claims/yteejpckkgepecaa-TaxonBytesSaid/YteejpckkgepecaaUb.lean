/-
  Taxonomies as bytes: Encode, the program's and the reference's; contracts.
-/
import Derived.Test.YteejpckkgepecaaUa
import Derived.Test.YteejpckkgepecaaWg
namespace Go.Proofs
open Go.Pa
open Go.Pa renaming VB0 → Q0, VB1 → Q1, VB2 → Q2, VB3 → Q3, VB4 → Q4, VB5 → Q5, VB6 → Q6, VB7 → Q7, VB8 → Q8, VB9 → Q9, condV_bool → Qa, guardV_bool → Qb, vcS → Qc, evA → Qd, evBin → Qe, nilA → Qf, nilOf → Qg, intOp → Qh, strOp → Qi, evUn → Qj, evConv → Qk, evField → Ql, evFieldAddr → Qm, evIndexAddr → Qn, evIndex → Qo, evIndexA → Qp, bnd → Qq, evSlice → Qr, evLen → Qs, evPick → Qt, evExtract → Qu, evNilCheck → Qv, evMin → Qw, evMax → Qx, evLoadI → Qy, partsOne → QA, intsOf → QB, rowsAV → QC, evBuildSlice → QD, evBuild → QE, fillA → QF, splice → QG, evBuiltin → QH, guardD_bool → QI, dOp → QJ, cl → QK, vcLoad → QL, vcStore → QM, vcMake → QN, convA → QO, evIndexArr → QP, retA → QQ, ressA → QR, resA → QS, envOf → QT, condR_bool → QX, asgEnv → QY, parEnv → QZ, dstAt → XI, vcLook → XT, vcPut → XU, vcEnt → XV, vcESt → XW, vcMLen → XX, vcDel → XY, vcClear → XZ, vcLookD → Y0
open Go.Pa.AV renaming cell → Qz
open Go.Pa.Env renaming put → QU
open List renaming set_cons_zero → QV, set_cons_succ → QW, foldl_cons → X0, foldl_nil → X1, map_cons → X2, map_nil → X3, toList_toArray → X4, getElem?_cons_zero → X5, getElem?_cons_succ → X6, nil_append → Xa, append_nil → Xb, cons_append → Xc, singleton_append → Xd, length_cons → Xe, length_nil → Xf, all_cons → Xg, all_nil → Xh, take_succ_cons → Xi, take_zero → Xj, take_nil → Xk, drop_zero → Xl, drop_succ_cons → Xm, drop_nil → Xn, contains_nil → Xo, contains_cons → Xp
open Option renaming bind_some → X7, map_some → X8, map_none → X9
open Bool renaming or_false → Xq, false_or → Xr, or_true → Xs, true_or → Xt, false_eq_true → XC, not_true → XD, not_false → XE, and_true → XF, true_and → XG, and_self → XH
open Nat renaming reduceEqDiff → Xu, reduceAdd → Xv, reduceSub → Xw, reduceMul → Xx, reduceLT → Xy, reduceLeDiff → Xz, reduceBNe → XA, reduceBEq → XB, zero_add → XL, add_zero → XM
open UInt8 renaming reduceToNat → XJ
open Int renaming cast_ofNat_Int → XK, reduceToNat → XN, reduceLT → XO, reduceLE → XP, reduceNeg → XQ, reduceEq → XR, reduceNe → XS
set_option linter.unusedSimpArgs false
set_option linter.unusedVariables false
set_option maxRecDepth 20000
set_option maxHeartbeats 4000000

theorem okk63 {n : Int} (h : In63 n) : Okk .i64 n := by
  unfold In63 at h
  simp [Okk, IntKind.min, IntKind.max, IntKind.signed, IntKind.bits]
  omega

theorem WrS.start (s : Store) : WrS (s ++ [.box [.nils]]) s.length [] (s ++ [.box [.nils]]) :=
  ⟨by simp, Nat.le_refl _, fun _ _ _ h => h, .nils, by simp, .inl ⟨.inl rfl, rfl⟩⟩

theorem WrS.base {s s' : Store} {l : List Int} (h : WrS (s ++ [.box [.nils]]) s.length l s') : Ext s s' := by
  intro i x hx
  have hi := (List.getElem?_eq_some_iff.1 hx).1
  exact h.2.2.1 i x (by omega) (by rw [List.getElem?_append_left hi]; exact hx)

theorem BufI.down {s : Store} {n m : Nat} {r : AV} {k : IntKind} {l : List Int} (h : BufI s n r k l) (hm : m ≤ n) : BufI s m r k l := by
  rcases h with h | ⟨j, h1, h2, h3⟩
  · exact .inl h
  · exact .inr ⟨j, h1, h2, by omega⟩

theorem BufI.grow {s s' : Store} {n : Nat} {r : AV} {k : IntKind} {l : List Int} (h : BufI s n r k l) (hx : Ext s s') : BufI s' n r k l := by
  rcases h with h | ⟨j, h1, h2, h3⟩
  · exact .inl h
  · exact .inr ⟨j, h1, hx _ _ h2, h3⟩

theorem BufI.cont {s : Store} {n : Nat} {r : AV} {k : IntKind} {l : List Int} (h : BufI s n r k l) : contA s r = some (.I k l) ∨ (contA s r = some .E ∧ l = []) := by
  rcases h with ⟨rfl | rfl, rfl⟩ | ⟨id, rfl, ho, _⟩
  · exact .inr ⟨rfl, rfl⟩
  · exact .inr ⟨rfl, rfl⟩
  · refine .inl ?_
    simp only [contA, ho]
    rw [if_pos ⟨trivial, by omega⟩]
    simp

theorem re_uint (n : Nat) (hn : n < 18446744073709551616) (σ : Store) : ACalls Try.prog 73 [.int .u64 n] σ (FreshI σ .u8 (uintE n)) := by
  have hnl := (uintE_len hn).2
  refine ACalls.fresh ?_
  refine acalls_of_vc (fn := Try.f73) Try.call73 Try.func73 rfl (by kernel_rfl) (by simp [Try.ntmps73]) ?_; simp -implicitDefEqProofs only [Try.ntmps73,Try.results73,Q0,Q1,Q2,Q3,Q4,Q5,Q6,Q7,Q8,Q9,Qa,Qb,Qc,Qd,Qe,Qf,Qg,Qh,Qi,Qj,Qk,Ql,Qm,Qn,Qo,Qp,Qq,Qr,Qs,Qt,Qu,Qv,Qw,Qx,Qy,Qz,QA,QB,QC,QD,QE,QF,QG,QH,QI,QJ,QK,QL,QM,QN,QO,QP,QQ,QR,QS,QT,QU,QV,QW,QX,QY,QZ,X0,X1,X2,X3,X4,X5,X6,X7,X8,X9,Xa,Xb,Xc,Xd,Xe,Xf,Xg,Xh,Xi,Xj,Xk,Xl,Xm,Xn,Xo,Xp,Xq,Xr,Xs,Xt,Xu,Xv,Xw,Xx,Xy,Xz,XA,XB,reduceIte,reduceCtorEq,XC,XD,XE,XF,XG,XH,XI,XJ,XK,XL,XM,XN,XO,XP,XQ,XR,XS,XT,XU,XV,XW,XX,XY,XZ,Y0,Try.q4,Try.q5,Try.q52,Try.q87]
  refine awp_loop (fun p : Nat × AV × List Int => [(0, .int .u64 p.1), (3, p.2.1)]) (fun p s' => Ext σ s' ∧ BufI s' σ.length p.2.1 .u8 p.2.2 ∧ p.1 < 18446744073709551616 ∧ p.2.2 ++ uintE p.1 = uintE n) (fun p => p.1) (n, .nils, []) (by kernel_rfl) (by simp [sub_cons, sub_nil, get_cons]) ⟨.refl _, .nil, hn, rfl⟩ ?_
  rintro ⟨k, r, acc⟩ s1 ⟨hx, hb, hk, he⟩
  simp only at hb hk he
  have hal : acc.length ≤ 10 := by
    have := congrArg List.length he
    simp only [List.length_append] at this
    omega
  by_cases hbig : 127 < k
  · have d : decide (127 < (k : Int)) = true := decide_eq_true (by omega)
    have e1 : (k : Int).tmod 128 = ((k % 128 : Nat) : Int) := by rw [Int.tmod_eq_emod_of_nonneg (by omega)]; omega
    have e2 : IntKind.u64.wrap (128 + ((k % 128 : Nat) : Int)) = ((128 + k % 128 : Nat) : Int) := by rw [wrap_u64 (by omega) (by omega)]; rfl
    have e3 : IntKind.u8.wrap ((128 + k % 128 : Nat) : Int) = ((128 + k % 128 : Nat) : Int) := wrap_u8 (by omega) (by omega)
    have e4 : (k : Int).tdiv 128 = ((k / 128 : Nat) : Int) := by rw [Int.tdiv_eq_ediv_of_nonneg (by omega)]; omega
    have e5 : IntKind.u64.wrap ((k / 128 : Nat) : Int) = ((k / 128 : Nat) : Int) := wrap_u64 (by omega) (by omega)
    simp -implicitDefEqProofs only [d,e1,e2,e3,Q0,Q1,Q2,Q3,Q4,Q5,Q6,Q7,Q8,Q9,Qa,Qb,Qc,Qd,Qe,Qf,Qg,Qh,Qi,Qj,Qk,Ql,Qm,Qn,Qo,Qp,Qq,Qr,Qs,Qt,Qu,Qv,Qw,Qx,Qy,Qz,QA,QB,QC,QD,QE,QF,QG,QH,QI,QJ,QK,QL,QM,QN,QO,QP,QQ,QR,QS,QT,QU,QV,QW,QX,QY,QZ,X0,X1,X2,X3,X4,X5,X6,X7,X8,X9,Xa,Xb,Xc,Xd,Xe,Xf,Xg,Xh,Xi,Xj,Xk,Xl,Xm,Xn,Xo,Xp,Xq,Xr,Xs,Xt,Xu,Xv,Xw,Xx,Xy,Xz,XA,XB,reduceIte,reduceCtorEq,XC,XD,XE,XF,XG,XH,XI,XJ,XK,XL,XM,XN,XO,XP,XQ,XR,XS,XT,XU,XV,XW,XX,XY,XZ,Y0,Try.q4,Try.q5,Try.q52,Try.q87]
    refine append_buf (σ := σ) Try.sl52 (by simp [Try.bt5]) hx hb (.inl rfl) (by simp [appFits, Try.bt5]; omega) fun r2 s2 hx2 hb2 => ?_
    simp -implicitDefEqProofs only [e4,e5,Q0,Q1,Q2,Q3,Q4,Q5,Q6,Q7,Q8,Q9,Qa,Qb,Qc,Qd,Qe,Qf,Qg,Qh,Qi,Qj,Qk,Ql,Qm,Qn,Qo,Qp,Qq,Qr,Qs,Qt,Qu,Qv,Qw,Qx,Qy,Qz,QA,QB,QC,QD,QE,QF,QG,QH,QI,QJ,QK,QL,QM,QN,QO,QP,QQ,QR,QS,QT,QU,QV,QW,QX,QY,QZ,X0,X1,X2,X3,X4,X5,X6,X7,X8,X9,Xa,Xb,Xc,Xd,Xe,Xf,Xg,Xh,Xi,Xj,Xk,Xl,Xm,Xn,Xo,Xp,Xq,Xr,Xs,Xt,Xu,Xv,Xw,Xx,Xy,Xz,XA,XB,reduceIte,reduceCtorEq,XC,XD,XE,XF,XG,XH,XI,XJ,XK,XL,XM,XN,XO,XP,XQ,XR,XS,XT,XU,XV,XW,XX,XY,XZ,Y0,Try.q4,Try.q5,Try.q52,Try.q87]
    refine ⟨(k / 128, r2, acc ++ [((128 + k % 128 : Nat) : Int)]), ⟨rfl, rfl⟩, ⟨hx2, hb2, by simp only; omega, ?_⟩, by simp only; omega⟩
    rw [← he, uintE_big (n := k) (by omega)]
    simp
  · have d : decide (127 < (k : Int)) = false := decide_eq_false (by omega)
    have e3 : IntKind.u8.wrap (k : Int) = (k : Int) := wrap_u8 (by omega) (by omega)
    simp -implicitDefEqProofs only [d,e3,Q0,Q1,Q2,Q3,Q4,Q5,Q6,Q7,Q8,Q9,Qa,Qb,Qc,Qd,Qe,Qf,Qg,Qh,Qi,Qj,Qk,Ql,Qm,Qn,Qo,Qp,Qq,Qr,Qs,Qt,Qu,Qv,Qw,Qx,Qy,Qz,QA,QB,QC,QD,QE,QF,QG,QH,QI,QJ,QK,QL,QM,QN,QO,QP,QQ,QR,QS,QT,QU,QV,QW,QX,QY,QZ,X0,X1,X2,X3,X4,X5,X6,X7,X8,X9,Xa,Xb,Xc,Xd,Xe,Xf,Xg,Xh,Xi,Xj,Xk,Xl,Xm,Xn,Xo,Xp,Xq,Xr,Xs,Xt,Xu,Xv,Xw,Xx,Xy,Xz,XA,XB,reduceIte,reduceCtorEq,XC,XD,XE,XF,XG,XH,XI,XJ,XK,XL,XM,XN,XO,XP,XQ,XR,XS,XT,XU,XV,XW,XX,XY,XZ,Y0,Try.q4,Try.q5,Try.q52,Try.q87]
    refine append_buf (σ := σ) Try.sl52 (by simp [Try.bt5]) hx hb (.inl rfl) (by simp [appFits, Try.bt5]; omega) fun r2 s2 hx2 hb2 => ?_
    simp -implicitDefEqProofs only [Q0,Q1,Q2,Q3,Q4,Q5,Q6,Q7,Q8,Q9,Qa,Qb,Qc,Qd,Qe,Qf,Qg,Qh,Qi,Qj,Qk,Ql,Qm,Qn,Qo,Qp,Qq,Qr,Qs,Qt,Qu,Qv,Qw,Qx,Qy,Qz,QA,QB,QC,QD,QE,QF,QG,QH,QI,QJ,QK,QL,QM,QN,QO,QP,QQ,QR,QS,QT,QU,QV,QW,QX,QY,QZ,X0,X1,X2,X3,X4,X5,X6,X7,X8,X9,Xa,Xb,Xc,Xd,Xe,Xf,Xg,Xh,Xi,Xj,Xk,Xl,Xm,Xn,Xo,Xp,Xq,Xr,Xs,Xt,Xu,Xv,Xw,Xx,Xy,Xz,XA,XB,reduceIte,reduceCtorEq,XC,XD,XE,XF,XG,XH,XI,XJ,XK,XL,XM,XN,XO,XP,XQ,XR,XS,XT,XU,XV,XW,XX,XY,XZ,Y0,Try.q4,Try.q5,Try.q52,Try.q87]
    rw [uintE_small (n := k) (by omega)] at he
    rw [he] at hb2
    exact ⟨hx2, hb2⟩

theorem re_zig (n : Int) (hn : In63 n) (σ : Store) : ACalls Try.prog 74 [.int .i64 n] σ (fun r σ' => r = .int .u64 (zigN n) ∧ σ' = σ) := by
  unfold In63 at hn
  unfold zigN
  by_cases h : 0 ≤ n
  · have d : decide (n < 0) = false := decide_eq_false (by omega)
    have e1 : IntKind.u64.wrap n = n := wrap_u64 (by omega) (by omega)
    have e2 : IntKind.u64.wrap (2 * n) = ((2 * n).toNat : Int) := by rw [wrap_u64 (by omega) (by omega)]; omega
    rw [if_pos h]
    refine acalls_of_vc (fn := Try.f74) Try.call74 Try.func74 rfl (by kernel_rfl) (by simp [Try.ntmps74]) ?_; simp -implicitDefEqProofs only [Try.ntmps74,Try.results74,Q0,Q1,Q2,Q3,Q4,Q5,Q6,Q7,Q8,Q9,Qa,Qb,Qc,Qd,Qe,Qf,Qg,Qh,Qi,Qj,Qk,Ql,Qm,Qn,Qo,Qp,Qq,Qr,Qs,Qt,Qu,Qv,Qw,Qx,Qy,Qz,QA,QB,QC,QD,QE,QF,QG,QH,QI,QJ,QK,QL,QM,QN,QO,QP,QQ,QR,QS,QT,QU,QV,QW,QX,QY,QZ,X0,X1,X2,X3,X4,X5,X6,X7,X8,X9,Xa,Xb,Xc,Xd,Xe,Xf,Xg,Xh,Xi,Xj,Xk,Xl,Xm,Xn,Xo,Xp,Xq,Xr,Xs,Xt,Xu,Xv,Xw,Xx,Xy,Xz,XA,XB,reduceIte,reduceCtorEq,XC,XD,XE,XF,XG,XH,XI,XJ,XK,XL,XM,XN,XO,XP,XQ,XR,XS,XT,XU,XV,XW,XX,XY,XZ,Y0,Try.q3,Try.q4,Try.q87]
    simp -implicitDefEqProofs only [d,e1,e2,Q0,Q1,Q2,Q3,Q4,Q5,Q6,Q7,Q8,Q9,Qa,Qb,Qc,Qd,Qe,Qf,Qg,Qh,Qi,Qj,Qk,Ql,Qm,Qn,Qo,Qp,Qq,Qr,Qs,Qt,Qu,Qv,Qw,Qx,Qy,Qz,QA,QB,QC,QD,QE,QF,QG,QH,QI,QJ,QK,QL,QM,QN,QO,QP,QQ,QR,QS,QT,QU,QV,QW,QX,QY,QZ,X0,X1,X2,X3,X4,X5,X6,X7,X8,X9,Xa,Xb,Xc,Xd,Xe,Xf,Xg,Xh,Xi,Xj,Xk,Xl,Xm,Xn,Xo,Xp,Xq,Xr,Xs,Xt,Xu,Xv,Xw,Xx,Xy,Xz,XA,XB,reduceIte,reduceCtorEq,XC,XD,XE,XF,XG,XH,XI,XJ,XK,XL,XM,XN,XO,XP,XQ,XR,XS,XT,XU,XV,XW,XX,XY,XZ,Y0,Try.q3,Try.q4,Try.q87]
  · have d : decide (n < 0) = true := decide_eq_true (by omega)
    have e1 : IntKind.i64.wrap (n + 1) = n + 1 := wrap_i64 (by omega) (by omega)
    have e2 : IntKind.i64.wrap (0 - (n + 1)) = 0 - (n + 1) := wrap_i64 (by omega) (by omega)
    have e3 : IntKind.u64.wrap (0 - (n + 1)) = 0 - (n + 1) := wrap_u64 (by omega) (by omega)
    have e4 : IntKind.u64.wrap (2 * (0 - (n + 1))) = 2 * (0 - (n + 1)) := wrap_u64 (by omega) (by omega)
    have e5 : IntKind.u64.wrap (2 * (0 - (n + 1)) + 1) = ((-2 * n - 1).toNat : Int) := by rw [wrap_u64 (by omega) (by omega)]; omega
    rw [if_neg h]
    refine acalls_of_vc (fn := Try.f74) Try.call74 Try.func74 rfl (by kernel_rfl) (by simp [Try.ntmps74]) ?_; simp -implicitDefEqProofs only [Try.ntmps74,Try.results74,Q0,Q1,Q2,Q3,Q4,Q5,Q6,Q7,Q8,Q9,Qa,Qb,Qc,Qd,Qe,Qf,Qg,Qh,Qi,Qj,Qk,Ql,Qm,Qn,Qo,Qp,Qq,Qr,Qs,Qt,Qu,Qv,Qw,Qx,Qy,Qz,QA,QB,QC,QD,QE,QF,QG,QH,QI,QJ,QK,QL,QM,QN,QO,QP,QQ,QR,QS,QT,QU,QV,QW,QX,QY,QZ,X0,X1,X2,X3,X4,X5,X6,X7,X8,X9,Xa,Xb,Xc,Xd,Xe,Xf,Xg,Xh,Xi,Xj,Xk,Xl,Xm,Xn,Xo,Xp,Xq,Xr,Xs,Xt,Xu,Xv,Xw,Xx,Xy,Xz,XA,XB,reduceIte,reduceCtorEq,XC,XD,XE,XF,XG,XH,XI,XJ,XK,XL,XM,XN,XO,XP,XQ,XR,XS,XT,XU,XV,XW,XX,XY,XZ,Y0,Try.q3,Try.q4,Try.q87]
    simp -implicitDefEqProofs only [d,e1,e2,e3,e4,e5,Q0,Q1,Q2,Q3,Q4,Q5,Q6,Q7,Q8,Q9,Qa,Qb,Qc,Qd,Qe,Qf,Qg,Qh,Qi,Qj,Qk,Ql,Qm,Qn,Qo,Qp,Qq,Qr,Qs,Qt,Qu,Qv,Qw,Qx,Qy,Qz,QA,QB,QC,QD,QE,QF,QG,QH,QI,QJ,QK,QL,QM,QN,QO,QP,QQ,QR,QS,QT,QU,QV,QW,QX,QY,QZ,X0,X1,X2,X3,X4,X5,X6,X7,X8,X9,Xa,Xb,Xc,Xd,Xe,Xf,Xg,Xh,Xi,Xj,Xk,Xl,Xm,Xn,Xo,Xp,Xq,Xr,Xs,Xt,Xu,Xv,Xw,Xx,Xy,Xz,XA,XB,reduceIte,reduceCtorEq,XC,XD,XE,XF,XG,XH,XI,XJ,XK,XL,XM,XN,XO,XP,XQ,XR,XS,XT,XU,XV,XW,XX,XY,XZ,Y0,Try.q3,Try.q4,Try.q87]

theorem re_int (n : Int) (hn : In63 n) (σ : Store) : ACalls Try.prog 60 [.int .i64 n] σ (FreshI σ .u8 (intE n)) := by
  refine acalls_of_vc (fn := Try.f60) Try.call60 Try.func60 rfl (by kernel_rfl) (by simp [Try.ntmps60]) ?_; simp -implicitDefEqProofs only [Try.ntmps60,Try.results60,Q0,Q1,Q2,Q3,Q4,Q5,Q6,Q7,Q8,Q9,Qa,Qb,Qc,Qd,Qe,Qf,Qg,Qh,Qi,Qj,Qk,Ql,Qm,Qn,Qo,Qp,Qq,Qr,Qs,Qt,Qu,Qv,Qw,Qx,Qy,Qz,QA,QB,QC,QD,QE,QF,QG,QH,QI,QJ,QK,QL,QM,QN,QO,QP,QQ,QR,QS,QT,QU,QV,QW,QX,QY,QZ,X0,X1,X2,X3,X4,X5,X6,X7,X8,X9,Xa,Xb,Xc,Xd,Xe,Xf,Xg,Xh,Xi,Xj,Xk,Xl,Xm,Xn,Xo,Xp,Xq,Xr,Xs,Xt,Xu,Xv,Xw,Xx,Xy,Xz,XA,XB,reduceIte,reduceCtorEq,XC,XD,XE,XF,XG,XH,XI,XJ,XK,XL,XM,XN,XO,XP,XQ,XR,XS,XT,XU,XV,XW,XX,XY,XZ,Y0,Try.q3,Try.q5,Try.q52,Try.q87]
  refine acalls_then (re_zig n hn _) ?_
  simp -implicitDefEqProofs only [Q0,Q1,Q2,Q3,Q4,Q5,Q6,Q7,Q8,Q9,Qa,Qb,Qc,Qd,Qe,Qf,Qg,Qh,Qi,Qj,Qk,Ql,Qm,Qn,Qo,Qp,Qq,Qr,Qs,Qt,Qu,Qv,Qw,Qx,Qy,Qz,QA,QB,QC,QD,QE,QF,QG,QH,QI,QJ,QK,QL,QM,QN,QO,QP,QQ,QR,QS,QT,QU,QV,QW,QX,QY,QZ,X0,X1,X2,X3,X4,X5,X6,X7,X8,X9,Xa,Xb,Xc,Xd,Xe,Xf,Xg,Xh,Xi,Xj,Xk,Xl,Xm,Xn,Xo,Xp,Xq,Xr,Xs,Xt,Xu,Xv,Xw,Xx,Xy,Xz,XA,XB,reduceIte,reduceCtorEq,XC,XD,XE,XF,XG,XH,XI,XJ,XK,XL,XM,XN,XO,XP,XQ,XR,XS,XT,XU,XV,XW,XX,XY,XZ,Y0,Try.q3,Try.q5,Try.q52,Try.q87]
  refine ACalls.mono (re_uint _ (zig_lt hn) _) ?_
  intro r s h
  simp -implicitDefEqProofs only [Q0,Q1,Q2,Q3,Q4,Q5,Q6,Q7,Q8,Q9,Qa,Qb,Qc,Qd,Qe,Qf,Qg,Qh,Qi,Qj,Qk,Ql,Qm,Qn,Qo,Qp,Qq,Qr,Qs,Qt,Qu,Qv,Qw,Qx,Qy,Qz,QA,QB,QC,QD,QE,QF,QG,QH,QI,QJ,QK,QL,QM,QN,QO,QP,QQ,QR,QS,QT,QU,QV,QW,QX,QY,QZ,X0,X1,X2,X3,X4,X5,X6,X7,X8,X9,Xa,Xb,Xc,Xd,Xe,Xf,Xg,Xh,Xi,Xj,Xk,Xl,Xm,Xn,Xo,Xp,Xq,Xr,Xs,Xt,Xu,Xv,Xw,Xx,Xy,Xz,XA,XB,reduceIte,reduceCtorEq,XC,XD,XE,XF,XG,XH,XI,XJ,XK,XL,XM,XN,XO,XP,XQ,XR,XS,XT,XU,XV,XW,XX,XY,XZ,Y0,Try.q3,Try.q5,Try.q52,Try.q87]
  exact h

theorem re_ints (l : List Int) (hl : ∀ n ∈ l, In63 n) (hll : l.length < 1000) (σ : Store) : ACalls Try.prog 61 [.ints .i64 l] σ (FreshI σ .u8 (intsE l)) := by
  have hul := (uintE_len (n := l.length) (by omega)).2
  have w1 : IntKind.u64.wrap (l.length : Int) = (l.length : Int) := wrap_u64 (by omega) (by omega)
  refine ACalls.fresh ?_
  refine acalls_of_vc (fn := Try.f61) Try.call61 Try.func61 rfl (by kernel_rfl) (by simp [Try.ntmps61]) ?_; simp -implicitDefEqProofs only [w1,Try.ntmps61,Try.results61,Q0,Q1,Q2,Q3,Q4,Q5,Q6,Q7,Q8,Q9,Qa,Qb,Qc,Qd,Qe,Qf,Qg,Qh,Qi,Qj,Qk,Ql,Qm,Qn,Qo,Qp,Qq,Qr,Qs,Qt,Qu,Qv,Qw,Qx,Qy,Qz,QA,QB,QC,QD,QE,QF,QG,QH,QI,QJ,QK,QL,QM,QN,QO,QP,QQ,QR,QS,QT,QU,QV,QW,QX,QY,QZ,X0,X1,X2,X3,X4,X5,X6,X7,X8,X9,Xa,Xb,Xc,Xd,Xe,Xf,Xg,Xh,Xi,Xj,Xk,Xl,Xm,Xn,Xo,Xp,Xq,Xr,Xs,Xt,Xu,Xv,Xw,Xx,Xy,Xz,XA,XB,reduceIte,reduceCtorEq,XC,XD,XE,XF,XG,XH,XI,XJ,XK,XL,XM,XN,XO,XP,XQ,XR,XS,XT,XU,XV,XW,XX,XY,XZ,Y0,Try.q3,Try.q4,Try.q5,Try.q22,Try.q52,Try.q87]
  refine ACalls.mono (re_uint l.length (by omega) σ) ?_
  intro r s hf
  obtain ⟨hx, hbuf⟩ := hf.buf
  simp -implicitDefEqProofs only [w1,Q0,Q1,Q2,Q3,Q4,Q5,Q6,Q7,Q8,Q9,Qa,Qb,Qc,Qd,Qe,Qf,Qg,Qh,Qi,Qj,Qk,Ql,Qm,Qn,Qo,Qp,Qq,Qr,Qs,Qt,Qu,Qv,Qw,Qx,Qy,Qz,QA,QB,QC,QD,QE,QF,QG,QH,QI,QJ,QK,QL,QM,QN,QO,QP,QQ,QR,QS,QT,QU,QV,QW,QX,QY,QZ,X0,X1,X2,X3,X4,X5,X6,X7,X8,X9,Xa,Xb,Xc,Xd,Xe,Xf,Xg,Xh,Xi,Xj,Xk,Xl,Xm,Xn,Xo,Xp,Xq,Xr,Xs,Xt,Xu,Xv,Xw,Xx,Xy,Xz,XA,XB,reduceIte,reduceCtorEq,XC,XD,XE,XF,XG,XH,XI,XJ,XK,XL,XM,XN,XO,XP,XQ,XR,XS,XT,XU,XV,XW,XX,XY,XZ,Y0,Try.q3,Try.q4,Try.q5,Try.q22,Try.q52,Try.q87]
  refine awp_loop (fun p : Nat × AV => [(4, .int .i64 p.1), (3, p.2), (0, .ints .i64 l)]) (fun p s' => p.1 ≤ l.length ∧ Ext σ s' ∧ BufI s' σ.length p.2 .u8 (uintE l.length ++ (l.take p.1).flatMap intE)) (fun p => l.length - p.1) (0, r) (by kernel_rfl) (by simp [sub_cons, sub_nil, get_cons]) ⟨by omega, hx, by simpa using hbuf⟩ ?_
  rintro ⟨i, r1⟩ s1 ⟨hi, hx1, hb1⟩
  simp only at hi hb1
  by_cases hlt : i < l.length
  · have d : decide ((i : Int) < (l.length : Int)) = true := decide_eq_true (by omega)
    have hget : l.getD ((i : Int).toNat) 0 = l[i] := by rw [Int.toNat_natCast, getD_get hlt]
    have hfl := flatMap_len (l := l.take i) fun n hn => okk63 (hl n (List.mem_of_mem_take hn))
    have hlt3 : (l.take i).length ≤ i := by rw [List.length_take]; omega
    have hil := uintE_len (zig_lt (hl _ (List.getElem_mem hlt)))
    simp -implicitDefEqProofs only [w1,d,hget,Q0,Q1,Q2,Q3,Q4,Q5,Q6,Q7,Q8,Q9,Qa,Qb,Qc,Qd,Qe,Qf,Qg,Qh,Qi,Qj,Qk,Ql,Qm,Qn,Qo,Qp,Qq,Qr,Qs,Qt,Qu,Qv,Qw,Qx,Qy,Qz,QA,QB,QC,QD,QE,QF,QG,QH,QI,QJ,QK,QL,QM,QN,QO,QP,QQ,QR,QS,QT,QU,QV,QW,QX,QY,QZ,X0,X1,X2,X3,X4,X5,X6,X7,X8,X9,Xa,Xb,Xc,Xd,Xe,Xf,Xg,Xh,Xi,Xj,Xk,Xl,Xm,Xn,Xo,Xp,Xq,Xr,Xs,Xt,Xu,Xv,Xw,Xx,Xy,Xz,XA,XB,reduceIte,reduceCtorEq,XC,XD,XE,XF,XG,XH,XI,XJ,XK,XL,XM,XN,XO,XP,XQ,XR,XS,XT,XU,XV,XW,XX,XY,XZ,Y0,Try.q3,Try.q4,Try.q5,Try.q22,Try.q52,Try.q87]
    refine ⟨by omega, ACalls.mono (re_int l[i] (hl _ (List.getElem_mem hlt)) s1) ?_⟩
    intro r2 s2 hf2
    obtain ⟨hx2, hb2⟩ := hf2.buf
    simp -implicitDefEqProofs only [w1,Q0,Q1,Q2,Q3,Q4,Q5,Q6,Q7,Q8,Q9,Qa,Qb,Qc,Qd,Qe,Qf,Qg,Qh,Qi,Qj,Qk,Ql,Qm,Qn,Qo,Qp,Qq,Qr,Qs,Qt,Qu,Qv,Qw,Qx,Qy,Qz,QA,QB,QC,QD,QE,QF,QG,QH,QI,QJ,QK,QL,QM,QN,QO,QP,QQ,QR,QS,QT,QU,QV,QW,QX,QY,QZ,X0,X1,X2,X3,X4,X5,X6,X7,X8,X9,Xa,Xb,Xc,Xd,Xe,Xf,Xg,Xh,Xi,Xj,Xk,Xl,Xm,Xn,Xo,Xp,Xq,Xr,Xs,Xt,Xu,Xv,Xw,Xx,Xy,Xz,XA,XB,reduceIte,reduceCtorEq,XC,XD,XE,XF,XG,XH,XI,XJ,XK,XL,XM,XN,XO,XP,XQ,XR,XS,XT,XU,XV,XW,XX,XY,XZ,Y0,Try.q3,Try.q4,Try.q5,Try.q22,Try.q52,Try.q87]
    refine append_buf (σ := σ) Try.sl52 (by simp [Try.bt5]) (hx1.trans hx2) (BufI.grow hb1 hx2) (BufI.cont hb2) (by simp only [appFits, Try.bt5, List.length_append, intE]; omega) fun r3 s3 hx3 hb3 => ?_
    have wi : IntKind.i64.wrap ((i : Int) + 1) = ((i + 1 : Nat) : Int) := by rw [wrap_i64 (by omega) (by omega)]; rfl
    simp -implicitDefEqProofs only [w1,wi,Q0,Q1,Q2,Q3,Q4,Q5,Q6,Q7,Q8,Q9,Qa,Qb,Qc,Qd,Qe,Qf,Qg,Qh,Qi,Qj,Qk,Ql,Qm,Qn,Qo,Qp,Qq,Qr,Qs,Qt,Qu,Qv,Qw,Qx,Qy,Qz,QA,QB,QC,QD,QE,QF,QG,QH,QI,QJ,QK,QL,QM,QN,QO,QP,QQ,QR,QS,QT,QU,QV,QW,QX,QY,QZ,X0,X1,X2,X3,X4,X5,X6,X7,X8,X9,Xa,Xb,Xc,Xd,Xe,Xf,Xg,Xh,Xi,Xj,Xk,Xl,Xm,Xn,Xo,Xp,Xq,Xr,Xs,Xt,Xu,Xv,Xw,Xx,Xy,Xz,XA,XB,reduceIte,reduceCtorEq,XC,XD,XE,XF,XG,XH,XI,XJ,XK,XL,XM,XN,XO,XP,XQ,XR,XS,XT,XU,XV,XW,XX,XY,XZ,Y0,Try.q3,Try.q4,Try.q5,Try.q22,Try.q52,Try.q87]
    refine ⟨(i + 1, r3), ⟨rfl, rfl⟩, ⟨by simp only; omega, hx3, ?_⟩, by simp only; omega⟩
    simp only
    rw [List.take_add_one, List.getElem?_eq_getElem hlt, Option.toList_some, List.flatMap_append, List.flatMap_cons, List.flatMap_nil, List.append_nil, ← List.append_assoc]
    exact hb3
  · have d : decide ((i : Int) < (l.length : Int)) = false := decide_eq_false (by omega)
    have hi' : i = l.length := by omega
    rw [hi', List.take_length] at hb1
    simp -implicitDefEqProofs only [w1,d,Q0,Q1,Q2,Q3,Q4,Q5,Q6,Q7,Q8,Q9,Qa,Qb,Qc,Qd,Qe,Qf,Qg,Qh,Qi,Qj,Qk,Ql,Qm,Qn,Qo,Qp,Qq,Qr,Qs,Qt,Qu,Qv,Qw,Qx,Qy,Qz,QA,QB,QC,QD,QE,QF,QG,QH,QI,QJ,QK,QL,QM,QN,QO,QP,QQ,QR,QS,QT,QU,QV,QW,QX,QY,QZ,X0,X1,X2,X3,X4,X5,X6,X7,X8,X9,Xa,Xb,Xc,Xd,Xe,Xf,Xg,Xh,Xi,Xj,Xk,Xl,Xm,Xn,Xo,Xp,Xq,Xr,Xs,Xt,Xu,Xv,Xw,Xx,Xy,Xz,XA,XB,reduceIte,reduceCtorEq,XC,XD,XE,XF,XG,XH,XI,XJ,XK,XL,XM,XN,XO,XP,XQ,XR,XS,XT,XU,XV,XW,XX,XY,XZ,Y0,Try.q3,Try.q4,Try.q5,Try.q22,Try.q52,Try.q87]
    exact ⟨hx1, hb1⟩

theorem in63 {n : Int} (h : Okk .i64 n) : In63 n := okk_i64 h

/-- The bytes of a list of parents. -/
def encP (p : List (List Int)) : List Int := intE p.length ++ p.flatMap intsE

theorem intsE_len {l : List Int} (hl : ∀ n ∈ l, Okk .i64 n) (h : l.length ≤ 1000) : 1 ≤ (intsE l).length ∧ (intsE l).length ≤ 10 + 10 * l.length := by
  have h1 := uintE_len (n := l.length) (by omega)
  have h2 := flatMap_len hl
  unfold intsE
  rw [List.length_append]
  omega

theorem flat_ints {p : List (List Int)} {m : Nat} (hm : m ≤ 1000) (hr : ∀ r ∈ p, r.length ≤ m) (ho : ∀ r ∈ p, ∀ x ∈ r, Okk .i64 x) : (p.flatMap intsE).length ≤ (10 + 10 * m) * p.length := by
  induction p with
  | nil => simp
  | cons a p ih =>
    have h1 := intsE_len (ho a (List.mem_cons_self ..)) (by have := hr a (List.mem_cons_self ..); omega)
    have h2 := ih (fun r h => hr r (List.mem_cons_of_mem _ h)) (fun r h => ho r (List.mem_cons_of_mem _ h))
    have h3 := hr a (List.mem_cons_self ..)
    rw [List.flatMap_cons, List.length_append, List.length_cons, Nat.mul_succ]
    omega

theorem encP_len {p : List (List Int)} {m : Nat} (hp : SmallP p m) (hm : m ≤ 64) : 1 ≤ (encP p).length ∧ (encP p).length ≤ 50000 := by
  have h1 := flat_ints (m := m) (by omega) hp.rows hp.okk
  have h2 := hp.len
  have h3 := uintE_len (zigN_lt (n := (p.length : Int)) (okk_small (by omega) (by omega)))
  have h4 : (10 + 10 * m) * p.length ≤ 650 * 65 := Nat.mul_le_mul (by omega) h2
  unfold encP
  rw [List.length_append]
  unfold intE
  omega

theorem encP_u8 (p : List (List Int)) : U8s (encP p) := by
  unfold encP
  refine U8s.app (uintE_u8 _) fun x hx => ?_
  obtain ⟨r, -, hx⟩ := List.mem_flatMap.1 hx
  unfold intsE at hx
  rcases List.mem_append.1 hx with hx | hx
  · exact uintE_u8 _ x hx
  · obtain ⟨n, -, hx⟩ := List.mem_flatMap.1 hx
    exact uintE_u8 _ x hx

theorem flat_take {p : List (List Int)} {i : Nat} (h : i < p.length) : (p.take (i + 1)).flatMap intsE = (p.take i).flatMap intsE ++ intsE p[i] := by
  rw [List.take_succ_eq_append_getElem h, List.flatMap_append, List.flatMap_cons, List.flatMap_nil, List.append_nil]

theorem c_Encode (p : List (List Int)) {m : Nat} (hm : m ≤ 64) (hp : SmallP p m) (σ : Store) : ACalls Try.prog 31 [taxA p] σ (FreshI σ .u8 (encP p)) := by
  have hL := hp.len
  have kl := c_Len p
  obtain ⟨cs, hcs⟩ : ∃ cs, cs = gridL (relG p) := ⟨_, rfl⟩
  have ht : taxA p = .iptr (.rows 1 (p.map rowI) :: cs) := by rw [hcs]; rfl
  rw [ht] at kl ⊢
  clear hcs ht
  have hml : (p.map rowI).length = p.length := by simp
  refine ACalls.fresh ?_
  have hokl : Okk .i64 (p.length : Int) := okk_small (by omega) (by omega)
  have hil := uintE_len (zigN_lt hokl)
  have hfl := fun i => flat_ints (p := p.take i) (m := m) (by omega) (fun r h => hp.rows r (List.mem_of_mem_take h)) (fun r h => hp.okk r (List.mem_of_mem_take h))
  have hmul : ∀ k, k ≤ 65 → (10 + 10 * m) * k ≤ 650 * 65 := fun k hk => Nat.mul_le_mul (by omega) hk
  refine acalls_of_vc (fn := Try.f31) Try.call31 Try.func31 rfl (by kernel_rfl) (by simp [Try.ntmps31]) ?_; simp -implicitDefEqProofs only [Try.ntmps31,Try.results31,Q0,Q1,Q2,Q3,Q4,Q5,Q6,Q7,Q8,Q9,Qa,Qb,Qc,Qd,Qe,Qf,Qg,Qh,Qi,Qj,Qk,Ql,Qm,Qn,Qo,Qp,Qq,Qr,Qs,Qt,Qu,Qv,Qw,Qx,Qy,Qz,QA,QB,QC,QD,QE,QF,QG,QH,QI,QJ,QK,QL,QM,QN,QO,QP,QQ,QR,QS,QT,QU,QV,QW,QX,QY,QZ,X0,X1,X2,X3,X4,X5,X6,X7,X8,X9,Xa,Xb,Xc,Xd,Xe,Xf,Xg,Xh,Xi,Xj,Xk,Xl,Xm,Xn,Xo,Xp,Xq,Xr,Xs,Xt,Xu,Xv,Xw,Xx,Xy,Xz,XA,XB,reduceIte,reduceCtorEq,XC,XD,XE,XF,XG,XH,XI,XJ,XK,XL,XM,XN,XO,XP,XQ,XR,XS,XT,XU,XV,XW,XX,XY,XZ,Y0,Try.q3,Try.q4,Try.q5,Try.q22,Try.q23,Try.q25,Try.q52,Try.underlying63,Try.q63,Try.underlying65,Try.q65,Try.q73,Try.underlying75,Try.q75]
  refine acalls_then (kl _) ?_
  simp -implicitDefEqProofs only [Q0,Q1,Q2,Q3,Q4,Q5,Q6,Q7,Q8,Q9,Qa,Qb,Qc,Qd,Qe,Qf,Qg,Qh,Qi,Qj,Qk,Ql,Qm,Qn,Qo,Qp,Qq,Qr,Qs,Qt,Qu,Qv,Qw,Qx,Qy,Qz,QA,QB,QC,QD,QE,QF,QG,QH,QI,QJ,QK,QL,QM,QN,QO,QP,QQ,QR,QS,QT,QU,QV,QW,QX,QY,QZ,X0,X1,X2,X3,X4,X5,X6,X7,X8,X9,Xa,Xb,Xc,Xd,Xe,Xf,Xg,Xh,Xi,Xj,Xk,Xl,Xm,Xn,Xo,Xp,Xq,Xr,Xs,Xt,Xu,Xv,Xw,Xx,Xy,Xz,XA,XB,reduceIte,reduceCtorEq,XC,XD,XE,XF,XG,XH,XI,XJ,XK,XL,XM,XN,XO,XP,XQ,XR,XS,XT,XU,XV,XW,XX,XY,XZ,Y0,Try.q3,Try.q4,Try.q5,Try.q22,Try.q23,Try.q25,Try.q52,Try.underlying63,Try.q63,Try.underlying65,Try.q65,Try.q73,Try.underlying75,Try.q75]
  refine ACalls.mono (wr_int (p.length : Int) hokl (WrS.start σ) (by simp)) ?_
  rintro _ s1 ⟨rfl, hw1⟩
  rw [List.nil_append] at hw1
  simp -implicitDefEqProofs only [hml,Q0,Q1,Q2,Q3,Q4,Q5,Q6,Q7,Q8,Q9,Qa,Qb,Qc,Qd,Qe,Qf,Qg,Qh,Qi,Qj,Qk,Ql,Qm,Qn,Qo,Qp,Qq,Qr,Qs,Qt,Qu,Qv,Qw,Qx,Qy,Qz,QA,QB,QC,QD,QE,QF,QG,QH,QI,QJ,QK,QL,QM,QN,QO,QP,QQ,QR,QS,QT,QU,QV,QW,QX,QY,QZ,X0,X1,X2,X3,X4,X5,X6,X7,X8,X9,Xa,Xb,Xc,Xd,Xe,Xf,Xg,Xh,Xi,Xj,Xk,Xl,Xm,Xn,Xo,Xp,Xq,Xr,Xs,Xt,Xu,Xv,Xw,Xx,Xy,Xz,XA,XB,reduceIte,reduceCtorEq,XC,XD,XE,XF,XG,XH,XI,XJ,XK,XL,XM,XN,XO,XP,XQ,XR,XS,XT,XU,XV,XW,XX,XY,XZ,Y0,Try.q3,Try.q4,Try.q5,Try.q22,Try.q23,Try.q25,Try.q52,Try.underlying63,Try.q63,Try.underlying65,Try.q65,Try.q73,Try.underlying75,Try.q75]
  refine awp_loop (fun i : Nat => [(19, .int .i64 i), (18, .int .i64 p.length), (17, .rows 1 (p.map rowI)), (3, .ptr σ.length 0)]) (fun i s => i ≤ p.length ∧ WrS (σ ++ [.box [.nils]]) σ.length (intE p.length ++ (p.take i).flatMap intsE) s) (fun i => p.length - i) 0 (by kernel_rfl) (by simp [sub_cons, sub_nil, get_cons]) ⟨by omega, by simpa using hw1⟩ ?_
  rintro i s ⟨hi, hw⟩
  have hli : (intE p.length ++ (p.take i).flatMap intsE).length ≤ 45000 := by
    have h1 := hfl i
    have h2 := hmul (p.take i).length (by rw [List.length_take]; omega)
    rw [List.length_append]
    unfold intE
    omega
  by_cases hlt : i < p.length
  · have d1 : decide ((i : Int) < (p.length : Int)) = true := decide_eq_true (by omega)
    have wi : IntKind.i64.wrap ((i : Int) + 1) = ((i + 1 : Nat) : Int) := by rw [wrap_i64 (by omega) (by omega)]; rfl
    have hrow : (p.map rowI).getD (i : Int).toNat [] = [.ints .i64 p[i]] := by rw [Int.toNat_natCast]; exact rowI_get p hlt
    have bi : (0 : Int) ≤ (i : Int) ∧ (i : Int) < (p.length : Int) := by omega
    have ht := flat_take hlt
    have hm' := List.getElem_mem hlt
    have hrl := hp.rows _ hm'
    have hro := hp.okk _ hm'
    generalize p[i] = row at *
    simp -implicitDefEqProofs only [d1,hml,hrow,Q0,Q1,Q2,Q3,Q4,Q5,Q6,Q7,Q8,Q9,Qa,Qb,Qc,Qd,Qe,Qf,Qg,Qh,Qi,Qj,Qk,Ql,Qm,Qn,Qo,Qp,Qq,Qr,Qs,Qt,Qu,Qv,Qw,Qx,Qy,Qz,QA,QB,QC,QD,QE,QF,QG,QH,QI,QJ,QK,QL,QM,QN,QO,QP,QQ,QR,QS,QT,QU,QV,QW,QX,QY,QZ,X0,X1,X2,X3,X4,X5,X6,X7,X8,X9,Xa,Xb,Xc,Xd,Xe,Xf,Xg,Xh,Xi,Xj,Xk,Xl,Xm,Xn,Xo,Xp,Xq,Xr,Xs,Xt,Xu,Xv,Xw,Xx,Xy,Xz,XA,XB,reduceIte,reduceCtorEq,XC,XD,XE,XF,XG,XH,XI,XJ,XK,XL,XM,XN,XO,XP,XQ,XR,XS,XT,XU,XV,XW,XX,XY,XZ,Y0,Try.q3,Try.q4,Try.q5,Try.q22,Try.q23,Try.q25,Try.q52,Try.underlying63,Try.q63,Try.underlying65,Try.q65,Try.q73,Try.underlying75,Try.q75]
    refine ⟨bi, ACalls.mono (wr_ints row hro (by omega) hw (by omega)) ?_⟩
    rintro _ s2 ⟨rfl, hw2⟩
    simp -implicitDefEqProofs only [wi,Q0,Q1,Q2,Q3,Q4,Q5,Q6,Q7,Q8,Q9,Qa,Qb,Qc,Qd,Qe,Qf,Qg,Qh,Qi,Qj,Qk,Ql,Qm,Qn,Qo,Qp,Qq,Qr,Qs,Qt,Qu,Qv,Qw,Qx,Qy,Qz,QA,QB,QC,QD,QE,QF,QG,QH,QI,QJ,QK,QL,QM,QN,QO,QP,QQ,QR,QS,QT,QU,QV,QW,QX,QY,QZ,X0,X1,X2,X3,X4,X5,X6,X7,X8,X9,Xa,Xb,Xc,Xd,Xe,Xf,Xg,Xh,Xi,Xj,Xk,Xl,Xm,Xn,Xo,Xp,Xq,Xr,Xs,Xt,Xu,Xv,Xw,Xx,Xy,Xz,XA,XB,reduceIte,reduceCtorEq,XC,XD,XE,XF,XG,XH,XI,XJ,XK,XL,XM,XN,XO,XP,XQ,XR,XS,XT,XU,XV,XW,XX,XY,XZ,Y0,Try.q3,Try.q4,Try.q5,Try.q22,Try.q23,Try.q25,Try.q52,Try.underlying63,Try.q63,Try.underlying65,Try.q65,Try.q73,Try.underlying75,Try.q75]
    exact ⟨i + 1, rfl, ⟨by omega, by rw [ht, ← List.append_assoc]; exact hw2⟩, by omega⟩
  · have d1 : decide ((i : Int) < (p.length : Int)) = false := decide_eq_false (by omega)
    rw [List.take_of_length_le (by omega)] at hw hli
    simp -implicitDefEqProofs only [d1,Q0,Q1,Q2,Q3,Q4,Q5,Q6,Q7,Q8,Q9,Qa,Qb,Qc,Qd,Qe,Qf,Qg,Qh,Qi,Qj,Qk,Ql,Qm,Qn,Qo,Qp,Qq,Qr,Qs,Qt,Qu,Qv,Qw,Qx,Qy,Qz,QA,QB,QC,QD,QE,QF,QG,QH,QI,QJ,QK,QL,QM,QN,QO,QP,QQ,QR,QS,QT,QU,QV,QW,QX,QY,QZ,X0,X1,X2,X3,X4,X5,X6,X7,X8,X9,Xa,Xb,Xc,Xd,Xe,Xf,Xg,Xh,Xi,Xj,Xk,Xl,Xm,Xn,Xo,Xp,Xq,Xr,Xs,Xt,Xu,Xv,Xw,Xx,Xy,Xz,XA,XB,reduceIte,reduceCtorEq,XC,XD,XE,XF,XG,XH,XI,XJ,XK,XL,XM,XN,XO,XP,XQ,XR,XS,XT,XU,XV,XW,XX,XY,XZ,Y0,Try.q3,Try.q4,Try.q5,Try.q22,Try.q23,Try.q25,Try.q52,Try.underlying63,Try.q63,Try.underlying65,Try.q65,Try.q73,Try.underlying75,Try.q75]
    refine ACalls.mono (wr_done hw (by omega)) ?_
    intro r s6 hf
    obtain ⟨h1, h2⟩ := hf.buf
    have hb := WrS.base hw
    simp -implicitDefEqProofs only [Q0,Q1,Q2,Q3,Q4,Q5,Q6,Q7,Q8,Q9,Qa,Qb,Qc,Qd,Qe,Qf,Qg,Qh,Qi,Qj,Qk,Ql,Qm,Qn,Qo,Qp,Qq,Qr,Qs,Qt,Qu,Qv,Qw,Qx,Qy,Qz,QA,QB,QC,QD,QE,QF,QG,QH,QI,QJ,QK,QL,QM,QN,QO,QP,QQ,QR,QS,QT,QU,QV,QW,QX,QY,QZ,X0,X1,X2,X3,X4,X5,X6,X7,X8,X9,Xa,Xb,Xc,Xd,Xe,Xf,Xg,Xh,Xi,Xj,Xk,Xl,Xm,Xn,Xo,Xp,Xq,Xr,Xs,Xt,Xu,Xv,Xw,Xx,Xy,Xz,XA,XB,reduceIte,reduceCtorEq,XC,XD,XE,XF,XG,XH,XI,XJ,XK,XL,XM,XN,XO,XP,XQ,XR,XS,XT,XU,XV,XW,XX,XY,XZ,Y0,Try.q3,Try.q4,Try.q5,Try.q22,Try.q23,Try.q25,Try.q52,Try.underlying63,Try.q63,Try.underlying65,Try.q65,Try.q73,Try.underlying75,Try.q75]
    exact ⟨hb.trans h1, BufI.down h2 (by have := hb.len; omega)⟩

theorem r_Encode (p : List (List Int)) {m : Nat} (hm : m ≤ 64) (hp : SmallP p m) (σ : Store) : ACalls Try.prog 35 [.rows 1 (p.map rowI)] σ (FreshI σ .u8 (encP p)) := by
  have hL := hp.len
  have hml : (p.map rowI).length = p.length := by simp
  refine ACalls.fresh ?_
  have hokl : Okk .i64 (p.length : Int) := okk_small (by omega) (by omega)
  have hil := uintE_len (zigN_lt hokl)
  have hfl := fun i => flat_ints (p := p.take i) (m := m) (by omega) (fun r h => hp.rows r (List.mem_of_mem_take h)) (fun r h => hp.okk r (List.mem_of_mem_take h))
  have hmul : ∀ k, k ≤ 65 → (10 + 10 * m) * k ≤ 650 * 65 := fun k hk => Nat.mul_le_mul (by omega) hk
  refine acalls_of_vc (fn := Try.f35) Try.call35 Try.func35 rfl (by kernel_rfl) (by simp [Try.ntmps35]) ?_; simp -implicitDefEqProofs only [Try.ntmps35,Try.results35,Q0,Q1,Q2,Q3,Q4,Q5,Q6,Q7,Q8,Q9,Qa,Qb,Qc,Qd,Qe,Qf,Qg,Qh,Qi,Qj,Qk,Ql,Qm,Qn,Qo,Qp,Qq,Qr,Qs,Qt,Qu,Qv,Qw,Qx,Qy,Qz,QA,QB,QC,QD,QE,QF,QG,QH,QI,QJ,QK,QL,QM,QN,QO,QP,QQ,QR,QS,QT,QU,QV,QW,QX,QY,QZ,X0,X1,X2,X3,X4,X5,X6,X7,X8,X9,Xa,Xb,Xc,Xd,Xe,Xf,Xg,Xh,Xi,Xj,Xk,Xl,Xm,Xn,Xo,Xp,Xq,Xr,Xs,Xt,Xu,Xv,Xw,Xx,Xy,Xz,XA,XB,reduceIte,reduceCtorEq,XC,XD,XE,XF,XG,XH,XI,XJ,XK,XL,XM,XN,XO,XP,XQ,XR,XS,XT,XU,XV,XW,XX,XY,XZ,Y0,Try.q3,Try.q4,Try.q5,Try.q22,Try.q23,Try.q52]
  simp -implicitDefEqProofs only [hml,Q0,Q1,Q2,Q3,Q4,Q5,Q6,Q7,Q8,Q9,Qa,Qb,Qc,Qd,Qe,Qf,Qg,Qh,Qi,Qj,Qk,Ql,Qm,Qn,Qo,Qp,Qq,Qr,Qs,Qt,Qu,Qv,Qw,Qx,Qy,Qz,QA,QB,QC,QD,QE,QF,QG,QH,QI,QJ,QK,QL,QM,QN,QO,QP,QQ,QR,QS,QT,QU,QV,QW,QX,QY,QZ,X0,X1,X2,X3,X4,X5,X6,X7,X8,X9,Xa,Xb,Xc,Xd,Xe,Xf,Xg,Xh,Xi,Xj,Xk,Xl,Xm,Xn,Xo,Xp,Xq,Xr,Xs,Xt,Xu,Xv,Xw,Xx,Xy,Xz,XA,XB,reduceIte,reduceCtorEq,XC,XD,XE,XF,XG,XH,XI,XJ,XK,XL,XM,XN,XO,XP,XQ,XR,XS,XT,XU,XV,XW,XX,XY,XZ,Y0,Try.q3,Try.q4,Try.q5,Try.q22,Try.q23,Try.q52]
  refine ACalls.mono (re_int (p.length : Int) (in63 hokl) σ) ?_
  intro r s hf
  obtain ⟨hx, hbuf⟩ := hf.buf
  simp -implicitDefEqProofs only [Q0,Q1,Q2,Q3,Q4,Q5,Q6,Q7,Q8,Q9,Qa,Qb,Qc,Qd,Qe,Qf,Qg,Qh,Qi,Qj,Qk,Ql,Qm,Qn,Qo,Qp,Qq,Qr,Qs,Qt,Qu,Qv,Qw,Qx,Qy,Qz,QA,QB,QC,QD,QE,QF,QG,QH,QI,QJ,QK,QL,QM,QN,QO,QP,QQ,QR,QS,QT,QU,QV,QW,QX,QY,QZ,X0,X1,X2,X3,X4,X5,X6,X7,X8,X9,Xa,Xb,Xc,Xd,Xe,Xf,Xg,Xh,Xi,Xj,Xk,Xl,Xm,Xn,Xo,Xp,Xq,Xr,Xs,Xt,Xu,Xv,Xw,Xx,Xy,Xz,XA,XB,reduceIte,reduceCtorEq,XC,XD,XE,XF,XG,XH,XI,XJ,XK,XL,XM,XN,XO,XP,XQ,XR,XS,XT,XU,XV,XW,XX,XY,XZ,Y0,Try.q3,Try.q4,Try.q5,Try.q22,Try.q23,Try.q52]
  refine awp_loop (fun q : Nat × AV => [(4, .int .i64 q.1), (3, q.2), (0, .rows 1 (p.map rowI))]) (fun q s' => q.1 ≤ p.length ∧ Ext σ s' ∧ BufI s' σ.length q.2 .u8 (intE p.length ++ (p.take q.1).flatMap intsE)) (fun q => p.length - q.1) (0, r) (by kernel_rfl) (by simp [sub_cons, sub_nil, get_cons]) ⟨by omega, hx, by simpa using hbuf⟩ ?_
  rintro ⟨i, r1⟩ s1 ⟨hi, hx1, hb1⟩
  simp only at hi hb1
  have hli : (intE p.length ++ (p.take i).flatMap intsE).length ≤ 45000 := by
    have h1 := hfl i
    have h2 := hmul (p.take i).length (by rw [List.length_take]; omega)
    rw [List.length_append]
    unfold intE
    omega
  by_cases hlt : i < p.length
  · have d1 : decide ((i : Int) < (p.length : Int)) = true := decide_eq_true (by omega)
    have wi : IntKind.i64.wrap ((i : Int) + 1) = ((i + 1 : Nat) : Int) := by rw [wrap_i64 (by omega) (by omega)]; rfl
    have hrow : (p.map rowI).getD (i : Int).toNat [] = [.ints .i64 p[i]] := by rw [Int.toNat_natCast]; exact rowI_get p hlt
    have bi : (0 : Int) ≤ (i : Int) ∧ (i : Int) < (p.length : Int) := by omega
    have ht := flat_take hlt
    have hm' := List.getElem_mem hlt
    have hrl := hp.rows _ hm'
    have hro := hp.okk _ hm'
    generalize p[i] = row at *
    have hle := intsE_len hro (by omega)
    simp -implicitDefEqProofs only [d1,hml,hrow,Q0,Q1,Q2,Q3,Q4,Q5,Q6,Q7,Q8,Q9,Qa,Qb,Qc,Qd,Qe,Qf,Qg,Qh,Qi,Qj,Qk,Ql,Qm,Qn,Qo,Qp,Qq,Qr,Qs,Qt,Qu,Qv,Qw,Qx,Qy,Qz,QA,QB,QC,QD,QE,QF,QG,QH,QI,QJ,QK,QL,QM,QN,QO,QP,QQ,QR,QS,QT,QU,QV,QW,QX,QY,QZ,X0,X1,X2,X3,X4,X5,X6,X7,X8,X9,Xa,Xb,Xc,Xd,Xe,Xf,Xg,Xh,Xi,Xj,Xk,Xl,Xm,Xn,Xo,Xp,Xq,Xr,Xs,Xt,Xu,Xv,Xw,Xx,Xy,Xz,XA,XB,reduceIte,reduceCtorEq,XC,XD,XE,XF,XG,XH,XI,XJ,XK,XL,XM,XN,XO,XP,XQ,XR,XS,XT,XU,XV,XW,XX,XY,XZ,Y0,Try.q3,Try.q4,Try.q5,Try.q22,Try.q23,Try.q52]
    refine ⟨bi, ACalls.mono (re_ints row (fun n hn => in63 (hro n hn)) (by omega) s1) ?_⟩
    intro r2 s2 hf2
    obtain ⟨hx2, hb2⟩ := hf2.buf
    simp -implicitDefEqProofs only [Q0,Q1,Q2,Q3,Q4,Q5,Q6,Q7,Q8,Q9,Qa,Qb,Qc,Qd,Qe,Qf,Qg,Qh,Qi,Qj,Qk,Ql,Qm,Qn,Qo,Qp,Qq,Qr,Qs,Qt,Qu,Qv,Qw,Qx,Qy,Qz,QA,QB,QC,QD,QE,QF,QG,QH,QI,QJ,QK,QL,QM,QN,QO,QP,QQ,QR,QS,QT,QU,QV,QW,QX,QY,QZ,X0,X1,X2,X3,X4,X5,X6,X7,X8,X9,Xa,Xb,Xc,Xd,Xe,Xf,Xg,Xh,Xi,Xj,Xk,Xl,Xm,Xn,Xo,Xp,Xq,Xr,Xs,Xt,Xu,Xv,Xw,Xx,Xy,Xz,XA,XB,reduceIte,reduceCtorEq,XC,XD,XE,XF,XG,XH,XI,XJ,XK,XL,XM,XN,XO,XP,XQ,XR,XS,XT,XU,XV,XW,XX,XY,XZ,Y0,Try.q3,Try.q4,Try.q5,Try.q22,Try.q23,Try.q52]
    refine append_buf (σ := σ) Try.sl52 (by simp [Try.bt5]) (hx1.trans hx2) (BufI.grow hb1 hx2) (BufI.cont hb2) (by simp only [appFits, Try.bt5]; omega) fun r3 s3 hx3 hb3 => ?_
    simp -implicitDefEqProofs only [wi,Q0,Q1,Q2,Q3,Q4,Q5,Q6,Q7,Q8,Q9,Qa,Qb,Qc,Qd,Qe,Qf,Qg,Qh,Qi,Qj,Qk,Ql,Qm,Qn,Qo,Qp,Qq,Qr,Qs,Qt,Qu,Qv,Qw,Qx,Qy,Qz,QA,QB,QC,QD,QE,QF,QG,QH,QI,QJ,QK,QL,QM,QN,QO,QP,QQ,QR,QS,QT,QU,QV,QW,QX,QY,QZ,X0,X1,X2,X3,X4,X5,X6,X7,X8,X9,Xa,Xb,Xc,Xd,Xe,Xf,Xg,Xh,Xi,Xj,Xk,Xl,Xm,Xn,Xo,Xp,Xq,Xr,Xs,Xt,Xu,Xv,Xw,Xx,Xy,Xz,XA,XB,reduceIte,reduceCtorEq,XC,XD,XE,XF,XG,XH,XI,XJ,XK,XL,XM,XN,XO,XP,XQ,XR,XS,XT,XU,XV,XW,XX,XY,XZ,Y0,Try.q3,Try.q4,Try.q5,Try.q22,Try.q23,Try.q52]
    exact ⟨(i + 1, r3), ⟨rfl, rfl⟩, ⟨by simp only; omega, hx3, by simp only; rw [ht, ← List.append_assoc]; exact hb3⟩, by simp only; omega⟩
  · have d1 : decide ((i : Int) < (p.length : Int)) = false := decide_eq_false (by omega)
    rw [List.take_of_length_le (by omega)] at hb1
    simp -implicitDefEqProofs only [d1,hml,Q0,Q1,Q2,Q3,Q4,Q5,Q6,Q7,Q8,Q9,Qa,Qb,Qc,Qd,Qe,Qf,Qg,Qh,Qi,Qj,Qk,Ql,Qm,Qn,Qo,Qp,Qq,Qr,Qs,Qt,Qu,Qv,Qw,Qx,Qy,Qz,QA,QB,QC,QD,QE,QF,QG,QH,QI,QJ,QK,QL,QM,QN,QO,QP,QQ,QR,QS,QT,QU,QV,QW,QX,QY,QZ,X0,X1,X2,X3,X4,X5,X6,X7,X8,X9,Xa,Xb,Xc,Xd,Xe,Xf,Xg,Xh,Xi,Xj,Xk,Xl,Xm,Xn,Xo,Xp,Xq,Xr,Xs,Xt,Xu,Xv,Xw,Xx,Xy,Xz,XA,XB,reduceIte,reduceCtorEq,XC,XD,XE,XF,XG,XH,XI,XJ,XK,XL,XM,XN,XO,XP,XQ,XR,XS,XT,XU,XV,XW,XX,XY,XZ,Y0,Try.q3,Try.q4,Try.q5,Try.q22,Try.q23,Try.q52]
    exact ⟨hx1, hb1⟩

end Go.Proofs
