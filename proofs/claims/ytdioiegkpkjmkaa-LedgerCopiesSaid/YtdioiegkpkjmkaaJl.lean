/-
  The ledger: whether entries are sound; contract.
-/
import Derived.Test.YtdioiegkpkjmkaaJk
namespace Go.Proofs
open Go.Pa
open Go.Pa renaming VB0 → Q0, VB1 → Q1, VB2 → Q2, VB3 → Q3, VB4 → Q4, VB5 → Q5, VB6 → Q6, VB7 → Q7, VB8 → Q8, VB9 → Q9, condV_bool → Qa, guardV_bool → Qb, vcS → Qc, evA → Qd, evBin → Qe, nilA → Qf, nilOf → Qg, intOp → Qh, strOp → Qi, evUn → Qj, evConv → Qk, evField → Ql, evFieldAddr → Qm, evIndexAddr → Qn, evIndex → Qo, evIndexA → Qp, bnd → Qq, evSlice → Qr, evLen → Qs, evPick → Qt, evExtract → Qu, evNilCheck → Qv, evMin → Qw, evMax → Qx, evLoadI → Qy, partsOne → QA, intsOf → QB, rowsAV → QC, evBuildSlice → QD, evBuild → QE, fillA → QF, splice → QG, evBuiltin → QH, guardD_bool → QI, dOp → QJ, cl → QK, vcLoad → QL, vcStore → QM, vcMake → QN, convA → QO, evIndexArr → QP, retA → QQ, ressA → QR, resA → QS, envOf → QT, condR_bool → QX, asgEnv → QY, parEnv → QZ, dstAt → XI, vcLook → XT, vcPut → XU, vcEnt → XV, vcESt → XW, vcMLen → XX, vcDel → XY, vcClear → XZ, vcLookD → Y0
open Go.Pa.AV renaming cell → Qz
open Go.Pa.Env renaming put → QU
open List renaming set_cons_zero → QV, set_cons_succ → QW, foldl_cons → X0, foldl_nil → X1, map_cons → X2, map_nil → X3, toList_toArray → X4, getElem?_cons_zero → X5, getElem?_cons_succ → X6, nil_append → Xa, append_nil → Xb, cons_append → Xc, singleton_append → Xd, length_cons → Xe, length_nil → Xf, all_cons → Xg, all_nil → Xh, take_succ_cons → Xi, take_zero → Xj, take_nil → Xk, drop_zero → Xl, drop_succ_cons → Xm, drop_nil → Xn, contains_nil → Xo, contains_cons → Xp
open Option renaming bind_some → X7, map_some → X8, map_none → X9
open Bool renaming or_false → Xq, false_or → Xr, or_true → Xs, true_or → Xt, false_eq_true → XC, not_true → XD, not_false → XE, and_true → XF, true_and → XG, and_self → XH
open Nat renaming reduceEqDiff → Xu, reduceAdd → Xv, reduceSub → Xw, reduceMul → Xx, reduceLT → Xy, reduceLeDiff → Xz, reduceBNe → XA, reduceBEq → XB, zero_add → XL, add_zero → XM
open UInt8 renaming reduceToNat → XJ
open Int renaming cast_ofNat_Int → XK, reduceToNat → XN, reduceLT → XO, reduceLE → XP, reduceNeg → XQ, reduceEq → XR, reduceNe → XS
set_option linter.unusedSimpArgs false
set_option linter.unusedVariables false
set_option maxRecDepth 20000
set_option maxHeartbeats 4000000

/-- The loop's invariant: what the maps hold. -/
def SInv (σ : Store) (Z : List Ent) (m : Nat) (i : Nat) (s : Store) : Prop :=
  i ≤ Z.length ∧ Ext σ s ∧ σ.length ≤ m ∧ ∃ l1 c1 l2 c2, s[m]? = some (.mp (.kv l1 c1)) ∧ s[m + 1]? = some (.mp (.kv l2 c2)) ∧ KvOk PK l1 c1 ∧ KvOk PK l2 c2 ∧
    (∀ a c, (valKV l1 (pk a c)).getD (.int .i64 0) = .int .i64 (balP (Z.take i) a c)) ∧ (∀ a c, valKV l2 (pk a c) ≠ none ↔ a ≠ 0 ∧ balP (Z.take i) a c < 0) ∧
    ∀ j, j < i → Eod Z j → ∀ a c, a ≠ 0 → 0 ≤ balP (Z.take (j + 1)) a c

theorem c_sound1 (es : List Ent) (hne : es ≠ []) (hl : es.length ≤ 20000) (hV : ∀ e ∈ es, Val e) (σ : Store) : ACalls Try.prog 49 [esV es] σ (fun r s => r = .bool (sndB es) ∧ s = σ) := by
  refine ACalls.frozen (ACalls.mono (R := fun r s => r = .bool (sndB es) ∧ Ext σ s) ?_ fun r s ⟨h1, h2⟩ => ⟨h2, by rw [h1]; exact .same _ rfl⟩)
  refine acalls_of_awp (fn := Try.f49) Try.call49 Try.func49 rfl (by simp [Try.ntmps49]) ?_
  simp only [Try.ntmps49, Try.results49]
  refine awp_seq (awp_vc (by kernel_rfl) ?_)
  simp -implicitDefEqProofs only [seqA_normal,seqA_ret,seqA_exit,Q0,Q1,Q2,Q3,Q4,Q5,Q6,Q7,Q8,Q9,Qa,Qb,Qc,Qd,Qe,Qf,Qg,Qh,Qi,Qj,Qk,Ql,Qm,Qn,Qo,Qp,Qq,Qr,Qs,Qt,Qu,Qv,Qw,Qx,Qy,Qz,QA,QB,QC,QD,QE,QF,QG,QH,QI,QJ,QK,QL,QM,QN,QO,QP,QQ,QR,QS,QT,QU,QV,QW,QX,QY,QZ,X0,X1,X2,X3,X4,X5,X6,X7,X8,X9,Xa,Xb,Xc,Xd,Xe,Xf,Xg,Xh,Xi,Xj,Xk,Xl,Xm,Xn,Xo,Xp,Xq,Xr,Xs,Xt,Xu,Xv,Xw,Xx,Xy,Xz,XA,XB,reduceIte,reduceCtorEq,XC,XD,XE,XF,XG,XH,XI,XJ,XK,XL,XM,XN,XO,XP,XQ,XR,XS,XT,XU,XV,XW,XX,XY,XZ,Y0,Try.q3,Try.q4,Try.q29,Try.underlying37,Try.q37,Try.underlying98,Try.q98,Try.underlying99,Try.q99,Try.underlying101,Try.q101,Try.q102]
  refine awp_seq (awp_vc (by kernel_rfl) ?_)
  simp -implicitDefEqProofs only [seqA_normal,seqA_ret,seqA_exit,Q0,Q1,Q2,Q3,Q4,Q5,Q6,Q7,Q8,Q9,Qa,Qb,Qc,Qd,Qe,Qf,Qg,Qh,Qi,Qj,Qk,Ql,Qm,Qn,Qo,Qp,Qq,Qr,Qs,Qt,Qu,Qv,Qw,Qx,Qy,Qz,QA,QB,QC,QD,QE,QF,QG,QH,QI,QJ,QK,QL,QM,QN,QO,QP,QQ,QR,QS,QT,QU,QV,QW,QX,QY,QZ,X0,X1,X2,X3,X4,X5,X6,X7,X8,X9,Xa,Xb,Xc,Xd,Xe,Xf,Xg,Xh,Xi,Xj,Xk,Xl,Xm,Xn,Xo,Xp,Xq,Xr,Xs,Xt,Xu,Xv,Xw,Xx,Xy,Xz,XA,XB,reduceIte,reduceCtorEq,XC,XD,XE,XF,XG,XH,XI,XJ,XK,XL,XM,XN,XO,XP,XQ,XR,XS,XT,XU,XV,XW,XX,XY,XZ,Y0,Try.q3,Try.q4,Try.q29,Try.underlying37,Try.q37,Try.underlying98,Try.q98,Try.underlying99,Try.q99,Try.underlying101,Try.q101,Try.q102]
  refine ACalls.mono (clone_buf es (by omega) σ) ?_
  rintro r s ⟨hx, hb⟩
  obtain ⟨id, rfl, ho, hn⟩ : ∃ id, r = .mvec id 0 es.length 6 ∧ s[id]? = some (rowsE es) ∧ σ.length ≤ id := by
    rcases hb with ⟨_, h⟩ | ⟨id, h1, h2, h3⟩
    · exact absurd (List.map_eq_nil_iff.1 h) hne
    · exact ⟨id, by rw [h1, List.length_map], h2, h3⟩
  simp -implicitDefEqProofs only [seqA_normal,Q0,Q1,Q2,Q3,Q4,Q5,Q6,Q7,Q8,Q9,Qa,Qb,Qc,Qd,Qe,Qf,Qg,Qh,Qi,Qj,Qk,Ql,Qm,Qn,Qo,Qp,Qq,Qr,Qs,Qt,Qu,Qv,Qw,Qx,Qy,Qz,QA,QB,QC,QD,QE,QF,QG,QH,QI,QJ,QK,QL,QM,QN,QO,QP,QQ,QR,QS,QT,QU,QV,QW,QX,QY,QZ,X0,X1,X2,X3,X4,X5,X6,X7,X8,X9,Xa,Xb,Xc,Xd,Xe,Xf,Xg,Xh,Xi,Xj,Xk,Xl,Xm,Xn,Xo,Xp,Xq,Xr,Xs,Xt,Xu,Xv,Xw,Xx,Xy,Xz,XA,XB,reduceIte,reduceCtorEq,XC,XD,XE,XF,XG,XH,XI,XJ,XK,XL,XM,XN,XO,XP,XQ,XR,XS,XT,XU,XV,XW,XX,XY,XZ,Y0,Try.q3,Try.q4,Try.q29,Try.underlying37,Try.q37,Try.underlying98,Try.q98,Try.underlying99,Try.q99,Try.underlying101,Try.q101,Try.q102]
  refine awp_seq (awp_vc (by kernel_rfl) ?_)
  simp -implicitDefEqProofs only [seqA_normal,seqA_ret,seqA_exit,Q0,Q1,Q2,Q3,Q4,Q5,Q6,Q7,Q8,Q9,Qa,Qb,Qc,Qd,Qe,Qf,Qg,Qh,Qi,Qj,Qk,Ql,Qm,Qn,Qo,Qp,Qq,Qr,Qs,Qt,Qu,Qv,Qw,Qx,Qy,Qz,QA,QB,QC,QD,QE,QF,QG,QH,QI,QJ,QK,QL,QM,QN,QO,QP,QQ,QR,QS,QT,QU,QV,QW,QX,QY,QZ,X0,X1,X2,X3,X4,X5,X6,X7,X8,X9,Xa,Xb,Xc,Xd,Xe,Xf,Xg,Xh,Xi,Xj,Xk,Xl,Xm,Xn,Xo,Xp,Xq,Xr,Xs,Xt,Xu,Xv,Xw,Xx,Xy,Xz,XA,XB,reduceIte,reduceCtorEq,XC,XD,XE,XF,XG,XH,XI,XJ,XK,XL,XM,XN,XO,XP,XQ,XR,XS,XT,XU,XV,XW,XX,XY,XZ,Y0,Try.q3,Try.q4,Try.q29,Try.underlying37,Try.q37,Try.underlying98,Try.q98,Try.underlying99,Try.q99,Try.underlying101,Try.q101,Try.q102]
  refine ACalls.mono (c_sort es (by omega) (fun e he => (hV e he).dayOk) rfl s id ho) ?_
  rintro r s2 ⟨Z, hp, hS, rfl⟩
  simp -implicitDefEqProofs only [seqA_normal,Q0,Q1,Q2,Q3,Q4,Q5,Q6,Q7,Q8,Q9,Qa,Qb,Qc,Qd,Qe,Qf,Qg,Qh,Qi,Qj,Qk,Ql,Qm,Qn,Qo,Qp,Qq,Qr,Qs,Qt,Qu,Qv,Qw,Qx,Qy,Qz,QA,QB,QC,QD,QE,QF,QG,QH,QI,QJ,QK,QL,QM,QN,QO,QP,QQ,QR,QS,QT,QU,QV,QW,QX,QY,QZ,X0,X1,X2,X3,X4,X5,X6,X7,X8,X9,Xa,Xb,Xc,Xd,Xe,Xf,Xg,Xh,Xi,Xj,Xk,Xl,Xm,Xn,Xo,Xp,Xq,Xr,Xs,Xt,Xu,Xv,Xw,Xx,Xy,Xz,XA,XB,reduceIte,reduceCtorEq,XC,XD,XE,XF,XG,XH,XI,XJ,XK,XL,XM,XN,XO,XP,XQ,XR,XS,XT,XU,XV,XW,XX,XY,XZ,Y0,Try.q3,Try.q4,Try.q29,Try.underlying37,Try.q37,Try.underlying98,Try.q98,Try.underlying99,Try.q99,Try.underlying101,Try.q101,Try.q102]
  have hid : id < s.length := (List.getElem?_eq_some_iff.1 ho).1
  have hx2 : Ext σ (s.set id (rowsE Z)) := hx.set hn _
  have hb2 : BufR (s.set id (rowsE Z)) id (.mvec id 0 es.length 6) 6 (Z.map entA) := .inr ⟨id, by rw [List.length_map, hp.length_eq], List.getElem?_set_self hid, Nat.le_refl _⟩
  generalize s.set id (rowsE Z) = s2 at hx2 hb2
  have hid2 : id < s2.length := by
    rcases hb2 with ⟨h | h, _⟩ | ⟨j, h1, h2, _⟩
    · cases h
    · cases h
    · injection h1 with h1; subst h1; exact (List.getElem?_eq_some_iff.1 h2).1
  refine awp_kill id s2.length (by omega) (Nat.le_refl _) [(3, esV Z)] ⟨⟨_, rfl, hb2.sh (Nat.le_refl _) rfl (entA_len _) fun i x y h1 h2 => by rw [h1] at h2; cases h2; exact .same _⟩, trivial⟩ ?_
  have hx3 : Ext σ (killS s2 id s2.length) := killS_ext hx2 (by omega) (Nat.le_refl _) hn
  generalize killS s2 id s2.length = s3 at hx3
  clear hb2 hx2 hid2 hid ho hx hb hn
  have hVZ : ∀ e ∈ Z, Val e := fun e he => hV e (hp.subset he)
  have hlZ : Z.length ≤ 20000 := by rw [hp.length_eq]; exact hl
  refine awp_seq (awp_vc (by kernel_rfl) ?_)
  simp -implicitDefEqProofs only [seqA_normal,seqA_ret,seqA_exit,Q0,Q1,Q2,Q3,Q4,Q5,Q6,Q7,Q8,Q9,Qa,Qb,Qc,Qd,Qe,Qf,Qg,Qh,Qi,Qj,Qk,Ql,Qm,Qn,Qo,Qp,Qq,Qr,Qs,Qt,Qu,Qv,Qw,Qx,Qy,Qz,QA,QB,QC,QD,QE,QF,QG,QH,QI,QJ,QK,QL,QM,QN,QO,QP,QQ,QR,QS,QT,QU,QV,QW,QX,QY,QZ,X0,X1,X2,X3,X4,X5,X6,X7,X8,X9,Xa,Xb,Xc,Xd,Xe,Xf,Xg,Xh,Xi,Xj,Xk,Xl,Xm,Xn,Xo,Xp,Xq,Xr,Xs,Xt,Xu,Xv,Xw,Xx,Xy,Xz,XA,XB,reduceIte,reduceCtorEq,XC,XD,XE,XF,XG,XH,XI,XJ,XK,XL,XM,XN,XO,XP,XQ,XR,XS,XT,XU,XV,XW,XX,XY,XZ,Y0,Try.q3,Try.q4,Try.q29,Try.underlying37,Try.q37,Try.underlying98,Try.q98,Try.underlying99,Try.q99,Try.underlying101,Try.q101,Try.q102]
  refine awp_seq (awp_vc (by kernel_rfl) ?_)
  simp -implicitDefEqProofs only [seqA_normal,seqA_ret,seqA_exit,Q0,Q1,Q2,Q3,Q4,Q5,Q6,Q7,Q8,Q9,Qa,Qb,Qc,Qd,Qe,Qf,Qg,Qh,Qi,Qj,Qk,Ql,Qm,Qn,Qo,Qp,Qq,Qr,Qs,Qt,Qu,Qv,Qw,Qx,Qy,Qz,QA,QB,QC,QD,QE,QF,QG,QH,QI,QJ,QK,QL,QM,QN,QO,QP,QQ,QR,QS,QT,QU,QV,QW,QX,QY,QZ,X0,X1,X2,X3,X4,X5,X6,X7,X8,X9,Xa,Xb,Xc,Xd,Xe,Xf,Xg,Xh,Xi,Xj,Xk,Xl,Xm,Xn,Xo,Xp,Xq,Xr,Xs,Xt,Xu,Xv,Xw,Xx,Xy,Xz,XA,XB,reduceIte,reduceCtorEq,XC,XD,XE,XF,XG,XH,XI,XJ,XK,XL,XM,XN,XO,XP,XQ,XR,XS,XT,XU,XV,XW,XX,XY,XZ,Y0,Try.q3,Try.q4,Try.q29,Try.underlying37,Try.q37,Try.underlying98,Try.q98,Try.underlying99,Try.q99,Try.underlying101,Try.q101,Try.q102]
  have lm : (Z.map entA).length = Z.length := List.length_map _
  refine awp_seq (awp_vc (by kernel_rfl) ?_)
  simp -implicitDefEqProofs only [seqA_normal,seqA_ret,seqA_exit,lm,Q0,Q1,Q2,Q3,Q4,Q5,Q6,Q7,Q8,Q9,Qa,Qb,Qc,Qd,Qe,Qf,Qg,Qh,Qi,Qj,Qk,Ql,Qm,Qn,Qo,Qp,Qq,Qr,Qs,Qt,Qu,Qv,Qw,Qx,Qy,Qz,QA,QB,QC,QD,QE,QF,QG,QH,QI,QJ,QK,QL,QM,QN,QO,QP,QQ,QR,QS,QT,QU,QV,QW,QX,QY,QZ,X0,X1,X2,X3,X4,X5,X6,X7,X8,X9,Xa,Xb,Xc,Xd,Xe,Xf,Xg,Xh,Xi,Xj,Xk,Xl,Xm,Xn,Xo,Xp,Xq,Xr,Xs,Xt,Xu,Xv,Xw,Xx,Xy,Xz,XA,XB,reduceIte,reduceCtorEq,XC,XD,XE,XF,XG,XH,XI,XJ,XK,XL,XM,XN,XO,XP,XQ,XR,XS,XT,XU,XV,XW,XX,XY,XZ,Y0,Try.q3,Try.q4,Try.q29,Try.underlying37,Try.q37,Try.underlying98,Try.q98,Try.underlying99,Try.q99,Try.underlying101,Try.q101,Try.q102]
  refine awp_loopW (fun i : Nat => [(21, .int .i64 i), (20, .int .i64 Z.length), (19, esV Z), (3, esV Z), (4, .mp s3.length), (5, .mp (s3.length + 1))]) (SInv σ Z s3.length) (fun i => Z.length - i) 0 (by simp [sub_cons, sub_nil, get_cons]) ?_ ?_
  · refine ⟨Nat.zero_le _, hx3.trans (by simpa using Ext.app s3 [.mp (.kv [] 0), .mp (.kv [] 0)]), hx3.len, [], 0, [], 0, by simp, by simp, .nil _, .nil _, fun a c => rfl, fun a c => ?_, fun j hj => by omega⟩
    simp [valKV, lookKV, balP]
  rintro i s ⟨hi, hx, hm, l1, c1, l2, c2, g1, g2, k1, k2, b1, b2, hok⟩
  by_cases hlt : i < Z.length
  · have d1 : decide ((i : Int) < (Z.length : Int)) = true := decide_eq_true (by omega)
    have wi : IntKind.i64.wrap ((i : Int) + 1) = ((i + 1 : Nat) : Int) := by rw [wrap_i64 (by omega) (by omega)]; rfl
    have hVe := hVZ _ (List.getElem_mem hlt)
    have hrow : (Z.map entA).getD (i : Int).toNat [] = entA Z[i] := by rw [Int.toNat_natCast, getD_get (by simpa using hlt)]; simp
    generalize hze : Z[i] = e at *
    refine awp_seq (awp_vc (by kernel_rfl) ?_)
    simp -implicitDefEqProofs only [seqA_normal,seqA_ret,seqA_exit,d1,Q0,Q1,Q2,Q3,Q4,Q5,Q6,Q7,Q8,Q9,Qa,Qb,Qc,Qd,Qe,Qf,Qg,Qh,Qi,Qj,Qk,Ql,Qm,Qn,Qo,Qp,Qq,Qr,Qs,Qt,Qu,Qv,Qw,Qx,Qy,Qz,QA,QB,QC,QD,QE,QF,QG,QH,QI,QJ,QK,QL,QM,QN,QO,QP,QQ,QR,QS,QT,QU,QV,QW,QX,QY,QZ,X0,X1,X2,X3,X4,X5,X6,X7,X8,X9,Xa,Xb,Xc,Xd,Xe,Xf,Xg,Xh,Xi,Xj,Xk,Xl,Xm,Xn,Xo,Xp,Xq,Xr,Xs,Xt,Xu,Xv,Xw,Xx,Xy,Xz,XA,XB,reduceIte,reduceCtorEq,XC,XD,XE,XF,XG,XH,XI,XJ,XK,XL,XM,XN,XO,XP,XQ,XR,XS,XT,XU,XV,XW,XX,XY,XZ,Y0,Try.q3,Try.q4,Try.q29,Try.underlying37,Try.q37,Try.underlying98,Try.q98,Try.underlying99,Try.q99,Try.underlying101,Try.q101,Try.q102]
    refine awp_seq (awp_vc (by kernel_rfl) ?_)
    simp -implicitDefEqProofs only [seqA_normal,seqA_ret,seqA_exit,Q0,Q1,Q2,Q3,Q4,Q5,Q6,Q7,Q8,Q9,Qa,Qb,Qc,Qd,Qe,Qf,Qg,Qh,Qi,Qj,Qk,Ql,Qm,Qn,Qo,Qp,Qq,Qr,Qs,Qt,Qu,Qv,Qw,Qx,Qy,Qz,QA,QB,QC,QD,QE,QF,QG,QH,QI,QJ,QK,QL,QM,QN,QO,QP,QQ,QR,QS,QT,QU,QV,QW,QX,QY,QZ,X0,X1,X2,X3,X4,X5,X6,X7,X8,X9,Xa,Xb,Xc,Xd,Xe,Xf,Xg,Xh,Xi,Xj,Xk,Xl,Xm,Xn,Xo,Xp,Xq,Xr,Xs,Xt,Xu,Xv,Xw,Xx,Xy,Xz,XA,XB,reduceIte,reduceCtorEq,XC,XD,XE,XF,XG,XH,XI,XJ,XK,XL,XM,XN,XO,XP,XQ,XR,XS,XT,XU,XV,XW,XX,XY,XZ,Y0,Try.q3,Try.q4,Try.q29,Try.underlying37,Try.q37,Try.underlying98,Try.q98,Try.underlying99,Try.q99,Try.underlying101,Try.q101,Try.q102]
    refine awp_seq (awp_blk ?_)
    refine awp_seq (awp_vc (by kernel_rfl) ?_)
    simp -implicitDefEqProofs only [seqA_normal,seqA_ret,seqA_exit,hrow,lm,entA_take,entA_six,entA_all,entA_drop,Xb,Q0,Q1,Q2,Q3,Q4,Q5,Q6,Q7,Q8,Q9,Qa,Qb,Qc,Qd,Qe,Qf,Qg,Qh,Qi,Qj,Qk,Ql,Qm,Qn,Qo,Qp,Qq,Qr,Qs,Qt,Qu,Qv,Qw,Qx,Qy,Qz,QA,QB,QC,QD,QE,QF,QG,QH,QI,QJ,QK,QL,QM,QN,QO,QP,QQ,QR,QS,QT,QU,QV,QW,QX,QY,QZ,X0,X1,X2,X3,X4,X5,X6,X7,X8,X9,Xa,Xb,Xc,Xd,Xe,Xf,Xg,Xh,Xi,Xj,Xk,Xl,Xm,Xn,Xo,Xp,Xq,Xr,Xs,Xt,Xu,Xv,Xw,Xx,Xy,Xz,XA,XB,reduceIte,reduceCtorEq,XC,XD,XE,XF,XG,XH,XI,XJ,XK,XL,XM,XN,XO,XP,XQ,XR,XS,XT,XU,XV,XW,XX,XY,XZ,Y0,Try.q3,Try.q4,Try.q29,Try.underlying37,Try.q37,Try.underlying98,Try.q98,Try.underlying99,Try.q99,Try.underlying101,Try.q101,Try.q102]
    refine ⟨by omega, ?_⟩
    refine awp_kill s.length (s.length + 1) (by omega) (by simp) [(7, .iptr (entA e)), (6, .int .i64 i), (21, .int .i64 i), (20, .int .i64 Z.length), (19, esV Z), (3, esV Z), (4, .mp s3.length), (5, .mp (s3.length + 1))]
      ⟨⟨_, rfl, .boxAll (by simp) ⟨by omega, by omega⟩⟩, ⟨_, rfl, .same _⟩, ⟨_, rfl, .same _⟩, ⟨_, rfl, .same _⟩, ⟨_, rfl, .same _⟩, ⟨_, rfl, .same _⟩, ⟨_, rfl, .same _⟩, ⟨_, rfl, .same _⟩, trivial⟩ ?_
    have hx4 : Ext s (killS (s ++ [.box (entA e)]) s.length (s.length + 1)) := killS_ext (Ext.app _ _) (by omega) (by simp) (Nat.le_refl _)
    generalize killS (s ++ [.box (entA e)]) s.length (s.length + 1) = s4 at hx4
    refine awp_seq (awp_any (fun L e' s' => ∃ x y, PInv e [(7, .iptr (entA e)), (6, .int .i64 i), (21, .int .i64 i), (20, .int .i64 Z.length), (19, esV Z), (3, esV Z), (4, .mp s3.length), (5, .mp (s3.length + 1))] s4 x y L e' s') Try.mixed (by kernel_rfl) ?_ ?_ ?_)
    · exact ⟨0, 0, Ext.refl _, fun t v h => h, fun j _ h => (by cases h), fun h => (by cases h), fun h => (by cases h), fun h => (by cases h), fun h => (by cases h), fun h => (by cases h)⟩
    · rintro L e1 s5 k o hio hedge hun ⟨x, y, hF⟩
      have hb : ∀ t v, Env.get [(7, .iptr (entA e)), (6, .int .i64 i), (21, .int .i64 i), (20, .int .i64 Z.length), (19, esV Z), (3, esV Z), (4, .mp s3.length), (5, .mp (s3.length + 1))] t = some v → t ≠ 8 ∧ t ≠ 9 ∧ t < 26 := by
        intro t v h
        simp only [Env.get] at h
        refine ⟨?_, ?_, ?_⟩
        · rintro rfl; simp at h
        · rintro rfl; simp at h
        · rcases Nat.lt_or_ge t 26 with h1 | h1
          · exact h1
          · exfalso
            simp only [show ¬ 7 = t by omega, show ¬ 6 = t by omega, show ¬ 21 = t by omega, show ¬ 20 = t by omega, show ¬ 19 = t by omega, show ¬ 3 = t by omega, show ¬ 4 = t by omega, show ¬ 5 = t by omega, if_false] at h
            cases h
      have q7 : lookA e1 7 = .iptr (entA e) := look_of (hF.bs 7 _ rfl)
      match k, hio, hun with
      | 0, hio, hun =>
        cases hio
        refine vcOp_sound ?_
        simp -implicitDefEqProofs only [q7,Q0,Q1,Q2,Q3,Q4,Q5,Q6,Q7,Q8,Q9,Qa,Qb,Qc,Qd,Qe,Qf,Qg,Qh,Qi,Qj,Qk,Ql,Qm,Qn,Qo,Qp,Qq,Qr,Qs,Qt,Qu,Qv,Qw,Qx,Qy,Qz,QA,QB,QC,QD,QE,QF,QG,QH,QI,QJ,QK,QL,QM,QN,QO,QP,QQ,QR,QS,QT,QU,QV,QW,QX,QY,QZ,X0,X1,X2,X3,X4,X5,X6,X7,X8,X9,Xa,Xb,Xc,Xd,Xe,Xf,Xg,Xh,Xi,Xj,Xk,Xl,Xm,Xn,Xo,Xp,Xq,Xr,Xs,Xt,Xu,Xv,Xw,Xx,Xy,Xz,XA,XB,reduceIte,reduceCtorEq,XC,XD,XE,XF,XG,XH,XI,XJ,XK,XL,XM,XN,XO,XP,XQ,XR,XS,XT,XU,XV,XW,XX,XY,XZ,Y0,Try.q3,Try.q4,Try.q29,Try.underlying37,Try.q37,Try.underlying98,Try.q98,Try.underlying99,Try.q99,Try.underlying101,Try.q101,Try.q102]
        exact fun L' hL => ⟨x, y, hF.tmp hb (i := 0) hL (by decide)⟩
      | 1, hio, hun =>
        cases hio
        have q26 : lookA e1 26 = .iptr [.int .i64 e.fr, .int .i64 e.to, .int .i64 e.cur, .int .i64 e.amt, .int .i64 e.note] := look_of (hF.val 0 (by decide) (hedge 0 (of_decide_eq_true (by kernel_rfl))))
        refine vcOp_sound ?_
        simp -implicitDefEqProofs only [q7,q26,Q0,Q1,Q2,Q3,Q4,Q5,Q6,Q7,Q8,Q9,Qa,Qb,Qc,Qd,Qe,Qf,Qg,Qh,Qi,Qj,Qk,Ql,Qm,Qn,Qo,Qp,Qq,Qr,Qs,Qt,Qu,Qv,Qw,Qx,Qy,Qz,QA,QB,QC,QD,QE,QF,QG,QH,QI,QJ,QK,QL,QM,QN,QO,QP,QQ,QR,QS,QT,QU,QV,QW,QX,QY,QZ,X0,X1,X2,X3,X4,X5,X6,X7,X8,X9,Xa,Xb,Xc,Xd,Xe,Xf,Xg,Xh,Xi,Xj,Xk,Xl,Xm,Xn,Xo,Xp,Xq,Xr,Xs,Xt,Xu,Xv,Xw,Xx,Xy,Xz,XA,XB,reduceIte,reduceCtorEq,XC,XD,XE,XF,XG,XH,XI,XJ,XK,XL,XM,XN,XO,XP,XQ,XR,XS,XT,XU,XV,XW,XX,XY,XZ,Y0,Try.q3,Try.q4,Try.q29,Try.underlying37,Try.q37,Try.underlying98,Try.q98,Try.underlying99,Try.q99,Try.underlying101,Try.q101,Try.q102]
        exact fun L' hL => ⟨x, y, hF.tmp hb (i := 1) hL (by decide)⟩
      | 2, hio, hun =>
        cases hio
        refine vcOp_sound ?_
        simp -implicitDefEqProofs only [q7,Q0,Q1,Q2,Q3,Q4,Q5,Q6,Q7,Q8,Q9,Qa,Qb,Qc,Qd,Qe,Qf,Qg,Qh,Qi,Qj,Qk,Ql,Qm,Qn,Qo,Qp,Qq,Qr,Qs,Qt,Qu,Qv,Qw,Qx,Qy,Qz,QA,QB,QC,QD,QE,QF,QG,QH,QI,QJ,QK,QL,QM,QN,QO,QP,QQ,QR,QS,QT,QU,QV,QW,QX,QY,QZ,X0,X1,X2,X3,X4,X5,X6,X7,X8,X9,Xa,Xb,Xc,Xd,Xe,Xf,Xg,Xh,Xi,Xj,Xk,Xl,Xm,Xn,Xo,Xp,Xq,Xr,Xs,Xt,Xu,Xv,Xw,Xx,Xy,Xz,XA,XB,reduceIte,reduceCtorEq,XC,XD,XE,XF,XG,XH,XI,XJ,XK,XL,XM,XN,XO,XP,XQ,XR,XS,XT,XU,XV,XW,XX,XY,XZ,Y0,Try.q3,Try.q4,Try.q29,Try.underlying37,Try.q37,Try.underlying98,Try.q98,Try.underlying99,Try.q99,Try.underlying101,Try.q101,Try.q102]
        exact fun L' hL => ⟨x, y, hF.tmp hb (i := 2) hL (by decide)⟩
      | 3, hio, hun =>
        cases hio
        have q28 : lookA e1 28 = .iptr [.int .i64 e.cur, .int .i64 e.amt, .int .i64 e.note] := look_of (hF.val 2 (by decide) (hedge 2 (of_decide_eq_true (by kernel_rfl))))
        refine vcOp_sound ?_
        simp -implicitDefEqProofs only [q7,q28,Q0,Q1,Q2,Q3,Q4,Q5,Q6,Q7,Q8,Q9,Qa,Qb,Qc,Qd,Qe,Qf,Qg,Qh,Qi,Qj,Qk,Ql,Qm,Qn,Qo,Qp,Qq,Qr,Qs,Qt,Qu,Qv,Qw,Qx,Qy,Qz,QA,QB,QC,QD,QE,QF,QG,QH,QI,QJ,QK,QL,QM,QN,QO,QP,QQ,QR,QS,QT,QU,QV,QW,QX,QY,QZ,X0,X1,X2,X3,X4,X5,X6,X7,X8,X9,Xa,Xb,Xc,Xd,Xe,Xf,Xg,Xh,Xi,Xj,Xk,Xl,Xm,Xn,Xo,Xp,Xq,Xr,Xs,Xt,Xu,Xv,Xw,Xx,Xy,Xz,XA,XB,reduceIte,reduceCtorEq,XC,XD,XE,XF,XG,XH,XI,XJ,XK,XL,XM,XN,XO,XP,XQ,XR,XS,XT,XU,XV,XW,XX,XY,XZ,Y0,Try.q3,Try.q4,Try.q29,Try.underlying37,Try.q37,Try.underlying98,Try.q98,Try.underlying99,Try.q99,Try.underlying101,Try.q101,Try.q102]
        exact fun L' hL => ⟨x, y, hF.tmp hb (i := 3) hL (by decide)⟩
      | 4, hio, hun =>
        cases hio
        have q27 : lookA e1 27 = .int .i64 e.fr := look_of (hF.val 1 (by decide) (hedge 1 (of_decide_eq_true (by kernel_rfl))))
        have q29 : lookA e1 29 = .int .i64 e.cur := look_of (hF.val 3 (by decide) (hedge 3 (of_decide_eq_true (by kernel_rfl))))
        refine vcOp_sound ?_
        simp -implicitDefEqProofs only [q7,q27,q29,Q0,Q1,Q2,Q3,Q4,Q5,Q6,Q7,Q8,Q9,Qa,Qb,Qc,Qd,Qe,Qf,Qg,Qh,Qi,Qj,Qk,Ql,Qm,Qn,Qo,Qp,Qq,Qr,Qs,Qt,Qu,Qv,Qw,Qx,Qy,Qz,QA,QB,QC,QD,QE,QF,QG,QH,QI,QJ,QK,QL,QM,QN,QO,QP,QQ,QR,QS,QT,QU,QV,QW,QX,QY,QZ,X0,X1,X2,X3,X4,X5,X6,X7,X8,X9,Xa,Xb,Xc,Xd,Xe,Xf,Xg,Xh,Xi,Xj,Xk,Xl,Xm,Xn,Xo,Xp,Xq,Xr,Xs,Xt,Xu,Xv,Xw,Xx,Xy,Xz,XA,XB,reduceIte,reduceCtorEq,XC,XD,XE,XF,XG,XH,XI,XJ,XK,XL,XM,XN,XO,XP,XQ,XR,XS,XT,XU,XV,XW,XX,XY,XZ,Y0,Try.q3,Try.q4,Try.q29,Try.underlying37,Try.q37,Try.underlying98,Try.q98,Try.underlying99,Try.q99,Try.underlying101,Try.q101,Try.q102]
        exact fun L' hL => ⟨x, y, hF.tmp hb (i := 4) hL (by decide)⟩
      | 5, hio, hun =>
        cases hio
        refine vcOp_sound ?_
        simp -implicitDefEqProofs only [q7,Q0,Q1,Q2,Q3,Q4,Q5,Q6,Q7,Q8,Q9,Qa,Qb,Qc,Qd,Qe,Qf,Qg,Qh,Qi,Qj,Qk,Ql,Qm,Qn,Qo,Qp,Qq,Qr,Qs,Qt,Qu,Qv,Qw,Qx,Qy,Qz,QA,QB,QC,QD,QE,QF,QG,QH,QI,QJ,QK,QL,QM,QN,QO,QP,QQ,QR,QS,QT,QU,QV,QW,QX,QY,QZ,X0,X1,X2,X3,X4,X5,X6,X7,X8,X9,Xa,Xb,Xc,Xd,Xe,Xf,Xg,Xh,Xi,Xj,Xk,Xl,Xm,Xn,Xo,Xp,Xq,Xr,Xs,Xt,Xu,Xv,Xw,Xx,Xy,Xz,XA,XB,reduceIte,reduceCtorEq,XC,XD,XE,XF,XG,XH,XI,XJ,XK,XL,XM,XN,XO,XP,XQ,XR,XS,XT,XU,XV,XW,XX,XY,XZ,Y0,Try.q3,Try.q4,Try.q29,Try.underlying37,Try.q37,Try.underlying98,Try.q98,Try.underlying99,Try.q99,Try.underlying101,Try.q101,Try.q102]
        exact fun L' hL => ⟨x, y, hF.tmp hb (i := 5) hL (by decide)⟩
      | 6, hio, hun =>
        cases hio
        have q31 : lookA e1 31 = .iptr [.int .i64 e.to, .int .i64 e.cur, .int .i64 e.amt, .int .i64 e.note] := look_of (hF.val 5 (by decide) (hedge 5 (of_decide_eq_true (by kernel_rfl))))
        refine vcOp_sound ?_
        simp -implicitDefEqProofs only [q7,q31,Q0,Q1,Q2,Q3,Q4,Q5,Q6,Q7,Q8,Q9,Qa,Qb,Qc,Qd,Qe,Qf,Qg,Qh,Qi,Qj,Qk,Ql,Qm,Qn,Qo,Qp,Qq,Qr,Qs,Qt,Qu,Qv,Qw,Qx,Qy,Qz,QA,QB,QC,QD,QE,QF,QG,QH,QI,QJ,QK,QL,QM,QN,QO,QP,QQ,QR,QS,QT,QU,QV,QW,QX,QY,QZ,X0,X1,X2,X3,X4,X5,X6,X7,X8,X9,Xa,Xb,Xc,Xd,Xe,Xf,Xg,Xh,Xi,Xj,Xk,Xl,Xm,Xn,Xo,Xp,Xq,Xr,Xs,Xt,Xu,Xv,Xw,Xx,Xy,Xz,XA,XB,reduceIte,reduceCtorEq,XC,XD,XE,XF,XG,XH,XI,XJ,XK,XL,XM,XN,XO,XP,XQ,XR,XS,XT,XU,XV,XW,XX,XY,XZ,Y0,Try.q3,Try.q4,Try.q29,Try.underlying37,Try.q37,Try.underlying98,Try.q98,Try.underlying99,Try.q99,Try.underlying101,Try.q101,Try.q102]
        exact fun L' hL => ⟨x, y, hF.tmp hb (i := 6) hL (by decide)⟩
      | 7, hio, hun =>
        cases hio
        refine vcOp_sound ?_
        simp -implicitDefEqProofs only [q7,Q0,Q1,Q2,Q3,Q4,Q5,Q6,Q7,Q8,Q9,Qa,Qb,Qc,Qd,Qe,Qf,Qg,Qh,Qi,Qj,Qk,Ql,Qm,Qn,Qo,Qp,Qq,Qr,Qs,Qt,Qu,Qv,Qw,Qx,Qy,Qz,QA,QB,QC,QD,QE,QF,QG,QH,QI,QJ,QK,QL,QM,QN,QO,QP,QQ,QR,QS,QT,QU,QV,QW,QX,QY,QZ,X0,X1,X2,X3,X4,X5,X6,X7,X8,X9,Xa,Xb,Xc,Xd,Xe,Xf,Xg,Xh,Xi,Xj,Xk,Xl,Xm,Xn,Xo,Xp,Xq,Xr,Xs,Xt,Xu,Xv,Xw,Xx,Xy,Xz,XA,XB,reduceIte,reduceCtorEq,XC,XD,XE,XF,XG,XH,XI,XJ,XK,XL,XM,XN,XO,XP,XQ,XR,XS,XT,XU,XV,XW,XX,XY,XZ,Y0,Try.q3,Try.q4,Try.q29,Try.underlying37,Try.q37,Try.underlying98,Try.q98,Try.underlying99,Try.q99,Try.underlying101,Try.q101,Try.q102]
        exact fun L' hL => ⟨x, y, hF.tmp hb (i := 7) hL (by decide)⟩
      | 8, hio, hun =>
        cases hio
        have q33 : lookA e1 33 = .iptr [.int .i64 e.cur, .int .i64 e.amt, .int .i64 e.note] := look_of (hF.val 7 (by decide) (hedge 7 (of_decide_eq_true (by kernel_rfl))))
        refine vcOp_sound ?_
        simp -implicitDefEqProofs only [q7,q33,Q0,Q1,Q2,Q3,Q4,Q5,Q6,Q7,Q8,Q9,Qa,Qb,Qc,Qd,Qe,Qf,Qg,Qh,Qi,Qj,Qk,Ql,Qm,Qn,Qo,Qp,Qq,Qr,Qs,Qt,Qu,Qv,Qw,Qx,Qy,Qz,QA,QB,QC,QD,QE,QF,QG,QH,QI,QJ,QK,QL,QM,QN,QO,QP,QQ,QR,QS,QT,QU,QV,QW,QX,QY,QZ,X0,X1,X2,X3,X4,X5,X6,X7,X8,X9,Xa,Xb,Xc,Xd,Xe,Xf,Xg,Xh,Xi,Xj,Xk,Xl,Xm,Xn,Xo,Xp,Xq,Xr,Xs,Xt,Xu,Xv,Xw,Xx,Xy,Xz,XA,XB,reduceIte,reduceCtorEq,XC,XD,XE,XF,XG,XH,XI,XJ,XK,XL,XM,XN,XO,XP,XQ,XR,XS,XT,XU,XV,XW,XX,XY,XZ,Y0,Try.q3,Try.q4,Try.q29,Try.underlying37,Try.q37,Try.underlying98,Try.q98,Try.underlying99,Try.q99,Try.underlying101,Try.q101,Try.q102]
        exact fun L' hL => ⟨x, y, hF.tmp hb (i := 8) hL (by decide)⟩
      | 9, hio, hun =>
        cases hio
        have q32 : lookA e1 32 = .int .i64 e.to := look_of (hF.val 6 (by decide) (hedge 6 (of_decide_eq_true (by kernel_rfl))))
        have q34 : lookA e1 34 = .int .i64 e.cur := look_of (hF.val 8 (by decide) (hedge 8 (of_decide_eq_true (by kernel_rfl))))
        refine vcOp_sound ?_
        simp -implicitDefEqProofs only [q7,q32,q34,Q0,Q1,Q2,Q3,Q4,Q5,Q6,Q7,Q8,Q9,Qa,Qb,Qc,Qd,Qe,Qf,Qg,Qh,Qi,Qj,Qk,Ql,Qm,Qn,Qo,Qp,Qq,Qr,Qs,Qt,Qu,Qv,Qw,Qx,Qy,Qz,QA,QB,QC,QD,QE,QF,QG,QH,QI,QJ,QK,QL,QM,QN,QO,QP,QQ,QR,QS,QT,QU,QV,QW,QX,QY,QZ,X0,X1,X2,X3,X4,X5,X6,X7,X8,X9,Xa,Xb,Xc,Xd,Xe,Xf,Xg,Xh,Xi,Xj,Xk,Xl,Xm,Xn,Xo,Xp,Xq,Xr,Xs,Xt,Xu,Xv,Xw,Xx,Xy,Xz,XA,XB,reduceIte,reduceCtorEq,XC,XD,XE,XF,XG,XH,XI,XJ,XK,XL,XM,XN,XO,XP,XQ,XR,XS,XT,XU,XV,XW,XX,XY,XZ,Y0,Try.q3,Try.q4,Try.q29,Try.underlying37,Try.q37,Try.underlying98,Try.q98,Try.underlying99,Try.q99,Try.underlying101,Try.q101,Try.q102]
        exact fun L' hL => ⟨x, y, hF.tmp hb (i := 9) hL (by decide)⟩
      | 10, hio, hun =>
        cases hio
        refine vcOp_sound ?_
        simp -implicitDefEqProofs only [Q0,Q1,Q2,Q3,Q4,Q5,Q6,Q7,Q8,Q9,Qa,Qb,Qc,Qd,Qe,Qf,Qg,Qh,Qi,Qj,Qk,Ql,Qm,Qn,Qo,Qp,Qq,Qr,Qs,Qt,Qu,Qv,Qw,Qx,Qy,Qz,QA,QB,QC,QD,QE,QF,QG,QH,QI,QJ,QK,QL,QM,QN,QO,QP,QQ,QR,QS,QT,QU,QV,QW,QX,QY,QZ,X0,X1,X2,X3,X4,X5,X6,X7,X8,X9,Xa,Xb,Xc,Xd,Xe,Xf,Xg,Xh,Xi,Xj,Xk,Xl,Xm,Xn,Xo,Xp,Xq,Xr,Xs,Xt,Xu,Xv,Xw,Xx,Xy,Xz,XA,XB,reduceIte,reduceCtorEq,XC,XD,XE,XF,XG,XH,XI,XJ,XK,XL,XM,XN,XO,XP,XQ,XR,XS,XT,XU,XV,XW,XX,XY,XZ,Y0,Try.q3,Try.q4,Try.q29,Try.underlying37,Try.q37,Try.underlying98,Try.q98,Try.underlying99,Try.q99,Try.underlying101,Try.q101,Try.q102]
        exact fun L' hL => ⟨_, y, hF.new10 hb hL hun _ _⟩
      | 11, hio, hun =>
        cases hio
        refine vcOp_sound ?_
        simp -implicitDefEqProofs only [Q0,Q1,Q2,Q3,Q4,Q5,Q6,Q7,Q8,Q9,Qa,Qb,Qc,Qd,Qe,Qf,Qg,Qh,Qi,Qj,Qk,Ql,Qm,Qn,Qo,Qp,Qq,Qr,Qs,Qt,Qu,Qv,Qw,Qx,Qy,Qz,QA,QB,QC,QD,QE,QF,QG,QH,QI,QJ,QK,QL,QM,QN,QO,QP,QQ,QR,QS,QT,QU,QV,QW,QX,QY,QZ,X0,X1,X2,X3,X4,X5,X6,X7,X8,X9,Xa,Xb,Xc,Xd,Xe,Xf,Xg,Xh,Xi,Xj,Xk,Xl,Xm,Xn,Xo,Xp,Xq,Xr,Xs,Xt,Xu,Xv,Xw,Xx,Xy,Xz,XA,XB,reduceIte,reduceCtorEq,XC,XD,XE,XF,XG,XH,XI,XJ,XK,XL,XM,XN,XO,XP,XQ,XR,XS,XT,XU,XV,XW,XX,XY,XZ,Y0,Try.q3,Try.q4,Try.q29,Try.underlying37,Try.q37,Try.underlying98,Try.q98,Try.underlying99,Try.q99,Try.underlying101,Try.q101,Try.q102]
        exact fun L' hL => ⟨x, _, hF.new11 hb hL hun _ _⟩
      | 12, hio, hun =>
        cases hio
        have l10 : L 10 = true := hedge 10 (of_decide_eq_true (by kernel_rfl))
        have q30 : lookA e1 30 = pk e.fr e.cur := look_of (hF.val 4 (by decide) (hedge 4 (of_decide_eq_true (by kernel_rfl))))
        obtain ⟨g8, _, u, v, gx, _⟩ := hF.o10 l10
        have q8 : lookA e1 8 = .ptr x 0 := look_of g8
        refine vcOp_sound ?_
        simp -implicitDefEqProofs only [q30,q8,gx,Q0,Q1,Q2,Q3,Q4,Q5,Q6,Q7,Q8,Q9,Qa,Qb,Qc,Qd,Qe,Qf,Qg,Qh,Qi,Qj,Qk,Ql,Qm,Qn,Qo,Qp,Qq,Qr,Qs,Qt,Qu,Qv,Qw,Qx,Qy,Qz,QA,QB,QC,QD,QE,QF,QG,QH,QI,QJ,QK,QL,QM,QN,QO,QP,QQ,QR,QS,QT,QU,QV,QW,QX,QY,QZ,X0,X1,X2,X3,X4,X5,X6,X7,X8,X9,Xa,Xb,Xc,Xd,Xe,Xf,Xg,Xh,Xi,Xj,Xk,Xl,Xm,Xn,Xo,Xp,Xq,Xr,Xs,Xt,Xu,Xv,Xw,Xx,Xy,Xz,XA,XB,reduceIte,reduceCtorEq,XC,XD,XE,XF,XG,XH,XI,XJ,XK,XL,XM,XN,XO,XP,XQ,XR,XS,XT,XU,XV,XW,XX,XY,XZ,Y0,Try.q3,Try.q4,Try.q29,Try.underlying37,Try.q37,Try.underlying98,Try.q98,Try.underlying99,Try.q99,Try.underlying101,Try.q101,Try.q102]
        exact fun L' hL => ⟨x, y, hF.sto12 hL l10⟩
      | 13, hio, hun =>
        cases hio
        have l11 : L 11 = true := hedge 11 (of_decide_eq_true (by kernel_rfl))
        have q35 : lookA e1 35 = pk e.to e.cur := look_of (hF.val 9 (by decide) (hedge 9 (of_decide_eq_true (by kernel_rfl))))
        obtain ⟨g9, _, u, v, gy, _⟩ := hF.o11 l11
        have q9 : lookA e1 9 = .ptr y 0 := look_of g9
        refine vcOp_sound ?_
        simp -implicitDefEqProofs only [q35,q9,gy,Q0,Q1,Q2,Q3,Q4,Q5,Q6,Q7,Q8,Q9,Qa,Qb,Qc,Qd,Qe,Qf,Qg,Qh,Qi,Qj,Qk,Ql,Qm,Qn,Qo,Qp,Qq,Qr,Qs,Qt,Qu,Qv,Qw,Qx,Qy,Qz,QA,QB,QC,QD,QE,QF,QG,QH,QI,QJ,QK,QL,QM,QN,QO,QP,QQ,QR,QS,QT,QU,QV,QW,QX,QY,QZ,X0,X1,X2,X3,X4,X5,X6,X7,X8,X9,Xa,Xb,Xc,Xd,Xe,Xf,Xg,Xh,Xi,Xj,Xk,Xl,Xm,Xn,Xo,Xp,Xq,Xr,Xs,Xt,Xu,Xv,Xw,Xx,Xy,Xz,XA,XB,reduceIte,reduceCtorEq,XC,XD,XE,XF,XG,XH,XI,XJ,XK,XL,XM,XN,XO,XP,XQ,XR,XS,XT,XU,XV,XW,XX,XY,XZ,Y0,Try.q3,Try.q4,Try.q29,Try.underlying37,Try.q37,Try.underlying98,Try.q98,Try.underlying99,Try.q99,Try.underlying101,Try.q101,Try.q102]
        exact fun L' hL => ⟨x, y, hF.sto13 hL l11⟩
      | n + 14, hio, _ => cases hio
    · rintro L e1 s5 hall ⟨x, y, hF⟩
      have hal : ∀ j, j < 14 → L j = true := fun j hj => hall j (by simpa using hj)
      obtain ⟨g8, hx8, u, v, gx, gxv⟩ := hF.o10 (hal 10 (by decide))
      obtain ⟨rfl, rfl⟩ := gxv (hal 12 (by decide))
      obtain ⟨g9, hy9, u, v, gy, gyv⟩ := hF.o11 (hal 11 (by decide))
      obtain ⟨rfl, rfl⟩ := gyv (hal 13 (by decide))
      have hxl := (List.getElem?_eq_some_iff.1 gx).1
      have hyl := (List.getElem?_eq_some_iff.1 gy).1
      have hx5 := hF.ext
      show seqA _ _ _ _ .normal _ _
      rw [seqA_normal]
      refine awp_kill s4.length s5.length (by have := hx5.len; omega) (Nat.le_refl _) [(8, .iptr [.int .i64 e.fr, .int .i64 e.cur]), (9, .iptr [.int .i64 e.to, .int .i64 e.cur]), (7, .iptr (entA e)), (6, .int .i64 i), (21, .int .i64 i), (20, .int .i64 Z.length), (19, esV Z), (3, esV Z), (4, .mp s3.length), (5, .mp (s3.length + 1))]
        ⟨⟨_, g8, .boxAll gx ⟨hx8, hxl⟩⟩, ⟨_, g9, .boxAll gy ⟨hy9, hyl⟩⟩, ⟨_, hF.bs 7 _ rfl, .same _⟩, ⟨_, hF.bs 6 _ rfl, .same _⟩, ⟨_, hF.bs 21 _ rfl, .same _⟩, ⟨_, hF.bs 20 _ rfl, .same _⟩, ⟨_, hF.bs 19 _ rfl, .same _⟩, ⟨_, hF.bs 3 _ rfl, .same _⟩, ⟨_, hF.bs 4 _ rfl, .same _⟩, ⟨_, hF.bs 5 _ rfl, .same _⟩, trivial⟩ ?_
      have hx6 : Ext s (killS s5 s4.length s5.length) := killS_ext (hx4.trans hx5) (by have := hx5.len; omega) (Nat.le_refl _) (by have := hx4.len; omega)
      generalize killS s5 s4.length s5.length = s6 at hx6
      clear hF hx5 hx4 gx gy g8 g9 hxl hyl hx8 hy9
      have hm6 : s3.length < s6.length := by have := (List.getElem?_eq_some_iff.1 (hx6 _ _ g1)).1; exact this
      have gs6 : s6[s3.length]? = some (.mp (.kv l1 c1)) := hx6 _ _ g1
      have gt6 : s6[s3.length + 1]? = some (.mp (.kv l2 c2)) := hx6 _ _ g2
      have hv := hVe
      have okF : PK (pk e.fr e.cur) := ⟨_, _, i64_okk (by have := hv.fr; omega) (by have := hv.fr; omega), i64_okk (by have := hv.cur; omega) (by have := hv.cur; omega), rfl⟩
      have okT : PK (pk e.to e.cur) := ⟨_, _, i64_okk (by have := hv.to; omega) (by have := hv.to; omega), i64_okk (by have := hv.cur; omega) (by have := hv.cur; omega), rfl⟩
      have bnd := fun a c => balP_bound (l := Z.take i) (fun x hx => hVZ x (List.mem_of_mem_take hx)) a c
      have hti : (Z.take i).length = i := by rw [List.length_take]; omega
      rw [hti] at bnd
      have hbF := b1 e.fr e.cur
      have hbT := b1 e.to e.cur
      have bF := bnd e.fr e.cur
      have bT := bnd e.to e.cur
      obtain ⟨gF, hgF⟩ : ∃ g, g = balP (Z.take i) e.fr e.cur := ⟨_, rfl⟩
      obtain ⟨gT, hgT⟩ : ∃ g, g = balP (Z.take i) e.to e.cur := ⟨_, rfl⟩
      rw [← hgF] at hbF bF
      rw [← hgT] at hbT bT
      have hamt := hv.amt
      have wA : IntKind.i64.wrap (gF - e.amt) = gF - e.amt := wrap_i64 (by omega) (by omega)
      have wB : IntKind.i64.wrap (gT + e.amt) = gT + e.amt := wrap_i64 (by omega) (by omega)
      have hmA := hm6
      obtain ⟨lAE, cAE, vA, tA, lAS, xA1, xA2, xA3, xA4, xA5, xA6, xA7⟩ := ent_ok k1 okF (.int .i64 0) (.int .i64 (gF - e.amt))
      have gEA : (s6.set s3.length (.mp (.kv lAE cAE)))[s3.length]? = some (.mp (.kv lAE cAE)) := List.getElem?_set_self hmA
      have hssA : (s6.set s3.length (.mp (.kv lAE cAE))).set s3.length (.mp (.kv lAS cAE)) = s6.set s3.length (.mp (.kv lAS cAE)) := by simp
      refine awp_seq (awp_any (fun L e' s' => QInv (baseE e i Z s3.length) 36 (fun j => match j with | 0 => .mp s3.length | 1 => pk e.fr e.cur | 2 => .int .i64 gF | 3 => .iptr [.int .i64 e.amt, .int .i64 e.note] | 4 => .int .i64 e.amt | 5 => .int .i64 (gF - e.amt) | 6 => .tup [vA, .int .i64 tA] | 7 => .int .i64 tA | _ => .nils) s6 (s6.set s3.length (.mp (.kv lAE cAE))) (s6.set s3.length (.mp (.kv lAS cAE))) L e' s') Try.mixed (by kernel_rfl) ?_ ?_ ?_)
      · exact ⟨rfl, fun t v h => h, fun j _ h => (by cases h), fun h => (by cases h), fun h => (by cases h)⟩
      · rintro L e1 s5 k o hio hedge hun hF
        have hb := baseE_lt (e := e) (i := i) (Z := Z) (m := s3.length) (T := 36) (by decide)
        have q7 : lookA e1 7 = .iptr (entA e) := look_of (hF.bs 7 _ rfl)
        have q4 : lookA e1 4 = .mp s3.length := look_of (hF.bs 4 _ rfl)
        have qk : lookA e1 8 = .iptr [.int .i64 e.fr, .int .i64 e.cur] := look_of (hF.bs 8 _ rfl)
        match k, hio, hun with
        | 0, hio, hun =>
          cases hio
          refine vcOp_sound ?_
          simp -implicitDefEqProofs only [q4,Q0,Q1,Q2,Q3,Q4,Q5,Q6,Q7,Q8,Q9,Qa,Qb,Qc,Qd,Qe,Qf,Qg,Qh,Qi,Qj,Qk,Ql,Qm,Qn,Qo,Qp,Qq,Qr,Qs,Qt,Qu,Qv,Qw,Qx,Qy,Qz,QA,QB,QC,QD,QE,QF,QG,QH,QI,QJ,QK,QL,QM,QN,QO,QP,QQ,QR,QS,QT,QU,QV,QW,QX,QY,QZ,X0,X1,X2,X3,X4,X5,X6,X7,X8,X9,Xa,Xb,Xc,Xd,Xe,Xf,Xg,Xh,Xi,Xj,Xk,Xl,Xm,Xn,Xo,Xp,Xq,Xr,Xs,Xt,Xu,Xv,Xw,Xx,Xy,Xz,XA,XB,reduceIte,reduceCtorEq,XC,XD,XE,XF,XG,XH,XI,XJ,XK,XL,XM,XN,XO,XP,XQ,XR,XS,XT,XU,XV,XW,XX,XY,XZ,Y0,Try.q3,Try.q4,Try.q29,Try.underlying37,Try.q37,Try.underlying98,Try.q98,Try.underlying99,Try.q99,Try.underlying101,Try.q101,Try.q102]
          exact fun L' hL => hF.tmp hb (i := 0) hL (by decide) (by decide) (by omega)
        | 1, hio, hun =>
          cases hio
          refine vcOp_sound ?_
          simp -implicitDefEqProofs only [qk,Q0,Q1,Q2,Q3,Q4,Q5,Q6,Q7,Q8,Q9,Qa,Qb,Qc,Qd,Qe,Qf,Qg,Qh,Qi,Qj,Qk,Ql,Qm,Qn,Qo,Qp,Qq,Qr,Qs,Qt,Qu,Qv,Qw,Qx,Qy,Qz,QA,QB,QC,QD,QE,QF,QG,QH,QI,QJ,QK,QL,QM,QN,QO,QP,QQ,QR,QS,QT,QU,QV,QW,QX,QY,QZ,X0,X1,X2,X3,X4,X5,X6,X7,X8,X9,Xa,Xb,Xc,Xd,Xe,Xf,Xg,Xh,Xi,Xj,Xk,Xl,Xm,Xn,Xo,Xp,Xq,Xr,Xs,Xt,Xu,Xv,Xw,Xx,Xy,Xz,XA,XB,reduceIte,reduceCtorEq,XC,XD,XE,XF,XG,XH,XI,XJ,XK,XL,XM,XN,XO,XP,XQ,XR,XS,XT,XU,XV,XW,XX,XY,XZ,Y0,Try.q3,Try.q4,Try.q29,Try.underlying37,Try.q37,Try.underlying98,Try.q98,Try.underlying99,Try.q99,Try.underlying101,Try.q101,Try.q102]
          exact fun L' hL => hF.tmp hb (i := 1) hL (by decide) (by decide) (by omega)
        | 2, hio, hun =>
          cases hio
          have q36 : lookA e1 36 = .mp s3.length := look_of (hF.val 0 (by decide) (hedge 0 (of_decide_eq_true (by kernel_rfl))))
          have q37 : lookA e1 37 = pk e.fr e.cur := look_of (hF.val 1 (by decide) (hedge 1 (of_decide_eq_true (by kernel_rfl))))
          obtain ⟨lx, cx, gx, hkx, hvx⟩ : ∃ lx cx, s5[s3.length]? = some (.mp (.kv lx cx)) ∧ (∀ p ∈ lx, PK p.1) ∧ lookA1 false (.int .i64 0) (lookKV lx (pk e.fr e.cur)) = .int .i64 gF := by
            rw [hF.now hun]
            cases hL6 : L 6 with
            | true => rw [if_pos rfl]; exact ⟨_, _, gEA, xA5, by rw [look_false, xA7]; exact hbF⟩
            | false => rw [if_neg (by decide)]; exact ⟨_, _, gs6, k1.ks, by rw [look_false]; exact hbF⟩
          refine vcOp_sound ?_
          simp -implicitDefEqProofs only [q36,q37,gx,hvx,Q0,Q1,Q2,Q3,Q4,Q5,Q6,Q7,Q8,Q9,Qa,Qb,Qc,Qd,Qe,Qf,Qg,Qh,Qi,Qj,Qk,Ql,Qm,Qn,Qo,Qp,Qq,Qr,Qs,Qt,Qu,Qv,Qw,Qx,Qy,Qz,QA,QB,QC,QD,QE,QF,QG,QH,QI,QJ,QK,QL,QM,QN,QO,QP,QQ,QR,QS,QT,QU,QV,QW,QX,QY,QZ,X0,X1,X2,X3,X4,X5,X6,X7,X8,X9,Xa,Xb,Xc,Xd,Xe,Xf,Xg,Xh,Xi,Xj,Xk,Xl,Xm,Xn,Xo,Xp,Xq,Xr,Xs,Xt,Xu,Xv,Xw,Xx,Xy,Xz,XA,XB,reduceIte,reduceCtorEq,XC,XD,XE,XF,XG,XH,XI,XJ,XK,XL,XM,XN,XO,XP,XQ,XR,XS,XT,XU,XV,XW,XX,XY,XZ,Y0,Try.q3,Try.q4,Try.q29,Try.underlying37,Try.q37,Try.underlying98,Try.q98,Try.underlying99,Try.q99,Try.underlying101,Try.q101,Try.q102]
          exact ⟨pk_ok okF, fun p hp => pk_ok (hkx p hp), fun L' hL => hF.tmp hb (i := 2) hL (by decide) (by decide) (by omega)⟩
        | 3, hio, hun =>
          cases hio
          refine vcOp_sound ?_
          simp -implicitDefEqProofs only [q7,Q0,Q1,Q2,Q3,Q4,Q5,Q6,Q7,Q8,Q9,Qa,Qb,Qc,Qd,Qe,Qf,Qg,Qh,Qi,Qj,Qk,Ql,Qm,Qn,Qo,Qp,Qq,Qr,Qs,Qt,Qu,Qv,Qw,Qx,Qy,Qz,QA,QB,QC,QD,QE,QF,QG,QH,QI,QJ,QK,QL,QM,QN,QO,QP,QQ,QR,QS,QT,QU,QV,QW,QX,QY,QZ,X0,X1,X2,X3,X4,X5,X6,X7,X8,X9,Xa,Xb,Xc,Xd,Xe,Xf,Xg,Xh,Xi,Xj,Xk,Xl,Xm,Xn,Xo,Xp,Xq,Xr,Xs,Xt,Xu,Xv,Xw,Xx,Xy,Xz,XA,XB,reduceIte,reduceCtorEq,XC,XD,XE,XF,XG,XH,XI,XJ,XK,XL,XM,XN,XO,XP,XQ,XR,XS,XT,XU,XV,XW,XX,XY,XZ,Y0,Try.q3,Try.q4,Try.q29,Try.underlying37,Try.q37,Try.underlying98,Try.q98,Try.underlying99,Try.q99,Try.underlying101,Try.q101,Try.q102]
          exact fun L' hL => hF.tmp hb (i := 3) hL (by decide) (by decide) (by omega)
        | 4, hio, hun =>
          cases hio
          have q39 : lookA e1 39 = .iptr [.int .i64 e.amt, .int .i64 e.note] := look_of (hF.val 3 (by decide) (hedge 3 (of_decide_eq_true (by kernel_rfl))))
          refine vcOp_sound ?_
          simp -implicitDefEqProofs only [q39,Q0,Q1,Q2,Q3,Q4,Q5,Q6,Q7,Q8,Q9,Qa,Qb,Qc,Qd,Qe,Qf,Qg,Qh,Qi,Qj,Qk,Ql,Qm,Qn,Qo,Qp,Qq,Qr,Qs,Qt,Qu,Qv,Qw,Qx,Qy,Qz,QA,QB,QC,QD,QE,QF,QG,QH,QI,QJ,QK,QL,QM,QN,QO,QP,QQ,QR,QS,QT,QU,QV,QW,QX,QY,QZ,X0,X1,X2,X3,X4,X5,X6,X7,X8,X9,Xa,Xb,Xc,Xd,Xe,Xf,Xg,Xh,Xi,Xj,Xk,Xl,Xm,Xn,Xo,Xp,Xq,Xr,Xs,Xt,Xu,Xv,Xw,Xx,Xy,Xz,XA,XB,reduceIte,reduceCtorEq,XC,XD,XE,XF,XG,XH,XI,XJ,XK,XL,XM,XN,XO,XP,XQ,XR,XS,XT,XU,XV,XW,XX,XY,XZ,Y0,Try.q3,Try.q4,Try.q29,Try.underlying37,Try.q37,Try.underlying98,Try.q98,Try.underlying99,Try.q99,Try.underlying101,Try.q101,Try.q102]
          exact fun L' hL => hF.tmp hb (i := 4) hL (by decide) (by decide) (by omega)
        | 5, hio, hun =>
          cases hio
          have q38 : lookA e1 38 = .int .i64 gF := look_of (hF.val 2 (by decide) (hedge 2 (of_decide_eq_true (by kernel_rfl))))
          have q40 : lookA e1 40 = .int .i64 e.amt := look_of (hF.val 4 (by decide) (hedge 4 (of_decide_eq_true (by kernel_rfl))))
          refine vcOp_sound ?_
          simp -implicitDefEqProofs only [q38,q40,wA,Q0,Q1,Q2,Q3,Q4,Q5,Q6,Q7,Q8,Q9,Qa,Qb,Qc,Qd,Qe,Qf,Qg,Qh,Qi,Qj,Qk,Ql,Qm,Qn,Qo,Qp,Qq,Qr,Qs,Qt,Qu,Qv,Qw,Qx,Qy,Qz,QA,QB,QC,QD,QE,QF,QG,QH,QI,QJ,QK,QL,QM,QN,QO,QP,QQ,QR,QS,QT,QU,QV,QW,QX,QY,QZ,X0,X1,X2,X3,X4,X5,X6,X7,X8,X9,Xa,Xb,Xc,Xd,Xe,Xf,Xg,Xh,Xi,Xj,Xk,Xl,Xm,Xn,Xo,Xp,Xq,Xr,Xs,Xt,Xu,Xv,Xw,Xx,Xy,Xz,XA,XB,reduceIte,reduceCtorEq,XC,XD,XE,XF,XG,XH,XI,XJ,XK,XL,XM,XN,XO,XP,XQ,XR,XS,XT,XU,XV,XW,XX,XY,XZ,Y0,Try.q3,Try.q4,Try.q29,Try.underlying37,Try.q37,Try.underlying98,Try.q98,Try.underlying99,Try.q99,Try.underlying101,Try.q101,Try.q102]
          exact fun L' hL => hF.tmp hb (i := 5) hL (by decide) (by decide) (fun _ => hedge 2 (of_decide_eq_true (by kernel_rfl)))
        | 6, hio, hun =>
          cases hio
          have q36 : lookA e1 36 = .mp s3.length := look_of (hF.val 0 (by decide) (hedge 0 (of_decide_eq_true (by kernel_rfl))))
          have q37 : lookA e1 37 = pk e.fr e.cur := look_of (hF.val 1 (by decide) (hedge 1 (of_decide_eq_true (by kernel_rfl))))
          obtain ⟨hs, _⟩ := hF.ent hb (L' := fun j => decide (j = 6) || L j) (fun j => by simp) hun
          subst hs
          refine vcOp_sound ?_
          simp -implicitDefEqProofs only [q36,q37,gs6,xA1,xA2,Q0,Q1,Q2,Q3,Q4,Q5,Q6,Q7,Q8,Q9,Qa,Qb,Qc,Qd,Qe,Qf,Qg,Qh,Qi,Qj,Qk,Ql,Qm,Qn,Qo,Qp,Qq,Qr,Qs,Qt,Qu,Qv,Qw,Qx,Qy,Qz,QA,QB,QC,QD,QE,QF,QG,QH,QI,QJ,QK,QL,QM,QN,QO,QP,QQ,QR,QS,QT,QU,QV,QW,QX,QY,QZ,X0,X1,X2,X3,X4,X5,X6,X7,X8,X9,Xa,Xb,Xc,Xd,Xe,Xf,Xg,Xh,Xi,Xj,Xk,Xl,Xm,Xn,Xo,Xp,Xq,Xr,Xs,Xt,Xu,Xv,Xw,Xx,Xy,Xz,XA,XB,reduceIte,reduceCtorEq,XC,XD,XE,XF,XG,XH,XI,XJ,XK,XL,XM,XN,XO,XP,XQ,XR,XS,XT,XU,XV,XW,XX,XY,XZ,Y0,Try.q3,Try.q4,Try.q29,Try.underlying37,Try.q37,Try.underlying98,Try.q98,Try.underlying99,Try.q99,Try.underlying101,Try.q101,Try.q102]
          exact ⟨pk_ok okF, fun p hp => pk_ok (k1.ks p hp), fun L' hL => (hF.ent hb hL hun).2⟩
        | 7, hio, hun =>
          cases hio
          have q42 : lookA e1 42 = .tup [vA, .int .i64 tA] := look_of (hF.val 6 (by decide) (hedge 6 (of_decide_eq_true (by kernel_rfl))))
          refine vcOp_sound ?_
          simp -implicitDefEqProofs only [q42,Q0,Q1,Q2,Q3,Q4,Q5,Q6,Q7,Q8,Q9,Qa,Qb,Qc,Qd,Qe,Qf,Qg,Qh,Qi,Qj,Qk,Ql,Qm,Qn,Qo,Qp,Qq,Qr,Qs,Qt,Qu,Qv,Qw,Qx,Qy,Qz,QA,QB,QC,QD,QE,QF,QG,QH,QI,QJ,QK,QL,QM,QN,QO,QP,QQ,QR,QS,QT,QU,QV,QW,QX,QY,QZ,X0,X1,X2,X3,X4,X5,X6,X7,X8,X9,Xa,Xb,Xc,Xd,Xe,Xf,Xg,Xh,Xi,Xj,Xk,Xl,Xm,Xn,Xo,Xp,Xq,Xr,Xs,Xt,Xu,Xv,Xw,Xx,Xy,Xz,XA,XB,reduceIte,reduceCtorEq,XC,XD,XE,XF,XG,XH,XI,XJ,XK,XL,XM,XN,XO,XP,XQ,XR,XS,XT,XU,XV,XW,XX,XY,XZ,Y0,Try.q3,Try.q4,Try.q29,Try.underlying37,Try.q37,Try.underlying98,Try.q98,Try.underlying99,Try.q99,Try.underlying101,Try.q101,Try.q102]
          exact fun L' hL => hF.tmp hb (i := 7) hL (by decide) (by decide) (by omega)
        | 8, hio, hun =>
          cases hio
          have q36 : lookA e1 36 = .mp s3.length := look_of (hF.val 0 (by decide) (hedge 0 (of_decide_eq_true (by kernel_rfl))))
          have q43 : lookA e1 43 = .int .i64 tA := look_of (hF.val 7 (by decide) (hedge 7 (of_decide_eq_true (by kernel_rfl))))
          have q41 : lookA e1 41 = .int .i64 (gF - e.amt) := look_of (hF.val 5 (by decide) (hedge 5 (of_decide_eq_true (by kernel_rfl))))
          have l5 : L 5 = true := hedge 5 (of_decide_eq_true (by kernel_rfl))
          have l6 : L 6 = true := hedge 6 (of_decide_eq_true (by kernel_rfl))
          obtain ⟨hs, _⟩ := hF.sto (L' := fun j => decide (j = 8) || L j) (fun j => by simp) hun l5 l6
          subst hs
          refine vcOp_sound ?_
          simp -implicitDefEqProofs only [q36,q43,q41,gEA,xA3,hssA,Q0,Q1,Q2,Q3,Q4,Q5,Q6,Q7,Q8,Q9,Qa,Qb,Qc,Qd,Qe,Qf,Qg,Qh,Qi,Qj,Qk,Ql,Qm,Qn,Qo,Qp,Qq,Qr,Qs,Qt,Qu,Qv,Qw,Qx,Qy,Qz,QA,QB,QC,QD,QE,QF,QG,QH,QI,QJ,QK,QL,QM,QN,QO,QP,QQ,QR,QS,QT,QU,QV,QW,QX,QY,QZ,X0,X1,X2,X3,X4,X5,X6,X7,X8,X9,Xa,Xb,Xc,Xd,Xe,Xf,Xg,Xh,Xi,Xj,Xk,Xl,Xm,Xn,Xo,Xp,Xq,Xr,Xs,Xt,Xu,Xv,Xw,Xx,Xy,Xz,XA,XB,reduceIte,reduceCtorEq,XC,XD,XE,XF,XG,XH,XI,XJ,XK,XL,XM,XN,XO,XP,XQ,XR,XS,XT,XU,XV,XW,XX,XY,XZ,Y0,Try.q3,Try.q4,Try.q29,Try.underlying37,Try.q37,Try.underlying98,Try.q98,Try.underlying99,Try.q99,Try.underlying101,Try.q101,Try.q102]
          exact fun L' hL => (hF.sto hL hun l5 l6).2
        | n + 9, hio, _ => cases hio
      rintro L e1 s5 hall hF
      have hsv : s5 = s6.set s3.length (.mp (.kv lAS cAE)) := by rw [hF.st, if_pos (hall 8 (by simp))]
      show seqA _ _ _ _ .normal _ _
      rw [seqA_normal]
      refine awp_subJ (baseE e i Z s3.length) ⟨hF.bs 8 _ rfl, hF.bs 9 _ rfl, hF.bs 7 _ rfl, hF.bs 6 _ rfl, hF.bs 21 _ rfl, hF.bs 20 _ rfl, hF.bs 19 _ rfl, hF.bs 3 _ rfl, hF.bs 4 _ rfl, hF.bs 5 _ rfl, trivial⟩ ?_
      clear hF
      have hx7 : Ext σ s5 := by rw [hsv]; exact (hx.trans hx6).set hm _
      have gs7 : s5[s3.length]? = some (.mp (.kv lAS cAE)) := by rw [hsv]; exact List.getElem?_set_self hm6
      have gt7 : s5[s3.length + 1]? = some (.mp (.kv l2 c2)) := by rw [hsv, List.getElem?_set_ne (by omega)]; exact gt6
      have hmB : s3.length < s5.length := (List.getElem?_eq_some_iff.1 gs7).1
      have hpkne : pk e.to e.cur ≠ pk e.fr e.cur := by intro h; injection h with h; injection h with h _; injection h with _ h; exact hv.ne h.symm
      have hbT2 : (valKV lAS (pk e.to e.cur)).getD (.int .i64 0) = .int .i64 gT := by rw [xA6, if_neg hpkne]; exact hbT
      clear hsv gs6 gt6 gEA hssA
      generalize s5 = s7 at *
      obtain ⟨lBE, cBE, vB, tB, lBS, xB1, xB2, xB3, xB4, xB5, xB6, xB7⟩ := ent_ok xA4 okT (.int .i64 0) (.int .i64 (gT + e.amt))
      have gEB : (s7.set s3.length (.mp (.kv lBE cBE)))[s3.length]? = some (.mp (.kv lBE cBE)) := List.getElem?_set_self hmB
      have hssB : (s7.set s3.length (.mp (.kv lBE cBE))).set s3.length (.mp (.kv lBS cBE)) = s7.set s3.length (.mp (.kv lBS cBE)) := by simp
      refine awp_seq (awp_any (fun L e' s' => QInv (baseE e i Z s3.length) 44 (fun j => match j with | 0 => .mp s3.length | 1 => pk e.to e.cur | 2 => .int .i64 gT | 3 => .iptr [.int .i64 e.amt, .int .i64 e.note] | 4 => .int .i64 e.amt | 5 => .int .i64 (gT + e.amt) | 6 => .tup [vB, .int .i64 tB] | 7 => .int .i64 tB | _ => .nils) s7 (s7.set s3.length (.mp (.kv lBE cBE))) (s7.set s3.length (.mp (.kv lBS cBE))) L e' s') Try.mixed (by kernel_rfl) ?_ ?_ ?_)
      · exact ⟨rfl, fun t v h => h, fun j _ h => (by cases h), fun h => (by cases h), fun h => (by cases h)⟩
      · rintro L e1 s5 k o hio hedge hun hF
        have hb := baseE_lt (e := e) (i := i) (Z := Z) (m := s3.length) (T := 44) (by decide)
        have q7 : lookA e1 7 = .iptr (entA e) := look_of (hF.bs 7 _ rfl)
        have q4 : lookA e1 4 = .mp s3.length := look_of (hF.bs 4 _ rfl)
        have qk : lookA e1 9 = .iptr [.int .i64 e.to, .int .i64 e.cur] := look_of (hF.bs 9 _ rfl)
        match k, hio, hun with
        | 0, hio, hun =>
          cases hio
          refine vcOp_sound ?_
          simp -implicitDefEqProofs only [q4,Q0,Q1,Q2,Q3,Q4,Q5,Q6,Q7,Q8,Q9,Qa,Qb,Qc,Qd,Qe,Qf,Qg,Qh,Qi,Qj,Qk,Ql,Qm,Qn,Qo,Qp,Qq,Qr,Qs,Qt,Qu,Qv,Qw,Qx,Qy,Qz,QA,QB,QC,QD,QE,QF,QG,QH,QI,QJ,QK,QL,QM,QN,QO,QP,QQ,QR,QS,QT,QU,QV,QW,QX,QY,QZ,X0,X1,X2,X3,X4,X5,X6,X7,X8,X9,Xa,Xb,Xc,Xd,Xe,Xf,Xg,Xh,Xi,Xj,Xk,Xl,Xm,Xn,Xo,Xp,Xq,Xr,Xs,Xt,Xu,Xv,Xw,Xx,Xy,Xz,XA,XB,reduceIte,reduceCtorEq,XC,XD,XE,XF,XG,XH,XI,XJ,XK,XL,XM,XN,XO,XP,XQ,XR,XS,XT,XU,XV,XW,XX,XY,XZ,Y0,Try.q3,Try.q4,Try.q29,Try.underlying37,Try.q37,Try.underlying98,Try.q98,Try.underlying99,Try.q99,Try.underlying101,Try.q101,Try.q102]
          exact fun L' hL => hF.tmp hb (i := 0) hL (by decide) (by decide) (by omega)
        | 1, hio, hun =>
          cases hio
          refine vcOp_sound ?_
          simp -implicitDefEqProofs only [qk,Q0,Q1,Q2,Q3,Q4,Q5,Q6,Q7,Q8,Q9,Qa,Qb,Qc,Qd,Qe,Qf,Qg,Qh,Qi,Qj,Qk,Ql,Qm,Qn,Qo,Qp,Qq,Qr,Qs,Qt,Qu,Qv,Qw,Qx,Qy,Qz,QA,QB,QC,QD,QE,QF,QG,QH,QI,QJ,QK,QL,QM,QN,QO,QP,QQ,QR,QS,QT,QU,QV,QW,QX,QY,QZ,X0,X1,X2,X3,X4,X5,X6,X7,X8,X9,Xa,Xb,Xc,Xd,Xe,Xf,Xg,Xh,Xi,Xj,Xk,Xl,Xm,Xn,Xo,Xp,Xq,Xr,Xs,Xt,Xu,Xv,Xw,Xx,Xy,Xz,XA,XB,reduceIte,reduceCtorEq,XC,XD,XE,XF,XG,XH,XI,XJ,XK,XL,XM,XN,XO,XP,XQ,XR,XS,XT,XU,XV,XW,XX,XY,XZ,Y0,Try.q3,Try.q4,Try.q29,Try.underlying37,Try.q37,Try.underlying98,Try.q98,Try.underlying99,Try.q99,Try.underlying101,Try.q101,Try.q102]
          exact fun L' hL => hF.tmp hb (i := 1) hL (by decide) (by decide) (by omega)
        | 2, hio, hun =>
          cases hio
          have q44 : lookA e1 44 = .mp s3.length := look_of (hF.val 0 (by decide) (hedge 0 (of_decide_eq_true (by kernel_rfl))))
          have q45 : lookA e1 45 = pk e.to e.cur := look_of (hF.val 1 (by decide) (hedge 1 (of_decide_eq_true (by kernel_rfl))))
          obtain ⟨lx, cx, gx, hkx, hvx⟩ : ∃ lx cx, s5[s3.length]? = some (.mp (.kv lx cx)) ∧ (∀ p ∈ lx, PK p.1) ∧ lookA1 false (.int .i64 0) (lookKV lx (pk e.to e.cur)) = .int .i64 gT := by
            rw [hF.now hun]
            cases hL6 : L 6 with
            | true => rw [if_pos rfl]; exact ⟨_, _, gEB, xB5, by rw [look_false, xB7]; exact hbT2⟩
            | false => rw [if_neg (by decide)]; exact ⟨_, _, gs7, xA4.ks, by rw [look_false]; exact hbT2⟩
          refine vcOp_sound ?_
          simp -implicitDefEqProofs only [q44,q45,gx,hvx,Q0,Q1,Q2,Q3,Q4,Q5,Q6,Q7,Q8,Q9,Qa,Qb,Qc,Qd,Qe,Qf,Qg,Qh,Qi,Qj,Qk,Ql,Qm,Qn,Qo,Qp,Qq,Qr,Qs,Qt,Qu,Qv,Qw,Qx,Qy,Qz,QA,QB,QC,QD,QE,QF,QG,QH,QI,QJ,QK,QL,QM,QN,QO,QP,QQ,QR,QS,QT,QU,QV,QW,QX,QY,QZ,X0,X1,X2,X3,X4,X5,X6,X7,X8,X9,Xa,Xb,Xc,Xd,Xe,Xf,Xg,Xh,Xi,Xj,Xk,Xl,Xm,Xn,Xo,Xp,Xq,Xr,Xs,Xt,Xu,Xv,Xw,Xx,Xy,Xz,XA,XB,reduceIte,reduceCtorEq,XC,XD,XE,XF,XG,XH,XI,XJ,XK,XL,XM,XN,XO,XP,XQ,XR,XS,XT,XU,XV,XW,XX,XY,XZ,Y0,Try.q3,Try.q4,Try.q29,Try.underlying37,Try.q37,Try.underlying98,Try.q98,Try.underlying99,Try.q99,Try.underlying101,Try.q101,Try.q102]
          exact ⟨pk_ok okT, fun p hp => pk_ok (hkx p hp), fun L' hL => hF.tmp hb (i := 2) hL (by decide) (by decide) (by omega)⟩
        | 3, hio, hun =>
          cases hio
          refine vcOp_sound ?_
          simp -implicitDefEqProofs only [q7,Q0,Q1,Q2,Q3,Q4,Q5,Q6,Q7,Q8,Q9,Qa,Qb,Qc,Qd,Qe,Qf,Qg,Qh,Qi,Qj,Qk,Ql,Qm,Qn,Qo,Qp,Qq,Qr,Qs,Qt,Qu,Qv,Qw,Qx,Qy,Qz,QA,QB,QC,QD,QE,QF,QG,QH,QI,QJ,QK,QL,QM,QN,QO,QP,QQ,QR,QS,QT,QU,QV,QW,QX,QY,QZ,X0,X1,X2,X3,X4,X5,X6,X7,X8,X9,Xa,Xb,Xc,Xd,Xe,Xf,Xg,Xh,Xi,Xj,Xk,Xl,Xm,Xn,Xo,Xp,Xq,Xr,Xs,Xt,Xu,Xv,Xw,Xx,Xy,Xz,XA,XB,reduceIte,reduceCtorEq,XC,XD,XE,XF,XG,XH,XI,XJ,XK,XL,XM,XN,XO,XP,XQ,XR,XS,XT,XU,XV,XW,XX,XY,XZ,Y0,Try.q3,Try.q4,Try.q29,Try.underlying37,Try.q37,Try.underlying98,Try.q98,Try.underlying99,Try.q99,Try.underlying101,Try.q101,Try.q102]
          exact fun L' hL => hF.tmp hb (i := 3) hL (by decide) (by decide) (by omega)
        | 4, hio, hun =>
          cases hio
          have q47 : lookA e1 47 = .iptr [.int .i64 e.amt, .int .i64 e.note] := look_of (hF.val 3 (by decide) (hedge 3 (of_decide_eq_true (by kernel_rfl))))
          refine vcOp_sound ?_
          simp -implicitDefEqProofs only [q47,Q0,Q1,Q2,Q3,Q4,Q5,Q6,Q7,Q8,Q9,Qa,Qb,Qc,Qd,Qe,Qf,Qg,Qh,Qi,Qj,Qk,Ql,Qm,Qn,Qo,Qp,Qq,Qr,Qs,Qt,Qu,Qv,Qw,Qx,Qy,Qz,QA,QB,QC,QD,QE,QF,QG,QH,QI,QJ,QK,QL,QM,QN,QO,QP,QQ,QR,QS,QT,QU,QV,QW,QX,QY,QZ,X0,X1,X2,X3,X4,X5,X6,X7,X8,X9,Xa,Xb,Xc,Xd,Xe,Xf,Xg,Xh,Xi,Xj,Xk,Xl,Xm,Xn,Xo,Xp,Xq,Xr,Xs,Xt,Xu,Xv,Xw,Xx,Xy,Xz,XA,XB,reduceIte,reduceCtorEq,XC,XD,XE,XF,XG,XH,XI,XJ,XK,XL,XM,XN,XO,XP,XQ,XR,XS,XT,XU,XV,XW,XX,XY,XZ,Y0,Try.q3,Try.q4,Try.q29,Try.underlying37,Try.q37,Try.underlying98,Try.q98,Try.underlying99,Try.q99,Try.underlying101,Try.q101,Try.q102]
          exact fun L' hL => hF.tmp hb (i := 4) hL (by decide) (by decide) (by omega)
        | 5, hio, hun =>
          cases hio
          have q46 : lookA e1 46 = .int .i64 gT := look_of (hF.val 2 (by decide) (hedge 2 (of_decide_eq_true (by kernel_rfl))))
          have q48 : lookA e1 48 = .int .i64 e.amt := look_of (hF.val 4 (by decide) (hedge 4 (of_decide_eq_true (by kernel_rfl))))
          refine vcOp_sound ?_
          simp -implicitDefEqProofs only [q46,q48,wB,Q0,Q1,Q2,Q3,Q4,Q5,Q6,Q7,Q8,Q9,Qa,Qb,Qc,Qd,Qe,Qf,Qg,Qh,Qi,Qj,Qk,Ql,Qm,Qn,Qo,Qp,Qq,Qr,Qs,Qt,Qu,Qv,Qw,Qx,Qy,Qz,QA,QB,QC,QD,QE,QF,QG,QH,QI,QJ,QK,QL,QM,QN,QO,QP,QQ,QR,QS,QT,QU,QV,QW,QX,QY,QZ,X0,X1,X2,X3,X4,X5,X6,X7,X8,X9,Xa,Xb,Xc,Xd,Xe,Xf,Xg,Xh,Xi,Xj,Xk,Xl,Xm,Xn,Xo,Xp,Xq,Xr,Xs,Xt,Xu,Xv,Xw,Xx,Xy,Xz,XA,XB,reduceIte,reduceCtorEq,XC,XD,XE,XF,XG,XH,XI,XJ,XK,XL,XM,XN,XO,XP,XQ,XR,XS,XT,XU,XV,XW,XX,XY,XZ,Y0,Try.q3,Try.q4,Try.q29,Try.underlying37,Try.q37,Try.underlying98,Try.q98,Try.underlying99,Try.q99,Try.underlying101,Try.q101,Try.q102]
          exact fun L' hL => hF.tmp hb (i := 5) hL (by decide) (by decide) (fun _ => hedge 2 (of_decide_eq_true (by kernel_rfl)))
        | 6, hio, hun =>
          cases hio
          have q44 : lookA e1 44 = .mp s3.length := look_of (hF.val 0 (by decide) (hedge 0 (of_decide_eq_true (by kernel_rfl))))
          have q45 : lookA e1 45 = pk e.to e.cur := look_of (hF.val 1 (by decide) (hedge 1 (of_decide_eq_true (by kernel_rfl))))
          obtain ⟨hs, _⟩ := hF.ent hb (L' := fun j => decide (j = 6) || L j) (fun j => by simp) hun
          subst hs
          refine vcOp_sound ?_
          simp -implicitDefEqProofs only [q44,q45,gs7,xB1,xB2,Q0,Q1,Q2,Q3,Q4,Q5,Q6,Q7,Q8,Q9,Qa,Qb,Qc,Qd,Qe,Qf,Qg,Qh,Qi,Qj,Qk,Ql,Qm,Qn,Qo,Qp,Qq,Qr,Qs,Qt,Qu,Qv,Qw,Qx,Qy,Qz,QA,QB,QC,QD,QE,QF,QG,QH,QI,QJ,QK,QL,QM,QN,QO,QP,QQ,QR,QS,QT,QU,QV,QW,QX,QY,QZ,X0,X1,X2,X3,X4,X5,X6,X7,X8,X9,Xa,Xb,Xc,Xd,Xe,Xf,Xg,Xh,Xi,Xj,Xk,Xl,Xm,Xn,Xo,Xp,Xq,Xr,Xs,Xt,Xu,Xv,Xw,Xx,Xy,Xz,XA,XB,reduceIte,reduceCtorEq,XC,XD,XE,XF,XG,XH,XI,XJ,XK,XL,XM,XN,XO,XP,XQ,XR,XS,XT,XU,XV,XW,XX,XY,XZ,Y0,Try.q3,Try.q4,Try.q29,Try.underlying37,Try.q37,Try.underlying98,Try.q98,Try.underlying99,Try.q99,Try.underlying101,Try.q101,Try.q102]
          exact ⟨pk_ok okT, fun p hp => pk_ok (xA4.ks p hp), fun L' hL => (hF.ent hb hL hun).2⟩
        | 7, hio, hun =>
          cases hio
          have q50 : lookA e1 50 = .tup [vB, .int .i64 tB] := look_of (hF.val 6 (by decide) (hedge 6 (of_decide_eq_true (by kernel_rfl))))
          refine vcOp_sound ?_
          simp -implicitDefEqProofs only [q50,Q0,Q1,Q2,Q3,Q4,Q5,Q6,Q7,Q8,Q9,Qa,Qb,Qc,Qd,Qe,Qf,Qg,Qh,Qi,Qj,Qk,Ql,Qm,Qn,Qo,Qp,Qq,Qr,Qs,Qt,Qu,Qv,Qw,Qx,Qy,Qz,QA,QB,QC,QD,QE,QF,QG,QH,QI,QJ,QK,QL,QM,QN,QO,QP,QQ,QR,QS,QT,QU,QV,QW,QX,QY,QZ,X0,X1,X2,X3,X4,X5,X6,X7,X8,X9,Xa,Xb,Xc,Xd,Xe,Xf,Xg,Xh,Xi,Xj,Xk,Xl,Xm,Xn,Xo,Xp,Xq,Xr,Xs,Xt,Xu,Xv,Xw,Xx,Xy,Xz,XA,XB,reduceIte,reduceCtorEq,XC,XD,XE,XF,XG,XH,XI,XJ,XK,XL,XM,XN,XO,XP,XQ,XR,XS,XT,XU,XV,XW,XX,XY,XZ,Y0,Try.q3,Try.q4,Try.q29,Try.underlying37,Try.q37,Try.underlying98,Try.q98,Try.underlying99,Try.q99,Try.underlying101,Try.q101,Try.q102]
          exact fun L' hL => hF.tmp hb (i := 7) hL (by decide) (by decide) (by omega)
        | 8, hio, hun =>
          cases hio
          have q44 : lookA e1 44 = .mp s3.length := look_of (hF.val 0 (by decide) (hedge 0 (of_decide_eq_true (by kernel_rfl))))
          have q51 : lookA e1 51 = .int .i64 tB := look_of (hF.val 7 (by decide) (hedge 7 (of_decide_eq_true (by kernel_rfl))))
          have q49 : lookA e1 49 = .int .i64 (gT + e.amt) := look_of (hF.val 5 (by decide) (hedge 5 (of_decide_eq_true (by kernel_rfl))))
          have l5 : L 5 = true := hedge 5 (of_decide_eq_true (by kernel_rfl))
          have l6 : L 6 = true := hedge 6 (of_decide_eq_true (by kernel_rfl))
          obtain ⟨hs, _⟩ := hF.sto (L' := fun j => decide (j = 8) || L j) (fun j => by simp) hun l5 l6
          subst hs
          refine vcOp_sound ?_
          simp -implicitDefEqProofs only [q44,q51,q49,gEB,xB3,hssB,Q0,Q1,Q2,Q3,Q4,Q5,Q6,Q7,Q8,Q9,Qa,Qb,Qc,Qd,Qe,Qf,Qg,Qh,Qi,Qj,Qk,Ql,Qm,Qn,Qo,Qp,Qq,Qr,Qs,Qt,Qu,Qv,Qw,Qx,Qy,Qz,QA,QB,QC,QD,QE,QF,QG,QH,QI,QJ,QK,QL,QM,QN,QO,QP,QQ,QR,QS,QT,QU,QV,QW,QX,QY,QZ,X0,X1,X2,X3,X4,X5,X6,X7,X8,X9,Xa,Xb,Xc,Xd,Xe,Xf,Xg,Xh,Xi,Xj,Xk,Xl,Xm,Xn,Xo,Xp,Xq,Xr,Xs,Xt,Xu,Xv,Xw,Xx,Xy,Xz,XA,XB,reduceIte,reduceCtorEq,XC,XD,XE,XF,XG,XH,XI,XJ,XK,XL,XM,XN,XO,XP,XQ,XR,XS,XT,XU,XV,XW,XX,XY,XZ,Y0,Try.q3,Try.q4,Try.q29,Try.underlying37,Try.q37,Try.underlying98,Try.q98,Try.underlying99,Try.q99,Try.underlying101,Try.q101,Try.q102]
          exact fun L' hL => (hF.sto hL hun l5 l6).2
        | n + 9, hio, _ => cases hio
      rintro L e1 s5 hall hF
      have hsv : s5 = s7.set s3.length (.mp (.kv lBS cBE)) := by rw [hF.st, if_pos (hall 8 (by simp))]
      show seqA _ _ _ _ .normal _ _
      rw [seqA_normal]
      refine awp_subJ (baseE e i Z s3.length) ⟨hF.bs 8 _ rfl, hF.bs 9 _ rfl, hF.bs 7 _ rfl, hF.bs 6 _ rfl, hF.bs 21 _ rfl, hF.bs 20 _ rfl, hF.bs 19 _ rfl, hF.bs 3 _ rfl, hF.bs 4 _ rfl, hF.bs 5 _ rfl, trivial⟩ ?_
      clear hF
      have hx8 : Ext σ s5 := by rw [hsv]; exact hx7.set hm _
      have gs8 : s5[s3.length]? = some (.mp (.kv lBS cBE)) := by rw [hsv]; exact List.getElem?_set_self hmB
      have gt8 : s5[s3.length + 1]? = some (.mp (.kv l2 c2)) := by rw [hsv, List.getElem?_set_ne (by omega)]; exact gt7
      have hN : ∀ a c, balP (Z.take (i + 1)) a c = balP (Z.take i) a c + net e a c := by
        intro a c
        rw [List.take_succ_eq_append_getElem hlt, balP_append, hze]
        simp [balP]
      have hAll : ∀ a c, (valKV lBS (pk a c)).getD (.int .i64 0) = .int .i64 (balP (Z.take (i + 1)) a c) := by
        intro a c
        rw [hN, xB6]
        by_cases hT : a = e.to ∧ c = e.cur
        · obtain ⟨rfl, rfl⟩ := hT
          rw [if_pos rfl, ← hgT]
          simp [net, hv.ne]
        · rw [if_neg (fun h => hT (pk_eq.1 h)), xA6]
          by_cases hF2 : a = e.fr ∧ c = e.cur
          · obtain ⟨rfl, rfl⟩ := hF2
            rw [if_pos rfl, ← hgF]
            simp [net, hv.ne, Ne.symm hv.ne]
            omega
          · rw [if_neg (fun h => hF2 (pk_eq.1 h)), b1]
            have : net e a c = 0 := by
              unfold net
              by_cases hc : e.cur = c
              · subst hc
                rw [if_pos rfl, if_neg (fun h => hT ⟨h.symm, rfl⟩), if_neg (fun h => hF2 ⟨h.symm, rfl⟩)]; rfl
              · rw [if_neg hc]
            rw [this, Int.add_zero]
      have hoth : ∀ a c, ¬ (a = e.fr ∧ c = e.cur) → ¬ (a = e.to ∧ c = e.cur) → balP (Z.take (i + 1)) a c = balP (Z.take i) a c := by
        intro a c h1 h2
        rw [hN]
        have : net e a c = 0 := by
          unfold net
          by_cases hc : e.cur = c
          · subst hc
            rw [if_pos rfl, if_neg (fun h => h2 ⟨h.symm, rfl⟩), if_neg (fun h => h1 ⟨h.symm, rfl⟩)]; rfl
          · rw [if_neg hc]
        rw [this, Int.add_zero]
      clear hsv gs7 gt7 gEB hssB hmB hall
      generalize s5 = s8 at *
      obtain ⟨D, hD⟩ : ∃ D : Nat → Int → Int → Prop, D = fun k a c => (1 ≤ k ∧ a = e.fr ∧ c = e.cur) ∨ (2 ≤ k ∧ a = e.to ∧ c = e.cur) := ⟨_, rfl⟩
      refine awp_seq ?_
      refine awp_seq (awp_vc (by kernel_rfl) ?_)
      simp -implicitDefEqProofs only [seqA_normal,seqA_ret,seqA_exit,Q0,Q1,Q2,Q3,Q4,Q5,Q6,Q7,Q8,Q9,Qa,Qb,Qc,Qd,Qe,Qf,Qg,Qh,Qi,Qj,Qk,Ql,Qm,Qn,Qo,Qp,Qq,Qr,Qs,Qt,Qu,Qv,Qw,Qx,Qy,Qz,QA,QB,QC,QD,QE,QF,QG,QH,QI,QJ,QK,QL,QM,QN,QO,QP,QQ,QR,QS,QT,QU,QV,QW,QX,QY,QZ,X0,X1,X2,X3,X4,X5,X6,X7,X8,X9,Xa,Xb,Xc,Xd,Xe,Xf,Xg,Xh,Xi,Xj,Xk,Xl,Xm,Xn,Xo,Xp,Xq,Xr,Xs,Xt,Xu,Xv,Xw,Xx,Xy,Xz,XA,XB,reduceIte,reduceCtorEq,XC,XD,XE,XF,XG,XH,XI,XJ,XK,XL,XM,XN,XO,XP,XQ,XR,XS,XT,XU,XV,XW,XX,XY,XZ,Y0,Try.q3,Try.q4,Try.q29,Try.underlying37,Try.q37,Try.underlying98,Try.q98,Try.underlying99,Try.q99,Try.underlying101,Try.q101,Try.q102]
      refine awp_blk ?_
      refine awp_loopW (fun k : Nat => (56, .int .i64 k) :: (55, .int .i64 2) :: (54, .rows 2 [[.int .i64 e.fr, .int .i64 e.cur], [.int .i64 e.to, .int .i64 e.cur]]) :: (baseE e i Z s3.length).drop 2)
        (fun k s => k ≤ 2 ∧ Ext σ s ∧ s[s3.length]? = some (.mp (.kv lBS cBE)) ∧ ∃ l c, s[s3.length + 1]? = some (.mp (.kv l c)) ∧ KvOk PK l c ∧ ∀ a c', valKV l (pk a c') ≠ none ↔ a ≠ 0 ∧ ((D k a c' ∧ balP (Z.take (i + 1)) a c' < 0) ∨ (¬ D k a c' ∧ balP (Z.take i) a c' < 0))) (fun k => 2 - k) 0 (by simp [sub_cons, sub_nil, get_cons]) ?_ ?_
      · refine ⟨by omega, hx8, gs8, l2, c2, gt8, k2, fun a c' => ?_⟩
        have : ¬ D 0 a c' := by rw [hD]; rintro (⟨h, _⟩ | ⟨h, _⟩) <;> omega
        rw [b2 a c']
        simp [this]
      clear hx8 gs8 gt8
      rintro k s9 ⟨hk2, hx9, gs9, l, c, gt9, hkv, hsh⟩
      by_cases hlk : k < 2
      · obtain ⟨pa, hpa⟩ : ∃ pa, pa = if k = 0 then e.fr else e.to := ⟨_, rfl⟩
        have okp : PK (pk pa e.cur) := by rw [hpa]; split; exact okF; exact okT
        have hrowp : (([[.int .i64 e.fr, .int .i64 e.cur], [.int .i64 e.to, .int .i64 e.cur]] : List (List AV)).getD (k : Int).toNat []) = [.int .i64 pa, .int .i64 e.cur] := by
          rw [Int.toNat_natCast, hpa]
          have : k = 0 ∨ k = 1 := by omega
          rcases this with rfl | rfl <;> rfl
        have hDs : ∀ a c', D (k + 1) a c' ↔ D k a c' ∨ (a = pa ∧ c' = e.cur) := by
          intro a c'
          rw [hD, hpa]
          have : k = 0 ∨ k = 1 := by omega
          rcases this with rfl | rfl <;> simp
        have d2 : decide ((k : Int) < 2) = true := decide_eq_true (by omega)
        have wk : IntKind.i64.wrap ((k : Int) + 1) = ((k + 1 : Nat) : Int) := by rw [wrap_i64 (by omega) (by omega)]; rfl
        have hlook : lookA1 false (.int .i64 0) (lookKV lBS (pk pa e.cur)) = .int .i64 (balP (Z.take (i + 1)) pa e.cur) := by rw [look_false]; exact hAll _ _
        have ga : (s9 ++ [.box [.int .i64 pa, .int .i64 e.cur]])[s3.length]? = some (.mp (.kv lBS cBE)) := Ext.app s9 _ _ _ gs9
        have gb : (s9 ++ [.box [.int .i64 pa, .int .i64 e.cur]])[s3.length + 1]? = some (.mp (.kv l c)) := Ext.app s9 _ _ _ gt9
        have gc : (s9 ++ [.box [.int .i64 pa, .int .i64 e.cur]])[s9.length]? = some (.box [.int .i64 pa, .int .i64 e.cur]) := by simp
        have hxa : Ext σ (s9 ++ [.box [.int .i64 pa, .int .i64 e.cur]]) := hx9.push _
        have hll : (([[.int .i64 e.fr, .int .i64 e.cur], [.int .i64 e.to, .int .i64 e.cur]] : List (List AV))).length = 2 := rfl
        have kks := pk_ok okp
        have kk1 : ∀ p ∈ lBS, keyOkA Try.prog 101 p.1 := fun p hp => pk_ok (xB4.ks p hp)
        have kk2 : ∀ p ∈ l, keyOkA Try.prog 101 p.1 := fun p hp => pk_ok (hkv.ks p hp)
        have fin : ∀ (l' : KvL) (c' : Nat) (b : Bool), KvOk PK l' c' → (∀ k', k' = pk pa e.cur → (valKV l' k' ≠ none ↔ b = true)) → (∀ k', k' ≠ pk pa e.cur → (valKV l' k' ≠ none ↔ valKV l k' ≠ none)) → (b = true ↔ pa ≠ 0 ∧ balP (Z.take (i + 1)) pa e.cur < 0) →
            ((s9 ++ [AObj.box [.int .i64 pa, .int .i64 e.cur]]).set (s3.length + 1) (AObj.mp (.kv l' c')))[s3.length]? = some (.mp (.kv lBS cBE)) ∧ ∃ l c, ((s9 ++ [AObj.box [.int .i64 pa, .int .i64 e.cur]]).set (s3.length + 1) (AObj.mp (.kv l' c')))[s3.length + 1]? = some (.mp (.kv l c)) ∧ KvOk PK l c ∧
              ∀ a c', valKV l (pk a c') ≠ none ↔ a ≠ 0 ∧ ((D (k + 1) a c' ∧ balP (Z.take (i + 1)) a c' < 0) ∨ (¬ D (k + 1) a c' ∧ balP (Z.take i) a c' < 0)) := by
          intro l' c' b q1 q2 q2' q3
          refine ⟨by rw [List.getElem?_set_ne (by omega)]; exact ga, l', c', List.getElem?_set_self (List.getElem?_eq_some_iff.1 gb).1, q1, fun a c1 => ?_⟩
          rw [hDs]
          by_cases hap : a = pa ∧ c1 = e.cur
          · obtain ⟨rfl, rfl⟩ := hap
            rw [q2 _ rfl, q3]
            simp
          · rw [q2' _ (fun h => hap (pk_eq.1 h)), hsh]
            simp [hap]
        refine awp_seq (awp_vc (by kernel_rfl) ?_)
        simp -implicitDefEqProofs only [seqA_normal,seqA_ret,seqA_exit,d2,Q0,Q1,Q2,Q3,Q4,Q5,Q6,Q7,Q8,Q9,Qa,Qb,Qc,Qd,Qe,Qf,Qg,Qh,Qi,Qj,Qk,Ql,Qm,Qn,Qo,Qp,Qq,Qr,Qs,Qt,Qu,Qv,Qw,Qx,Qy,Qz,QA,QB,QC,QD,QE,QF,QG,QH,QI,QJ,QK,QL,QM,QN,QO,QP,QQ,QR,QS,QT,QU,QV,QW,QX,QY,QZ,X0,X1,X2,X3,X4,X5,X6,X7,X8,X9,Xa,Xb,Xc,Xd,Xe,Xf,Xg,Xh,Xi,Xj,Xk,Xl,Xm,Xn,Xo,Xp,Xq,Xr,Xs,Xt,Xu,Xv,Xw,Xx,Xy,Xz,XA,XB,reduceIte,reduceCtorEq,XC,XD,XE,XF,XG,XH,XI,XJ,XK,XL,XM,XN,XO,XP,XQ,XR,XS,XT,XU,XV,XW,XX,XY,XZ,Y0,Try.q3,Try.q4,Try.q29,Try.underlying37,Try.q37,Try.underlying98,Try.q98,Try.underlying99,Try.q99,Try.underlying101,Try.q101,Try.q102]
        refine awp_seq (awp_vc (by kernel_rfl) ?_)
        simp -implicitDefEqProofs only [seqA_normal,seqA_ret,seqA_exit,Q0,Q1,Q2,Q3,Q4,Q5,Q6,Q7,Q8,Q9,Qa,Qb,Qc,Qd,Qe,Qf,Qg,Qh,Qi,Qj,Qk,Ql,Qm,Qn,Qo,Qp,Qq,Qr,Qs,Qt,Qu,Qv,Qw,Qx,Qy,Qz,QA,QB,QC,QD,QE,QF,QG,QH,QI,QJ,QK,QL,QM,QN,QO,QP,QQ,QR,QS,QT,QU,QV,QW,QX,QY,QZ,X0,X1,X2,X3,X4,X5,X6,X7,X8,X9,Xa,Xb,Xc,Xd,Xe,Xf,Xg,Xh,Xi,Xj,Xk,Xl,Xm,Xn,Xo,Xp,Xq,Xr,Xs,Xt,Xu,Xv,Xw,Xx,Xy,Xz,XA,XB,reduceIte,reduceCtorEq,XC,XD,XE,XF,XG,XH,XI,XJ,XK,XL,XM,XN,XO,XP,XQ,XR,XS,XT,XU,XV,XW,XX,XY,XZ,Y0,Try.q3,Try.q4,Try.q29,Try.underlying37,Try.q37,Try.underlying98,Try.q98,Try.underlying99,Try.q99,Try.underlying101,Try.q101,Try.q102]
        refine awp_seq (awp_vc (by kernel_rfl) ?_)
        by_cases hneg : balP (Z.take (i + 1)) pa e.cur < 0
        · have d3 : decide (balP (Z.take (i + 1)) pa e.cur < 0) = true := decide_eq_true hneg
          by_cases hz : pa = 0
          · have d4 : decide (pa = 0) = true := decide_eq_true hz
            obtain ⟨l', q1, q2, q3⟩ := del_ok hkv (pk pa e.cur)
            simp -implicitDefEqProofs only [hrowp,hll,ga,gb,gc,hlook,d3,d4,q1,Q0,Q1,Q2,Q3,Q4,Q5,Q6,Q7,Q8,Q9,Qa,Qb,Qc,Qd,Qe,Qf,Qg,Qh,Qi,Qj,Qk,Ql,Qm,Qn,Qo,Qp,Qq,Qr,Qs,Qt,Qu,Qv,Qw,Qx,Qy,Qz,QA,QB,QC,QD,QE,QF,QG,QH,QI,QJ,QK,QL,QM,QN,QO,QP,QQ,QR,QS,QT,QU,QV,QW,QX,QY,QZ,X0,X1,X2,X3,X4,X5,X6,X7,X8,X9,Xa,Xb,Xc,Xd,Xe,Xf,Xg,Xh,Xi,Xj,Xk,Xl,Xm,Xn,Xo,Xp,Xq,Xr,Xs,Xt,Xu,Xv,Xw,Xx,Xy,Xz,XA,XB,reduceIte,reduceCtorEq,XC,XD,XE,XF,XG,XH,XI,XJ,XK,XL,XM,XN,XO,XP,XQ,XR,XS,XT,XU,XV,XW,XX,XY,XZ,Y0,Try.q3,Try.q4,Try.q29,Try.underlying37,Try.q37,Try.underlying98,Try.q98,Try.underlying99,Try.q99,Try.underlying101,Try.q101,Try.q102]
            refine ⟨by omega, kks, kk1, kks, kk2, ?_⟩
            simp -implicitDefEqProofs only [seqA_normal,Q0,Q1,Q2,Q3,Q4,Q5,Q6,Q7,Q8,Q9,Qa,Qb,Qc,Qd,Qe,Qf,Qg,Qh,Qi,Qj,Qk,Ql,Qm,Qn,Qo,Qp,Qq,Qr,Qs,Qt,Qu,Qv,Qw,Qx,Qy,Qz,QA,QB,QC,QD,QE,QF,QG,QH,QI,QJ,QK,QL,QM,QN,QO,QP,QQ,QR,QS,QT,QU,QV,QW,QX,QY,QZ,X0,X1,X2,X3,X4,X5,X6,X7,X8,X9,Xa,Xb,Xc,Xd,Xe,Xf,Xg,Xh,Xi,Xj,Xk,Xl,Xm,Xn,Xo,Xp,Xq,Xr,Xs,Xt,Xu,Xv,Xw,Xx,Xy,Xz,XA,XB,reduceIte,reduceCtorEq,XC,XD,XE,XF,XG,XH,XI,XJ,XK,XL,XM,XN,XO,XP,XQ,XR,XS,XT,XU,XV,XW,XX,XY,XZ,Y0,Try.q3,Try.q4,Try.q29,Try.underlying37,Try.q37,Try.underlying98,Try.q98,Try.underlying99,Try.q99,Try.underlying101,Try.q101,Try.q102]
            refine awp_vc (by kernel_rfl) ?_
            simp -implicitDefEqProofs only [wk,Q0,Q1,Q2,Q3,Q4,Q5,Q6,Q7,Q8,Q9,Qa,Qb,Qc,Qd,Qe,Qf,Qg,Qh,Qi,Qj,Qk,Ql,Qm,Qn,Qo,Qp,Qq,Qr,Qs,Qt,Qu,Qv,Qw,Qx,Qy,Qz,QA,QB,QC,QD,QE,QF,QG,QH,QI,QJ,QK,QL,QM,QN,QO,QP,QQ,QR,QS,QT,QU,QV,QW,QX,QY,QZ,X0,X1,X2,X3,X4,X5,X6,X7,X8,X9,Xa,Xb,Xc,Xd,Xe,Xf,Xg,Xh,Xi,Xj,Xk,Xl,Xm,Xn,Xo,Xp,Xq,Xr,Xs,Xt,Xu,Xv,Xw,Xx,Xy,Xz,XA,XB,reduceIte,reduceCtorEq,XC,XD,XE,XF,XG,XH,XI,XJ,XK,XL,XM,XN,XO,XP,XQ,XR,XS,XT,XU,XV,XW,XX,XY,XZ,Y0,Try.q3,Try.q4,Try.q29,Try.underlying37,Try.q37,Try.underlying98,Try.q98,Try.underlying99,Try.q99,Try.underlying101,Try.q101,Try.q102]
            exact ⟨k + 1, by simp, ⟨by omega, hxa.set (by omega) _, fin l' c false q2 (fun k' hk => by rw [q3, if_pos hk]; simp) (fun k' hk => by rw [q3, if_neg hk]) (by simp [hz])⟩, by omega⟩
          · have d4 : decide (pa = 0) = false := decide_eq_false hz
            obtain ⟨l', c', q1, q2, q3⟩ := put_ok hkv okp (.bool true)
            simp -implicitDefEqProofs only [hrowp,hll,ga,gb,gc,hlook,d3,d4,q1,Q0,Q1,Q2,Q3,Q4,Q5,Q6,Q7,Q8,Q9,Qa,Qb,Qc,Qd,Qe,Qf,Qg,Qh,Qi,Qj,Qk,Ql,Qm,Qn,Qo,Qp,Qq,Qr,Qs,Qt,Qu,Qv,Qw,Qx,Qy,Qz,QA,QB,QC,QD,QE,QF,QG,QH,QI,QJ,QK,QL,QM,QN,QO,QP,QQ,QR,QS,QT,QU,QV,QW,QX,QY,QZ,X0,X1,X2,X3,X4,X5,X6,X7,X8,X9,Xa,Xb,Xc,Xd,Xe,Xf,Xg,Xh,Xi,Xj,Xk,Xl,Xm,Xn,Xo,Xp,Xq,Xr,Xs,Xt,Xu,Xv,Xw,Xx,Xy,Xz,XA,XB,reduceIte,reduceCtorEq,XC,XD,XE,XF,XG,XH,XI,XJ,XK,XL,XM,XN,XO,XP,XQ,XR,XS,XT,XU,XV,XW,XX,XY,XZ,Y0,Try.q3,Try.q4,Try.q29,Try.underlying37,Try.q37,Try.underlying98,Try.q98,Try.underlying99,Try.q99,Try.underlying101,Try.q101,Try.q102]
            refine ⟨by omega, kks, kk1, kks, kk2, ?_⟩
            simp -implicitDefEqProofs only [seqA_normal,Q0,Q1,Q2,Q3,Q4,Q5,Q6,Q7,Q8,Q9,Qa,Qb,Qc,Qd,Qe,Qf,Qg,Qh,Qi,Qj,Qk,Ql,Qm,Qn,Qo,Qp,Qq,Qr,Qs,Qt,Qu,Qv,Qw,Qx,Qy,Qz,QA,QB,QC,QD,QE,QF,QG,QH,QI,QJ,QK,QL,QM,QN,QO,QP,QQ,QR,QS,QT,QU,QV,QW,QX,QY,QZ,X0,X1,X2,X3,X4,X5,X6,X7,X8,X9,Xa,Xb,Xc,Xd,Xe,Xf,Xg,Xh,Xi,Xj,Xk,Xl,Xm,Xn,Xo,Xp,Xq,Xr,Xs,Xt,Xu,Xv,Xw,Xx,Xy,Xz,XA,XB,reduceIte,reduceCtorEq,XC,XD,XE,XF,XG,XH,XI,XJ,XK,XL,XM,XN,XO,XP,XQ,XR,XS,XT,XU,XV,XW,XX,XY,XZ,Y0,Try.q3,Try.q4,Try.q29,Try.underlying37,Try.q37,Try.underlying98,Try.q98,Try.underlying99,Try.q99,Try.underlying101,Try.q101,Try.q102]
            refine awp_vc (by kernel_rfl) ?_
            simp -implicitDefEqProofs only [wk,Q0,Q1,Q2,Q3,Q4,Q5,Q6,Q7,Q8,Q9,Qa,Qb,Qc,Qd,Qe,Qf,Qg,Qh,Qi,Qj,Qk,Ql,Qm,Qn,Qo,Qp,Qq,Qr,Qs,Qt,Qu,Qv,Qw,Qx,Qy,Qz,QA,QB,QC,QD,QE,QF,QG,QH,QI,QJ,QK,QL,QM,QN,QO,QP,QQ,QR,QS,QT,QU,QV,QW,QX,QY,QZ,X0,X1,X2,X3,X4,X5,X6,X7,X8,X9,Xa,Xb,Xc,Xd,Xe,Xf,Xg,Xh,Xi,Xj,Xk,Xl,Xm,Xn,Xo,Xp,Xq,Xr,Xs,Xt,Xu,Xv,Xw,Xx,Xy,Xz,XA,XB,reduceIte,reduceCtorEq,XC,XD,XE,XF,XG,XH,XI,XJ,XK,XL,XM,XN,XO,XP,XQ,XR,XS,XT,XU,XV,XW,XX,XY,XZ,Y0,Try.q3,Try.q4,Try.q29,Try.underlying37,Try.q37,Try.underlying98,Try.q98,Try.underlying99,Try.q99,Try.underlying101,Try.q101,Try.q102]
            exact ⟨k + 1, by simp, ⟨by omega, hxa.set (by omega) _, fin l' c' true q2 (fun k' hk => by rw [q3, if_pos hk]; simp) (fun k' hk => by rw [q3, if_neg hk]) (by simp [hz, hneg])⟩, by omega⟩
        · have d3 : decide (balP (Z.take (i + 1)) pa e.cur < 0) = false := decide_eq_false hneg
          obtain ⟨l', q1, q2, q3⟩ := del_ok hkv (pk pa e.cur)
          simp -implicitDefEqProofs only [hrowp,hll,ga,gb,gc,hlook,d3,q1,Q0,Q1,Q2,Q3,Q4,Q5,Q6,Q7,Q8,Q9,Qa,Qb,Qc,Qd,Qe,Qf,Qg,Qh,Qi,Qj,Qk,Ql,Qm,Qn,Qo,Qp,Qq,Qr,Qs,Qt,Qu,Qv,Qw,Qx,Qy,Qz,QA,QB,QC,QD,QE,QF,QG,QH,QI,QJ,QK,QL,QM,QN,QO,QP,QQ,QR,QS,QT,QU,QV,QW,QX,QY,QZ,X0,X1,X2,X3,X4,X5,X6,X7,X8,X9,Xa,Xb,Xc,Xd,Xe,Xf,Xg,Xh,Xi,Xj,Xk,Xl,Xm,Xn,Xo,Xp,Xq,Xr,Xs,Xt,Xu,Xv,Xw,Xx,Xy,Xz,XA,XB,reduceIte,reduceCtorEq,XC,XD,XE,XF,XG,XH,XI,XJ,XK,XL,XM,XN,XO,XP,XQ,XR,XS,XT,XU,XV,XW,XX,XY,XZ,Y0,Try.q3,Try.q4,Try.q29,Try.underlying37,Try.q37,Try.underlying98,Try.q98,Try.underlying99,Try.q99,Try.underlying101,Try.q101,Try.q102]
          refine ⟨by omega, kks, kk1, kks, kk2, ?_⟩
          simp -implicitDefEqProofs only [seqA_normal,Q0,Q1,Q2,Q3,Q4,Q5,Q6,Q7,Q8,Q9,Qa,Qb,Qc,Qd,Qe,Qf,Qg,Qh,Qi,Qj,Qk,Ql,Qm,Qn,Qo,Qp,Qq,Qr,Qs,Qt,Qu,Qv,Qw,Qx,Qy,Qz,QA,QB,QC,QD,QE,QF,QG,QH,QI,QJ,QK,QL,QM,QN,QO,QP,QQ,QR,QS,QT,QU,QV,QW,QX,QY,QZ,X0,X1,X2,X3,X4,X5,X6,X7,X8,X9,Xa,Xb,Xc,Xd,Xe,Xf,Xg,Xh,Xi,Xj,Xk,Xl,Xm,Xn,Xo,Xp,Xq,Xr,Xs,Xt,Xu,Xv,Xw,Xx,Xy,Xz,XA,XB,reduceIte,reduceCtorEq,XC,XD,XE,XF,XG,XH,XI,XJ,XK,XL,XM,XN,XO,XP,XQ,XR,XS,XT,XU,XV,XW,XX,XY,XZ,Y0,Try.q3,Try.q4,Try.q29,Try.underlying37,Try.q37,Try.underlying98,Try.q98,Try.underlying99,Try.q99,Try.underlying101,Try.q101,Try.q102]
          refine awp_vc (by kernel_rfl) ?_
          simp -implicitDefEqProofs only [wk,Q0,Q1,Q2,Q3,Q4,Q5,Q6,Q7,Q8,Q9,Qa,Qb,Qc,Qd,Qe,Qf,Qg,Qh,Qi,Qj,Qk,Ql,Qm,Qn,Qo,Qp,Qq,Qr,Qs,Qt,Qu,Qv,Qw,Qx,Qy,Qz,QA,QB,QC,QD,QE,QF,QG,QH,QI,QJ,QK,QL,QM,QN,QO,QP,QQ,QR,QS,QT,QU,QV,QW,QX,QY,QZ,X0,X1,X2,X3,X4,X5,X6,X7,X8,X9,Xa,Xb,Xc,Xd,Xe,Xf,Xg,Xh,Xi,Xj,Xk,Xl,Xm,Xn,Xo,Xp,Xq,Xr,Xs,Xt,Xu,Xv,Xw,Xx,Xy,Xz,XA,XB,reduceIte,reduceCtorEq,XC,XD,XE,XF,XG,XH,XI,XJ,XK,XL,XM,XN,XO,XP,XQ,XR,XS,XT,XU,XV,XW,XX,XY,XZ,Y0,Try.q3,Try.q4,Try.q29,Try.underlying37,Try.q37,Try.underlying98,Try.q98,Try.underlying99,Try.q99,Try.underlying101,Try.q101,Try.q102]
          exact ⟨k + 1, by simp, ⟨by omega, hxa.set (by omega) _, fin l' c false q2 (fun k' hk => by rw [q3, if_pos hk]; simp) (fun k' hk => by rw [q3, if_neg hk]) (by simp [hneg])⟩, by omega⟩
      · have hkk : k = 2 := by omega
        subst hkk
        have d2 : decide (((2 : Nat) : Int) < 2) = false := rfl
        have hsh2 : ∀ a c', valKV l (pk a c') ≠ none ↔ a ≠ 0 ∧ balP (Z.take (i + 1)) a c' < 0 := by
          intro a c'
          rw [hsh]
          by_cases hd : D 2 a c'
          · simp [hd]
          · have h1 : ¬ (a = e.fr ∧ c' = e.cur) := fun h => hd (by rw [hD]; exact .inl ⟨by omega, h⟩)
            have h2 : ¬ (a = e.to ∧ c' = e.cur) := fun h => hd (by rw [hD]; exact .inr ⟨by omega, h⟩)
            simp [hd, hoth a c' h1 h2]
        have hbad : ∀ a c', a ≠ 0 → balP (Z.take (i + 1)) a c' < 0 → 0 < l.length := fun a c' h1 h2 => kv_pos hkv ((hsh2 a c').2 ⟨h1, h2⟩)
        have hbad2 : 0 < l.length → ∃ a c', a ≠ 0 ∧ balP (Z.take (i + 1)) a c' < 0 := by
          intro h
          obtain ⟨key, ⟨a, c', _, _, rfl⟩, h2⟩ := (kv_empty hkv).1 h
          exact ⟨a, c', (hsh2 a c').1 h2⟩
        have hlast : ∀ j, j < i + 1 → (Eod Z i → l.length = 0) → Eod Z j → ∀ a c, a ≠ 0 → 0 ≤ balP (Z.take (j + 1)) a c := by
          intro j hj h0 he a c' ha
          by_cases hji : j = i
          · subst hji
            have := h0 he
            by_cases hn : balP (Z.take (j + 1)) a c' < 0
            · have := hbad a c' ha hn; omega
            · omega
          · exact hok j (by omega) he a c' ha
        have hfail : Eod Z i → 0 < l.length → sndB es = false := by
          intro he h0
          obtain ⟨a, c', h1, h2⟩ := hbad2 h0
          refine sndB_f fun hs => ?_
          have := (snd_iff hp hS).1 hs i he a c' h1
          omega
        refine awp_vc (by kernel_rfl) ?_
        simp -implicitDefEqProofs only [d2,seqA_normal,Q0,Q1,Q2,Q3,Q4,Q5,Q6,Q7,Q8,Q9,Qa,Qb,Qc,Qd,Qe,Qf,Qg,Qh,Qi,Qj,Qk,Ql,Qm,Qn,Qo,Qp,Qq,Qr,Qs,Qt,Qu,Qv,Qw,Qx,Qy,Qz,QA,QB,QC,QD,QE,QF,QG,QH,QI,QJ,QK,QL,QM,QN,QO,QP,QQ,QR,QS,QT,QU,QV,QW,QX,QY,QZ,X0,X1,X2,X3,X4,X5,X6,X7,X8,X9,Xa,Xb,Xc,Xd,Xe,Xf,Xg,Xh,Xi,Xj,Xk,Xl,Xm,Xn,Xo,Xp,Xq,Xr,Xs,Xt,Xu,Xv,Xw,Xx,Xy,Xz,XA,XB,reduceIte,reduceCtorEq,XC,XD,XE,XF,XG,XH,XI,XJ,XK,XL,XM,XN,XO,XP,XQ,XR,XS,XT,XU,XV,XW,XX,XY,XZ,Y0,Try.q3,Try.q4,Try.q29,Try.underlying37,Try.q37,Try.underlying98,Try.q98,Try.underlying99,Try.q99,Try.underlying101,Try.q101,Try.q102]
        have hgi : Z.getD i default = e := by rw [getD_get hlt]; exact hze
        refine awp_cutK (fun e' s' => s' = s9 ∧ ∃ b : Bool, (b = true ↔ Eod Z i) ∧ Env.sub [(12, .bool b), (5, .mp (s3.length + 1)), (21, .int .i64 i), (20, .int .i64 Z.length), (19, esV Z), (3, esV Z), (4, .mp s3.length)] e') ?_ ?_
        · refine awp_draws [] Try.mixed (by kernel_rfl) ?_
          by_cases hl1 : i + 1 = Z.length
          · have d5 : decide (((i + 1 : Nat) : Int) = (Z.length : Int)) = true := decide_eq_true (by omega)
            simp -implicitDefEqProofs only [wi,lm,d5,cutK_normal,Q0,Q1,Q2,Q3,Q4,Q5,Q6,Q7,Q8,Q9,Qa,Qb,Qc,Qd,Qe,Qf,Qg,Qh,Qi,Qj,Qk,Ql,Qm,Qn,Qo,Qp,Qq,Qr,Qs,Qt,Qu,Qv,Qw,Qx,Qy,Qz,QA,QB,QC,QD,QE,QF,QG,QH,QI,QJ,QK,QL,QM,QN,QO,QP,QQ,QR,QS,QT,QU,QV,QW,QX,QY,QZ,X0,X1,X2,X3,X4,X5,X6,X7,X8,X9,Xa,Xb,Xc,Xd,Xe,Xf,Xg,Xh,Xi,Xj,Xk,Xl,Xm,Xn,Xo,Xp,Xq,Xr,Xs,Xt,Xu,Xv,Xw,Xx,Xy,Xz,XA,XB,reduceIte,reduceCtorEq,XC,XD,XE,XF,XG,XH,XI,XJ,XK,XL,XM,XN,XO,XP,XQ,XR,XS,XT,XU,XV,XW,XX,XY,XZ,Y0,Try.q3,Try.q4,Try.q29,Try.underlying37,Try.q37,Try.underlying98,Try.q98,Try.underlying99,Try.q99,Try.underlying101,Try.q101,Try.q102]
            exact ⟨true, by simp [Eod, hlt, hl1], by simp [sub_cons, sub_nil, get_cons]⟩
          · have d5 : decide (((i + 1 : Nat) : Int) = (Z.length : Int)) = false := decide_eq_false (by omega)
            have hlt2 : i + 1 < Z.length := by omega
            have hrow2 : (Z.map entA).getD ((i + 1 : Nat) : Int).toNat [] = entA (Z.getD (i + 1) default) := by rw [Int.toNat_natCast, getD_get (by simpa using hlt2), getD_get hlt2]; simp
            have hE : Eod Z i ↔ e.day < (Z.getD (i + 1) default).day := by
              unfold Eod
              rw [hgi]
              constructor
              · rintro ⟨_, h | h⟩
                · exact absurd h hl1
                · exact h
              · intro h; exact ⟨hlt, .inr h⟩
            generalize Z.getD (i + 1) default = y at hrow2 hE
            have hrow3 : (Z.map entA).getD ((i + 1 : Nat) : Int).toNat [] = [.int .i64 y.day, .int .i64 y.fr, .int .i64 y.to, .int .i64 y.cur, .int .i64 y.amt, .int .i64 y.note] := hrow2
            have hent : entA e = [.int .i64 e.day, .int .i64 e.fr, .int .i64 e.to, .int .i64 e.cur, .int .i64 e.amt, .int .i64 e.note] := rfl
            have bi : (0 : Int) ≤ ((i + 1 : Nat) : Int) ∧ ((i + 1 : Nat) : Int) < (Z.length : Int) := by omega
            by_cases hd : e.day < y.day
            · have d6 : decide (e.day < y.day) = true := decide_eq_true hd
              simp -implicitDefEqProofs only [wi,lm,d5,hrow3,hent,d6,cutK_normal,Q0,Q1,Q2,Q3,Q4,Q5,Q6,Q7,Q8,Q9,Qa,Qb,Qc,Qd,Qe,Qf,Qg,Qh,Qi,Qj,Qk,Ql,Qm,Qn,Qo,Qp,Qq,Qr,Qs,Qt,Qu,Qv,Qw,Qx,Qy,Qz,QA,QB,QC,QD,QE,QF,QG,QH,QI,QJ,QK,QL,QM,QN,QO,QP,QQ,QR,QS,QT,QU,QV,QW,QX,QY,QZ,X0,X1,X2,X3,X4,X5,X6,X7,X8,X9,Xa,Xb,Xc,Xd,Xe,Xf,Xg,Xh,Xi,Xj,Xk,Xl,Xm,Xn,Xo,Xp,Xq,Xr,Xs,Xt,Xu,Xv,Xw,Xx,Xy,Xz,XA,XB,reduceIte,reduceCtorEq,XC,XD,XE,XF,XG,XH,XI,XJ,XK,XL,XM,XN,XO,XP,XQ,XR,XS,XT,XU,XV,XW,XX,XY,XZ,Y0,Try.q3,Try.q4,Try.q29,Try.underlying37,Try.q37,Try.underlying98,Try.q98,Try.underlying99,Try.q99,Try.underlying101,Try.q101,Try.q102]
              exact ⟨bi, true, by simp [hE, hd], by simp [sub_cons, sub_nil, get_cons]⟩
            · have d6 : decide (e.day < y.day) = false := decide_eq_false hd
              simp -implicitDefEqProofs only [wi,lm,d5,hrow3,hent,d6,cutK_normal,Q0,Q1,Q2,Q3,Q4,Q5,Q6,Q7,Q8,Q9,Qa,Qb,Qc,Qd,Qe,Qf,Qg,Qh,Qi,Qj,Qk,Ql,Qm,Qn,Qo,Qp,Qq,Qr,Qs,Qt,Qu,Qv,Qw,Qx,Qy,Qz,QA,QB,QC,QD,QE,QF,QG,QH,QI,QJ,QK,QL,QM,QN,QO,QP,QQ,QR,QS,QT,QU,QV,QW,QX,QY,QZ,X0,X1,X2,X3,X4,X5,X6,X7,X8,X9,Xa,Xb,Xc,Xd,Xe,Xf,Xg,Xh,Xi,Xj,Xk,Xl,Xm,Xn,Xo,Xp,Xq,Xr,Xs,Xt,Xu,Xv,Xw,Xx,Xy,Xz,XA,XB,reduceIte,reduceCtorEq,XC,XD,XE,XF,XG,XH,XI,XJ,XK,XL,XM,XN,XO,XP,XQ,XR,XS,XT,XU,XV,XW,XX,XY,XZ,Y0,Try.q3,Try.q4,Try.q29,Try.underlying37,Try.q37,Try.underlying98,Try.q98,Try.underlying99,Try.q99,Try.underlying101,Try.q101,Try.q102]
              exact ⟨bi, false, by simp [hE, hd], by simp [sub_cons, sub_nil, get_cons]⟩
        · rintro e' s' ⟨rfl, b, hbE, he⟩
          refine awp_subJ _ he ?_
          clear he e'
          refine awp_vc (by kernel_rfl) ?_
          have done : (Eod Z i → l.length = 0) → SInv σ Z s3.length (i + 1) s' := fun h0 => ⟨by omega, hx9, hm, lBS, cBE, l, c, gs9, gt9, xB4, hkv, hAll, hsh2, fun j hj he a c' ha => hlast j hj h0 he a c' ha⟩
          cases b with
          | true =>
            have hE := hbE.1 rfl
            by_cases h0 : 0 < l.length
            · have d6 : decide ((0 : Int) < (l.length : Int)) = true := decide_eq_true (by omega)
              simp -implicitDefEqProofs only [gt9,d6,Q0,Q1,Q2,Q3,Q4,Q5,Q6,Q7,Q8,Q9,Qa,Qb,Qc,Qd,Qe,Qf,Qg,Qh,Qi,Qj,Qk,Ql,Qm,Qn,Qo,Qp,Qq,Qr,Qs,Qt,Qu,Qv,Qw,Qx,Qy,Qz,QA,QB,QC,QD,QE,QF,QG,QH,QI,QJ,QK,QL,QM,QN,QO,QP,QQ,QR,QS,QT,QU,QV,QW,QX,QY,QZ,X0,X1,X2,X3,X4,X5,X6,X7,X8,X9,Xa,Xb,Xc,Xd,Xe,Xf,Xg,Xh,Xi,Xj,Xk,Xl,Xm,Xn,Xo,Xp,Xq,Xr,Xs,Xt,Xu,Xv,Xw,Xx,Xy,Xz,XA,XB,reduceIte,reduceCtorEq,XC,XD,XE,XF,XG,XH,XI,XJ,XK,XL,XM,XN,XO,XP,XQ,XR,XS,XT,XU,XV,XW,XX,XY,XZ,Y0,Try.q3,Try.q4,Try.q29,Try.underlying37,Try.q37,Try.underlying98,Try.q98,Try.underlying99,Try.q99,Try.underlying101,Try.q101,Try.q102]
              simp -implicitDefEqProofs only [seqA_ret,Q0,Q1,Q2,Q3,Q4,Q5,Q6,Q7,Q8,Q9,Qa,Qb,Qc,Qd,Qe,Qf,Qg,Qh,Qi,Qj,Qk,Ql,Qm,Qn,Qo,Qp,Qq,Qr,Qs,Qt,Qu,Qv,Qw,Qx,Qy,Qz,QA,QB,QC,QD,QE,QF,QG,QH,QI,QJ,QK,QL,QM,QN,QO,QP,QQ,QR,QS,QT,QU,QV,QW,QX,QY,QZ,X0,X1,X2,X3,X4,X5,X6,X7,X8,X9,Xa,Xb,Xc,Xd,Xe,Xf,Xg,Xh,Xi,Xj,Xk,Xl,Xm,Xn,Xo,Xp,Xq,Xr,Xs,Xt,Xu,Xv,Xw,Xx,Xy,Xz,XA,XB,reduceIte,reduceCtorEq,XC,XD,XE,XF,XG,XH,XI,XJ,XK,XL,XM,XN,XO,XP,XQ,XR,XS,XT,XU,XV,XW,XX,XY,XZ,Y0,Try.q3,Try.q4,Try.q29,Try.underlying37,Try.q37,Try.underlying98,Try.q98,Try.underlying99,Try.q99,Try.underlying101,Try.q101,Try.q102]
              exact ⟨by rw [hfail hE h0], hx9⟩
            · have d6 : decide ((0 : Int) < (l.length : Int)) = false := decide_eq_false (by omega)
              simp -implicitDefEqProofs only [gt9,d6,seqA_normal,Q0,Q1,Q2,Q3,Q4,Q5,Q6,Q7,Q8,Q9,Qa,Qb,Qc,Qd,Qe,Qf,Qg,Qh,Qi,Qj,Qk,Ql,Qm,Qn,Qo,Qp,Qq,Qr,Qs,Qt,Qu,Qv,Qw,Qx,Qy,Qz,QA,QB,QC,QD,QE,QF,QG,QH,QI,QJ,QK,QL,QM,QN,QO,QP,QQ,QR,QS,QT,QU,QV,QW,QX,QY,QZ,X0,X1,X2,X3,X4,X5,X6,X7,X8,X9,Xa,Xb,Xc,Xd,Xe,Xf,Xg,Xh,Xi,Xj,Xk,Xl,Xm,Xn,Xo,Xp,Xq,Xr,Xs,Xt,Xu,Xv,Xw,Xx,Xy,Xz,XA,XB,reduceIte,reduceCtorEq,XC,XD,XE,XF,XG,XH,XI,XJ,XK,XL,XM,XN,XO,XP,XQ,XR,XS,XT,XU,XV,XW,XX,XY,XZ,Y0,Try.q3,Try.q4,Try.q29,Try.underlying37,Try.q37,Try.underlying98,Try.q98,Try.underlying99,Try.q99,Try.underlying101,Try.q101,Try.q102]
              refine awp_vc (by kernel_rfl) ?_
              simp -implicitDefEqProofs only [wi,Q0,Q1,Q2,Q3,Q4,Q5,Q6,Q7,Q8,Q9,Qa,Qb,Qc,Qd,Qe,Qf,Qg,Qh,Qi,Qj,Qk,Ql,Qm,Qn,Qo,Qp,Qq,Qr,Qs,Qt,Qu,Qv,Qw,Qx,Qy,Qz,QA,QB,QC,QD,QE,QF,QG,QH,QI,QJ,QK,QL,QM,QN,QO,QP,QQ,QR,QS,QT,QU,QV,QW,QX,QY,QZ,X0,X1,X2,X3,X4,X5,X6,X7,X8,X9,Xa,Xb,Xc,Xd,Xe,Xf,Xg,Xh,Xi,Xj,Xk,Xl,Xm,Xn,Xo,Xp,Xq,Xr,Xs,Xt,Xu,Xv,Xw,Xx,Xy,Xz,XA,XB,reduceIte,reduceCtorEq,XC,XD,XE,XF,XG,XH,XI,XJ,XK,XL,XM,XN,XO,XP,XQ,XR,XS,XT,XU,XV,XW,XX,XY,XZ,Y0,Try.q3,Try.q4,Try.q29,Try.underlying37,Try.q37,Try.underlying98,Try.q98,Try.underlying99,Try.q99,Try.underlying101,Try.q101,Try.q102]
              exact ⟨i + 1, by simp [sub_cons, sub_nil, get_cons], done fun _ => by omega, by omega⟩
          | false =>
            simp -implicitDefEqProofs only [seqA_normal,Q0,Q1,Q2,Q3,Q4,Q5,Q6,Q7,Q8,Q9,Qa,Qb,Qc,Qd,Qe,Qf,Qg,Qh,Qi,Qj,Qk,Ql,Qm,Qn,Qo,Qp,Qq,Qr,Qs,Qt,Qu,Qv,Qw,Qx,Qy,Qz,QA,QB,QC,QD,QE,QF,QG,QH,QI,QJ,QK,QL,QM,QN,QO,QP,QQ,QR,QS,QT,QU,QV,QW,QX,QY,QZ,X0,X1,X2,X3,X4,X5,X6,X7,X8,X9,Xa,Xb,Xc,Xd,Xe,Xf,Xg,Xh,Xi,Xj,Xk,Xl,Xm,Xn,Xo,Xp,Xq,Xr,Xs,Xt,Xu,Xv,Xw,Xx,Xy,Xz,XA,XB,reduceIte,reduceCtorEq,XC,XD,XE,XF,XG,XH,XI,XJ,XK,XL,XM,XN,XO,XP,XQ,XR,XS,XT,XU,XV,XW,XX,XY,XZ,Y0,Try.q3,Try.q4,Try.q29,Try.underlying37,Try.q37,Try.underlying98,Try.q98,Try.underlying99,Try.q99,Try.underlying101,Try.q101,Try.q102]
            refine awp_vc (by kernel_rfl) ?_
            simp -implicitDefEqProofs only [wi,Q0,Q1,Q2,Q3,Q4,Q5,Q6,Q7,Q8,Q9,Qa,Qb,Qc,Qd,Qe,Qf,Qg,Qh,Qi,Qj,Qk,Ql,Qm,Qn,Qo,Qp,Qq,Qr,Qs,Qt,Qu,Qv,Qw,Qx,Qy,Qz,QA,QB,QC,QD,QE,QF,QG,QH,QI,QJ,QK,QL,QM,QN,QO,QP,QQ,QR,QS,QT,QU,QV,QW,QX,QY,QZ,X0,X1,X2,X3,X4,X5,X6,X7,X8,X9,Xa,Xb,Xc,Xd,Xe,Xf,Xg,Xh,Xi,Xj,Xk,Xl,Xm,Xn,Xo,Xp,Xq,Xr,Xs,Xt,Xu,Xv,Xw,Xx,Xy,Xz,XA,XB,reduceIte,reduceCtorEq,XC,XD,XE,XF,XG,XH,XI,XJ,XK,XL,XM,XN,XO,XP,XQ,XR,XS,XT,XU,XV,XW,XX,XY,XZ,Y0,Try.q3,Try.q4,Try.q29,Try.underlying37,Try.q37,Try.underlying98,Try.q98,Try.underlying99,Try.q99,Try.underlying101,Try.q101,Try.q102]
            exact ⟨i + 1, by simp [sub_cons, sub_nil, get_cons], done fun h => absurd (hbE.2 h) (by decide), by omega⟩
  · have d1 : decide ((i : Int) < (Z.length : Int)) = false := decide_eq_false (by omega)
    have hin : i = Z.length := by omega
    refine awp_vc (by kernel_rfl) ?_
    simp -implicitDefEqProofs only [d1,seqA_normal,Q0,Q1,Q2,Q3,Q4,Q5,Q6,Q7,Q8,Q9,Qa,Qb,Qc,Qd,Qe,Qf,Qg,Qh,Qi,Qj,Qk,Ql,Qm,Qn,Qo,Qp,Qq,Qr,Qs,Qt,Qu,Qv,Qw,Qx,Qy,Qz,QA,QB,QC,QD,QE,QF,QG,QH,QI,QJ,QK,QL,QM,QN,QO,QP,QQ,QR,QS,QT,QU,QV,QW,QX,QY,QZ,X0,X1,X2,X3,X4,X5,X6,X7,X8,X9,Xa,Xb,Xc,Xd,Xe,Xf,Xg,Xh,Xi,Xj,Xk,Xl,Xm,Xn,Xo,Xp,Xq,Xr,Xs,Xt,Xu,Xv,Xw,Xx,Xy,Xz,XA,XB,reduceIte,reduceCtorEq,XC,XD,XE,XF,XG,XH,XI,XJ,XK,XL,XM,XN,XO,XP,XQ,XR,XS,XT,XU,XV,XW,XX,XY,XZ,Y0,Try.q3,Try.q4,Try.q29,Try.underlying37,Try.q37,Try.underlying98,Try.q98,Try.underlying99,Try.q99,Try.underlying101,Try.q101,Try.q102]
    refine awp_vc (by kernel_rfl) ?_
    simp -implicitDefEqProofs only [Q0,Q1,Q2,Q3,Q4,Q5,Q6,Q7,Q8,Q9,Qa,Qb,Qc,Qd,Qe,Qf,Qg,Qh,Qi,Qj,Qk,Ql,Qm,Qn,Qo,Qp,Qq,Qr,Qs,Qt,Qu,Qv,Qw,Qx,Qy,Qz,QA,QB,QC,QD,QE,QF,QG,QH,QI,QJ,QK,QL,QM,QN,QO,QP,QQ,QR,QS,QT,QU,QV,QW,QX,QY,QZ,X0,X1,X2,X3,X4,X5,X6,X7,X8,X9,Xa,Xb,Xc,Xd,Xe,Xf,Xg,Xh,Xi,Xj,Xk,Xl,Xm,Xn,Xo,Xp,Xq,Xr,Xs,Xt,Xu,Xv,Xw,Xx,Xy,Xz,XA,XB,reduceIte,reduceCtorEq,XC,XD,XE,XF,XG,XH,XI,XJ,XK,XL,XM,XN,XO,XP,XQ,XR,XS,XT,XU,XV,XW,XX,XY,XZ,Y0,Try.q3,Try.q4,Try.q29,Try.underlying37,Try.q37,Try.underlying98,Try.q98,Try.underlying99,Try.q99,Try.underlying101,Try.q101,Try.q102]
    refine ⟨?_, hx⟩
    rw [sndB_t]
    exact (snd_iff hp hS).2 fun j hj => hok j (by have := hj.1; omega) hj

end Go.Proofs
