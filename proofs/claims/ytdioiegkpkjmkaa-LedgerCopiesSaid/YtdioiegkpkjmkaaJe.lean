/-
  The ledger: the stable sort; contract.
-/
import Derived.Test.YtdioiegkpkjmkaaJd
namespace Go.Proofs
open Go.Pa
open Go.Pa renaming VB0 → Q0, VB1 → Q1, VB2 → Q2, VB3 → Q3, VB4 → Q4, VB5 → Q5, VB6 → Q6, VB7 → Q7, VB8 → Q8, VB9 → Q9, condV_bool → Qa, guardV_bool → Qb, vcS → Qc, evA → Qd, evBin → Qe, nilA → Qf, nilOf → Qg, intOp → Qh, strOp → Qi, evUn → Qj, evConv → Qk, evField → Ql, evFieldAddr → Qm, evIndexAddr → Qn, evIndex → Qo, evIndexA → Qp, bnd → Qq, evSlice → Qr, evLen → Qs, evPick → Qt, evExtract → Qu, evNilCheck → Qv, evMin → Qw, evMax → Qx, evLoadI → Qy, partsOne → QA, intsOf → QB, rowsAV → QC, evBuildSlice → QD, evBuild → QE, fillA → QF, splice → QG, evBuiltin → QH, guardD_bool → QI, dOp → QJ, cl → QK, vcLoad → QL, vcStore → QM, vcMake → QN, convA → QO, evIndexArr → QP, retA → QQ, ressA → QR, resA → QS, envOf → QT, condR_bool → QX, asgEnv → QY, parEnv → QZ, dstAt → XI, vcLook → XT, vcPut → XU, vcEnt → XV, vcESt → XW, vcMLen → XX, vcDel → XY, vcClear → XZ, vcLookD → Y0
open Go.Pa.AV renaming cell → Qz
open Go.Pa.Env renaming put → QU
open List renaming set_cons_zero → QV, set_cons_succ → QW, foldl_cons → X0, foldl_nil → X1, map_cons → X2, map_nil → X3, toList_toArray → X4, getElem?_cons_zero → X5, getElem?_cons_succ → X6, nil_append → Xa, append_nil → Xb, cons_append → Xc, singleton_append → Xd, length_cons → Xe, length_nil → Xf, all_cons → Xg, all_nil → Xh, take_succ_cons → Xi, take_zero → Xj, take_nil → Xk, drop_zero → Xl, drop_succ_cons → Xm, drop_nil → Xn, contains_nil → Xo, contains_cons → Xp
open Option renaming bind_some → X7, map_some → X8, map_none → X9
open Bool renaming or_false → Xq, false_or → Xr, or_true → Xs, true_or → Xt, false_eq_true → XC, not_true → XD, not_false → XE, and_true → XF, true_and → XG, and_self → XH
open Nat renaming reduceEqDiff → Xu, reduceAdd → Xv, reduceSub → Xw, reduceMul → Xx, reduceLT → Xy, reduceLeDiff → Xz, reduceBNe → XA, reduceBEq → XB, zero_add → XL, add_zero → XM
open UInt8 renaming reduceToNat → XJ
open Int renaming cast_ofNat_Int → XK, reduceToNat → XN, reduceLT → XO, reduceLE → XP, reduceNeg → XQ, reduceEq → XR, reduceNe → XS
set_option linter.unusedSimpArgs false
set_option linter.unusedVariables false
set_option maxRecDepth 20000
set_option maxHeartbeats 4000000

/-- Sorted blocks. -/
inductive Sbk (bs : Nat) : List Ent → Prop
  | last (R : List Ent) (h : R.length ≤ bs) (s : Srt R) : Sbk bs R
  | cons (X R : List Ent) (h : X.length = bs) (s : Srt X) (r : Sbk bs R) : Sbk bs (X ++ R)

theorem srt_nil : Srt [] := List.Pairwise.nil
theorem Sbk.split {bs : Nat} {R : List Ent} (h : Sbk bs R) (hl : bs ≤ R.length) : ∃ X T, R = X ++ T ∧ X.length = bs ∧ Srt X ∧ Sbk bs T := by
  cases h with
  | last _ h s => exact ⟨R, [], by simp, by omega, s, .last [] (by simp) srt_nil⟩
  | cons X T h s r => exact ⟨X, T, rfl, h, s, r⟩
theorem Sbk.small {bs : Nat} {R : List Ent} (h : Sbk bs R) (hl : R.length ≤ bs) : Srt R := by
  cases h with
  | last _ h s => exact s
  | cons X T h s r =>
    rw [List.length_append] at hl
    have : T = [] := List.length_eq_zero_iff.1 (by omega)
    subst this
    simpa using s
/-- Whole sorted blocks, with which a list may begin. -/
def Pfk (bs : Nat) (P : List Ent) : Prop := ∀ T, Sbk bs T → Sbk bs (P ++ T)
theorem Pfk.nil (bs : Nat) : Pfk bs [] := fun _ h => h
theorem Pfk.snoc {bs : Nat} {P Z : List Ent} (h : Pfk bs P) (hl : Z.length = bs) (hs : Srt Z) : Pfk bs (P ++ Z) := fun T hT => by
  rw [List.append_assoc]; exact h _ (.cons Z T hl hs hT)

theorem c_stable (L : List Ent) (hl : L.length ≤ 1000000) (hD : ∀ e ∈ L, Day e) {n : Nat} (h1 : n = L.length) (σ : Store) (id : Nat) (h0 : σ[id]? = some (rowsE L)) :
    ACalls Try.prog 64 [.mvec id 0 n 6, .int .i64 n, cmpV] σ
      (fun r s => ∃ Z, Z.Perm L ∧ Srt Z ∧ s = σ.set id (rowsE Z)) := by
  have hid : id < σ.length := (List.getElem?_eq_some_iff.1 h0).1
  have hσ : σ = σ.set id (rowsE L) := (set_same h0).symm
  have hg : ∀ x, (σ.set id x)[id]? = some x := fun x => List.getElem?_set_self hid
  have hDp : ∀ M : List Ent, M.Perm L → ∀ e ∈ M, Day e := fun M hM e he => hD e (hM.subset he)
  refine acalls_of_vc (fn := Try.f64) Try.call64 Try.func64 rfl (by kernel_rfl) (by simp [Try.ntmps64]) ?_; simp -implicitDefEqProofs only [Try.ntmps64,Try.results64,Q0,Q1,Q2,Q3,Q4,Q5,Q6,Q7,Q8,Q9,Qa,Qb,Qc,Qd,Qe,Qf,Qg,Qh,Qi,Qj,Qk,Ql,Qm,Qn,Qo,Qp,Qq,Qr,Qs,Qt,Qu,Qv,Qw,Qx,Qy,Qz,QA,QB,QC,QD,QE,QF,QG,QH,QI,QJ,QK,QL,QM,QN,QO,QP,QQ,QR,QS,QT,QU,QV,QW,QX,QY,QZ,X0,X1,X2,X3,X4,X5,X6,X7,X8,X9,Xa,Xb,Xc,Xd,Xe,Xf,Xg,Xh,Xi,Xj,Xk,Xl,Xm,Xn,Xo,Xp,Xq,Xr,Xs,Xt,Xu,Xv,Xw,Xx,Xy,Xz,XA,XB,reduceIte,reduceCtorEq,XC,XD,XE,XF,XG,XH,XI,XJ,XK,XL,XM,XN,XO,XP,XQ,XR,XS,XT,XU,XV,XW,XX,XY,XZ,Y0,Try.q3,Try.q4,Try.q29,Try.underlying37,Try.q37,Try.underlying97,Try.q97]
  refine awp_loop (fun z : List Ent × List Ent => [(6, .int .i64 20), (7, .int .i64 (z.1.length : Nat)), (8, .int .i64 ((z.1.length + 20 : Nat) : Int)), (0, .mvec id 0 n 6), (1, .int .i64 n), (2, cmpV)])
    (fun z s => s = σ.set id (rowsE (z.1 ++ z.2)) ∧ (z.1 ++ z.2).Perm L ∧ Pfk 20 z.1) (fun z => z.2.length) ([], L) (by kernel_rfl) (by simp [sub_cons, sub_nil, get_cons]) ⟨by simpa using hσ, by simp, .nil _⟩ ?_
  rintro ⟨P, R⟩ s ⟨hs, hpm, hpf⟩
  simp only at hs hpm hpf
  have hpl := hpm.length_eq
  rw [List.length_append] at hpl
  have h0' : s[id]? = some (rowsE (P ++ R)) := by rw [hs]; exact hg _
  have hss : ∀ x, s.set id x = σ.set id x := by intro x; rw [hs]; simp
  by_cases hlt : P.length + 20 ≤ n
  · have d1 : decide (((P.length + 20 : Nat) : Int) ≤ (n : Int)) = true := decide_eq_true (by omega)
    have wa : IntKind.i64.wrap (((P.length + 20 : Nat) : Int) + 20) = ((P.length + 20 + 20 : Nat) : Int) := by rw [wrap_i64 (by omega) (by omega)]; omega
    have eR := (List.take_append_drop 20 R).symm
    have lX : (R.take 20).length = 20 := by rw [List.length_take]; omega
    have lT : (R.drop 20).length = R.length - 20 := List.length_drop
    generalize R.take 20 = X at *
    generalize R.drop 20 = T at *
    have k := c_insert P X T (L := P ++ R) (by rw [eR, List.append_assoc]) (by rw [List.length_append]; omega) (hDp _ hpm) (n := n) (by rw [List.length_append]; omega) (a := (P.length : Nat)) rfl (b := ((P.length + 20 : Nat) : Int)) (by rw [List.length_append, lX]) s id h0'
    simp -implicitDefEqProofs only [d1,Q0,Q1,Q2,Q3,Q4,Q5,Q6,Q7,Q8,Q9,Qa,Qb,Qc,Qd,Qe,Qf,Qg,Qh,Qi,Qj,Qk,Ql,Qm,Qn,Qo,Qp,Qq,Qr,Qs,Qt,Qu,Qv,Qw,Qx,Qy,Qz,QA,QB,QC,QD,QE,QF,QG,QH,QI,QJ,QK,QL,QM,QN,QO,QP,QQ,QR,QS,QT,QU,QV,QW,QX,QY,QZ,X0,X1,X2,X3,X4,X5,X6,X7,X8,X9,Xa,Xb,Xc,Xd,Xe,Xf,Xg,Xh,Xi,Xj,Xk,Xl,Xm,Xn,Xo,Xp,Xq,Xr,Xs,Xt,Xu,Xv,Xw,Xx,Xy,Xz,XA,XB,reduceIte,reduceCtorEq,XC,XD,XE,XF,XG,XH,XI,XJ,XK,XL,XM,XN,XO,XP,XQ,XR,XS,XT,XU,XV,XW,XX,XY,XZ,Y0,Try.q3,Try.q4,Try.q29,Try.underlying37,Try.q37,Try.underlying97,Try.q97]
    refine ACalls.mono k ?_
    rintro r s2 ⟨Z, z1, z2, rfl⟩
    have lZ := z1.length_eq
    simp -implicitDefEqProofs only [wa,Q0,Q1,Q2,Q3,Q4,Q5,Q6,Q7,Q8,Q9,Qa,Qb,Qc,Qd,Qe,Qf,Qg,Qh,Qi,Qj,Qk,Ql,Qm,Qn,Qo,Qp,Qq,Qr,Qs,Qt,Qu,Qv,Qw,Qx,Qy,Qz,QA,QB,QC,QD,QE,QF,QG,QH,QI,QJ,QK,QL,QM,QN,QO,QP,QQ,QR,QS,QT,QU,QV,QW,QX,QY,QZ,X0,X1,X2,X3,X4,X5,X6,X7,X8,X9,Xa,Xb,Xc,Xd,Xe,Xf,Xg,Xh,Xi,Xj,Xk,Xl,Xm,Xn,Xo,Xp,Xq,Xr,Xs,Xt,Xu,Xv,Xw,Xx,Xy,Xz,XA,XB,reduceIte,reduceCtorEq,XC,XD,XE,XF,XG,XH,XI,XJ,XK,XL,XM,XN,XO,XP,XQ,XR,XS,XT,XU,XV,XW,XX,XY,XZ,Y0,Try.q3,Try.q4,Try.q29,Try.underlying37,Try.q37,Try.underlying97,Try.q97]
    refine ⟨(P ++ Z, T), ?_, ⟨by simp only [hss], ?_, hpf.snoc (by omega) z2⟩, by simp only; omega⟩
    · simp only [List.length_append, lZ, lX]; simp
    · simp only
      refine List.Perm.trans ?_ hpm
      rw [eR, List.append_assoc]
      exact List.Perm.append_left _ (z1.append_right _)
  · have d1 : decide (((P.length + 20 : Nat) : Int) ≤ (n : Int)) = false := decide_eq_false (by omega)
    have k := c_insert P R [] (L := P ++ R) (by simp) (by rw [List.length_append]; omega) (hDp _ hpm) (n := n) (by rw [List.length_append]; omega) (a := (P.length : Nat)) rfl (b := (n : Int)) (by rw [List.length_append]; omega) s id h0'
    simp -implicitDefEqProofs only [d1,Q0,Q1,Q2,Q3,Q4,Q5,Q6,Q7,Q8,Q9,Qa,Qb,Qc,Qd,Qe,Qf,Qg,Qh,Qi,Qj,Qk,Ql,Qm,Qn,Qo,Qp,Qq,Qr,Qs,Qt,Qu,Qv,Qw,Qx,Qy,Qz,QA,QB,QC,QD,QE,QF,QG,QH,QI,QJ,QK,QL,QM,QN,QO,QP,QQ,QR,QS,QT,QU,QV,QW,QX,QY,QZ,X0,X1,X2,X3,X4,X5,X6,X7,X8,X9,Xa,Xb,Xc,Xd,Xe,Xf,Xg,Xh,Xi,Xj,Xk,Xl,Xm,Xn,Xo,Xp,Xq,Xr,Xs,Xt,Xu,Xv,Xw,Xx,Xy,Xz,XA,XB,reduceIte,reduceCtorEq,XC,XD,XE,XF,XG,XH,XI,XJ,XK,XL,XM,XN,XO,XP,XQ,XR,XS,XT,XU,XV,XW,XX,XY,XZ,Y0,Try.q3,Try.q4,Try.q29,Try.underlying37,Try.q37,Try.underlying97,Try.q97]
    refine ACalls.mono k ?_
    rintro r s2 ⟨Z, z1, z2, hs2⟩
    have lZ := z1.length_eq
    rw [List.append_nil, hss] at hs2
    have hC : (P ++ Z).Perm L := (z1.append_left P).trans hpm
    have hB : Sbk 20 (P ++ Z) := hpf _ (.last Z (by omega) z2)
    generalize P ++ Z = C at *
    simp -implicitDefEqProofs only [Q0,Q1,Q2,Q3,Q4,Q5,Q6,Q7,Q8,Q9,Qa,Qb,Qc,Qd,Qe,Qf,Qg,Qh,Qi,Qj,Qk,Ql,Qm,Qn,Qo,Qp,Qq,Qr,Qs,Qt,Qu,Qv,Qw,Qx,Qy,Qz,QA,QB,QC,QD,QE,QF,QG,QH,QI,QJ,QK,QL,QM,QN,QO,QP,QQ,QR,QS,QT,QU,QV,QW,QX,QY,QZ,X0,X1,X2,X3,X4,X5,X6,X7,X8,X9,Xa,Xb,Xc,Xd,Xe,Xf,Xg,Xh,Xi,Xj,Xk,Xl,Xm,Xn,Xo,Xp,Xq,Xr,Xs,Xt,Xu,Xv,Xw,Xx,Xy,Xz,XA,XB,reduceIte,reduceCtorEq,XC,XD,XE,XF,XG,XH,XI,XJ,XK,XL,XM,XN,XO,XP,XQ,XR,XS,XT,XU,XV,XW,XX,XY,XZ,Y0,Try.q3,Try.q4,Try.q29,Try.underlying37,Try.q37,Try.underlying97,Try.q97]
    clear hpf hpm hs h0' hss z1 z2 lZ hpl hlt d1 k
    refine awp_loop (fun z : Nat × List Ent => [(6, .int .i64 (z.1 : Nat)), (0, .mvec id 0 n 6), (1, .int .i64 n), (2, cmpV)])
      (fun z s => s = σ.set id (rowsE z.2) ∧ z.2.Perm L ∧ Sbk z.1 z.2 ∧ 1 ≤ z.1 ∧ z.1 ≤ 4 * n + 40) (fun z => n - z.1) (20, C) (by kernel_rfl) (by simp [sub_cons, sub_nil, get_cons]) ⟨hs2, hC, hB, by simp, by simp only; omega⟩ ?_
    rintro ⟨bs, C⟩ s ⟨hs, hpm, hB, hb1, hb2⟩
    simp only at hs hpm hB hb1 hb2
    by_cases hlt : bs < n
    · have d1 : decide ((bs : Int) < (n : Int)) = true := decide_eq_true (by omega)
      have w1 : IntKind.i64.wrap (2 * (bs : Int)) = ((2 * bs : Nat) : Int) := by rw [wrap_i64 (by omega) (by omega)]; omega
      have w2 : IntKind.i64.wrap ((bs : Int) * 2) = ((2 * bs : Nat) : Int) := by rw [wrap_i64 (by omega) (by omega)]; omega
      simp -implicitDefEqProofs only [d1,w1,Q0,Q1,Q2,Q3,Q4,Q5,Q6,Q7,Q8,Q9,Qa,Qb,Qc,Qd,Qe,Qf,Qg,Qh,Qi,Qj,Qk,Ql,Qm,Qn,Qo,Qp,Qq,Qr,Qs,Qt,Qu,Qv,Qw,Qx,Qy,Qz,QA,QB,QC,QD,QE,QF,QG,QH,QI,QJ,QK,QL,QM,QN,QO,QP,QQ,QR,QS,QT,QU,QV,QW,QX,QY,QZ,X0,X1,X2,X3,X4,X5,X6,X7,X8,X9,Xa,Xb,Xc,Xd,Xe,Xf,Xg,Xh,Xi,Xj,Xk,Xl,Xm,Xn,Xo,Xp,Xq,Xr,Xs,Xt,Xu,Xv,Xw,Xx,Xy,Xz,XA,XB,reduceIte,reduceCtorEq,XC,XD,XE,XF,XG,XH,XI,XJ,XK,XL,XM,XN,XO,XP,XQ,XR,XS,XT,XU,XV,XW,XX,XY,XZ,Y0,Try.q3,Try.q4,Try.q29,Try.underlying37,Try.q37,Try.underlying97,Try.q97]
      refine awp_loop (fun z : List Ent × List Ent => [(7, .int .i64 (z.1.length : Nat)), (8, .int .i64 ((z.1.length + 2 * bs : Nat) : Int)), (6, .int .i64 (bs : Nat)), (0, .mvec id 0 n 6), (1, .int .i64 n), (2, cmpV)])
        (fun z s => s = σ.set id (rowsE (z.1 ++ z.2)) ∧ (z.1 ++ z.2).Perm L ∧ Pfk (2 * bs) z.1 ∧ Sbk bs z.2) (fun z => z.2.length) ([], C) (by kernel_rfl) (by simp [sub_cons, sub_nil, get_cons]) ⟨by simpa using hs, by simpa using hpm, .nil _, hB⟩ ?_
      clear hs hpm hB
      rintro ⟨P, R⟩ s ⟨hs, hpm, hpf, hB⟩
      simp only at hs hpm hpf hB
      have hpl := hpm.length_eq
      rw [List.length_append] at hpl
      have h0' : s[id]? = some (rowsE (P ++ R)) := by rw [hs]; exact hg _
      have hss : ∀ x, s.set id x = σ.set id x := by intro x; rw [hs]; simp
      have w3 : IntKind.i64.wrap ((P.length : Int) + (bs : Int)) = ((P.length + bs : Nat) : Int) := by rw [wrap_i64 (by omega) (by omega)]; omega
      by_cases hlt2 : P.length + 2 * bs ≤ n
      · have d2 : decide (((P.length + 2 * bs : Nat) : Int) ≤ (n : Int)) = true := decide_eq_true (by omega)
        obtain ⟨X, R1, eR, lX, sX, hR1⟩ := hB.split (by omega)
        have lR := congrArg List.length eR
        rw [List.length_append] at lR
        obtain ⟨Y, T, eR1, lY, sY, hT⟩ := hR1.split (by omega)
        have lR1 := congrArg List.length eR1
        rw [List.length_append] at lR1
        have w4 : IntKind.i64.wrap (((P.length + 2 * bs : Nat) : Int) + ((2 * bs : Nat) : Int)) = ((P.length + 2 * bs + 2 * bs : Nat) : Int) := by rw [wrap_i64 (by omega) (by omega)]; omega
        have k := c_sym _ P X Y T (L := P ++ R) (by rw [eR, eR1]; simp only [List.append_assoc]) (by intro h; rw [h] at lX; simp at lX; omega) (by intro h; rw [h] at lY; simp at lY; omega) (Nat.le_refl _) (by rw [List.length_append]; omega) (hDp _ hpm) sX sY (n := n) (by rw [List.length_append]; omega)
          (a := (P.length : Nat)) rfl (m := ((P.length + bs : Nat) : Int)) (by omega) (b := ((P.length + 2 * bs : Nat) : Int)) (by omega) s id h0'
        simp -implicitDefEqProofs only [d2,w3,Q0,Q1,Q2,Q3,Q4,Q5,Q6,Q7,Q8,Q9,Qa,Qb,Qc,Qd,Qe,Qf,Qg,Qh,Qi,Qj,Qk,Ql,Qm,Qn,Qo,Qp,Qq,Qr,Qs,Qt,Qu,Qv,Qw,Qx,Qy,Qz,QA,QB,QC,QD,QE,QF,QG,QH,QI,QJ,QK,QL,QM,QN,QO,QP,QQ,QR,QS,QT,QU,QV,QW,QX,QY,QZ,X0,X1,X2,X3,X4,X5,X6,X7,X8,X9,Xa,Xb,Xc,Xd,Xe,Xf,Xg,Xh,Xi,Xj,Xk,Xl,Xm,Xn,Xo,Xp,Xq,Xr,Xs,Xt,Xu,Xv,Xw,Xx,Xy,Xz,XA,XB,reduceIte,reduceCtorEq,XC,XD,XE,XF,XG,XH,XI,XJ,XK,XL,XM,XN,XO,XP,XQ,XR,XS,XT,XU,XV,XW,XX,XY,XZ,Y0,Try.q3,Try.q4,Try.q29,Try.underlying37,Try.q37,Try.underlying97,Try.q97]
        refine ACalls.mono k ?_
        rintro r s2 ⟨Z, z1, z2, rfl⟩
        have lZ := z1.length_eq
        rw [List.length_append] at lZ
        simp -implicitDefEqProofs only [w1,w4,Q0,Q1,Q2,Q3,Q4,Q5,Q6,Q7,Q8,Q9,Qa,Qb,Qc,Qd,Qe,Qf,Qg,Qh,Qi,Qj,Qk,Ql,Qm,Qn,Qo,Qp,Qq,Qr,Qs,Qt,Qu,Qv,Qw,Qx,Qy,Qz,QA,QB,QC,QD,QE,QF,QG,QH,QI,QJ,QK,QL,QM,QN,QO,QP,QQ,QR,QS,QT,QU,QV,QW,QX,QY,QZ,X0,X1,X2,X3,X4,X5,X6,X7,X8,X9,Xa,Xb,Xc,Xd,Xe,Xf,Xg,Xh,Xi,Xj,Xk,Xl,Xm,Xn,Xo,Xp,Xq,Xr,Xs,Xt,Xu,Xv,Xw,Xx,Xy,Xz,XA,XB,reduceIte,reduceCtorEq,XC,XD,XE,XF,XG,XH,XI,XJ,XK,XL,XM,XN,XO,XP,XQ,XR,XS,XT,XU,XV,XW,XX,XY,XZ,Y0,Try.q3,Try.q4,Try.q29,Try.underlying37,Try.q37,Try.underlying97,Try.q97]
        refine ⟨(P ++ Z, T), ?_, ⟨by simp only [hss], ?_, hpf.snoc (by omega) z2, hT⟩, by simp only; omega⟩
        · simp only [List.length_append, lZ, lX, lY]; rw [← Nat.two_mul]; simp
        · simp only
          refine List.Perm.trans ?_ hpm
          rw [eR, eR1, List.append_assoc, ← List.append_assoc X]
          exact List.Perm.append_left _ (z1.append_right _)
      · have d2 : decide (((P.length + 2 * bs : Nat) : Int) ≤ (n : Int)) = false := decide_eq_false (by omega)
        by_cases hlt3 : P.length + bs < n
        · have d3 : decide (((P.length + bs : Nat) : Int) < (n : Int)) = true := decide_eq_true (by omega)
          obtain ⟨X, Y, eR, lX, sX, hR1⟩ := hB.split (by omega)
          have lR := congrArg List.length eR
          rw [List.length_append] at lR
          have sY := hR1.small (by omega)
          have k := c_sym _ P X Y [] (L := P ++ R) (by rw [eR]; simp only [List.append_assoc, List.append_nil]) (by intro h; rw [h] at lX; simp at lX; omega) (by intro h; rw [h] at lR; simp at lR; omega) (Nat.le_refl _) (by rw [List.length_append]; omega) (hDp _ hpm) sX sY (n := n) (by rw [List.length_append]; omega)
            (a := (P.length : Nat)) rfl (m := ((P.length + bs : Nat) : Int)) (by omega) (b := (n : Int)) (by omega) s id h0'
          simp -implicitDefEqProofs only [d2,w3,d3,Q0,Q1,Q2,Q3,Q4,Q5,Q6,Q7,Q8,Q9,Qa,Qb,Qc,Qd,Qe,Qf,Qg,Qh,Qi,Qj,Qk,Ql,Qm,Qn,Qo,Qp,Qq,Qr,Qs,Qt,Qu,Qv,Qw,Qx,Qy,Qz,QA,QB,QC,QD,QE,QF,QG,QH,QI,QJ,QK,QL,QM,QN,QO,QP,QQ,QR,QS,QT,QU,QV,QW,QX,QY,QZ,X0,X1,X2,X3,X4,X5,X6,X7,X8,X9,Xa,Xb,Xc,Xd,Xe,Xf,Xg,Xh,Xi,Xj,Xk,Xl,Xm,Xn,Xo,Xp,Xq,Xr,Xs,Xt,Xu,Xv,Xw,Xx,Xy,Xz,XA,XB,reduceIte,reduceCtorEq,XC,XD,XE,XF,XG,XH,XI,XJ,XK,XL,XM,XN,XO,XP,XQ,XR,XS,XT,XU,XV,XW,XX,XY,XZ,Y0,Try.q3,Try.q4,Try.q29,Try.underlying37,Try.q37,Try.underlying97,Try.q97]
          refine ACalls.mono k ?_
          rintro r s2 ⟨Z, z1, z2, rfl⟩
          have lZ := z1.length_eq
          rw [List.length_append] at lZ
          simp -implicitDefEqProofs only [w2,Q0,Q1,Q2,Q3,Q4,Q5,Q6,Q7,Q8,Q9,Qa,Qb,Qc,Qd,Qe,Qf,Qg,Qh,Qi,Qj,Qk,Ql,Qm,Qn,Qo,Qp,Qq,Qr,Qs,Qt,Qu,Qv,Qw,Qx,Qy,Qz,QA,QB,QC,QD,QE,QF,QG,QH,QI,QJ,QK,QL,QM,QN,QO,QP,QQ,QR,QS,QT,QU,QV,QW,QX,QY,QZ,X0,X1,X2,X3,X4,X5,X6,X7,X8,X9,Xa,Xb,Xc,Xd,Xe,Xf,Xg,Xh,Xi,Xj,Xk,Xl,Xm,Xn,Xo,Xp,Xq,Xr,Xs,Xt,Xu,Xv,Xw,Xx,Xy,Xz,XA,XB,reduceIte,reduceCtorEq,XC,XD,XE,XF,XG,XH,XI,XJ,XK,XL,XM,XN,XO,XP,XQ,XR,XS,XT,XU,XV,XW,XX,XY,XZ,Y0,Try.q3,Try.q4,Try.q29,Try.underlying37,Try.q37,Try.underlying97,Try.q97]
          refine ⟨(2 * bs, P ++ Z), by simp, ⟨by simp only [hss, List.append_nil], ?_, hpf _ (.last Z (by omega) z2), by simp only; omega, by simp only; omega⟩, by simp only; omega⟩
          simp only
          refine List.Perm.trans ?_ hpm
          rw [eR]
          exact List.Perm.append_left _ z1
        · have d3 : decide (((P.length + bs : Nat) : Int) < (n : Int)) = false := decide_eq_false (by omega)
          simp -implicitDefEqProofs only [d2,w3,d3,w2,Q0,Q1,Q2,Q3,Q4,Q5,Q6,Q7,Q8,Q9,Qa,Qb,Qc,Qd,Qe,Qf,Qg,Qh,Qi,Qj,Qk,Ql,Qm,Qn,Qo,Qp,Qq,Qr,Qs,Qt,Qu,Qv,Qw,Qx,Qy,Qz,QA,QB,QC,QD,QE,QF,QG,QH,QI,QJ,QK,QL,QM,QN,QO,QP,QQ,QR,QS,QT,QU,QV,QW,QX,QY,QZ,X0,X1,X2,X3,X4,X5,X6,X7,X8,X9,Xa,Xb,Xc,Xd,Xe,Xf,Xg,Xh,Xi,Xj,Xk,Xl,Xm,Xn,Xo,Xp,Xq,Xr,Xs,Xt,Xu,Xv,Xw,Xx,Xy,Xz,XA,XB,reduceIte,reduceCtorEq,XC,XD,XE,XF,XG,XH,XI,XJ,XK,XL,XM,XN,XO,XP,XQ,XR,XS,XT,XU,XV,XW,XX,XY,XZ,Y0,Try.q3,Try.q4,Try.q29,Try.underlying37,Try.q37,Try.underlying97,Try.q97]
          exact ⟨(2 * bs, P ++ R), by simp, ⟨hs, hpm, hpf _ (.last R (by omega) (hB.small (by omega))), by simp only; omega, by simp only; omega⟩, by simp only; omega⟩
    · have d1 : decide ((bs : Int) < (n : Int)) = false := decide_eq_false (by omega)
      simp -implicitDefEqProofs only [d1,Q0,Q1,Q2,Q3,Q4,Q5,Q6,Q7,Q8,Q9,Qa,Qb,Qc,Qd,Qe,Qf,Qg,Qh,Qi,Qj,Qk,Ql,Qm,Qn,Qo,Qp,Qq,Qr,Qs,Qt,Qu,Qv,Qw,Qx,Qy,Qz,QA,QB,QC,QD,QE,QF,QG,QH,QI,QJ,QK,QL,QM,QN,QO,QP,QQ,QR,QS,QT,QU,QV,QW,QX,QY,QZ,X0,X1,X2,X3,X4,X5,X6,X7,X8,X9,Xa,Xb,Xc,Xd,Xe,Xf,Xg,Xh,Xi,Xj,Xk,Xl,Xm,Xn,Xo,Xp,Xq,Xr,Xs,Xt,Xu,Xv,Xw,Xx,Xy,Xz,XA,XB,reduceIte,reduceCtorEq,XC,XD,XE,XF,XG,XH,XI,XJ,XK,XL,XM,XN,XO,XP,XQ,XR,XS,XT,XU,XV,XW,XX,XY,XZ,Y0,Try.q3,Try.q4,Try.q29,Try.underlying37,Try.q37,Try.underlying97,Try.q97]
      exact ⟨C, hpm, hB.small (by have := hpm.length_eq; omega), hs⟩

theorem c_sort (L : List Ent) (hl : L.length ≤ 1000000) (hD : ∀ e ∈ L, Day e) {n : Nat} (h1 : n = L.length) (σ : Store) (id : Nat) (h0 : σ[id]? = some (rowsE L)) :
    ACalls Try.prog 60 [.mvec id 0 n 6, cmpV] σ
      (fun r s => ∃ Z, Z.Perm L ∧ Srt Z ∧ s = σ.set id (rowsE Z)) := by
  refine acalls_of_vc (fn := Try.f60) Try.call60 Try.func60 rfl (by kernel_rfl) (by simp [Try.ntmps60]) ?_; simp -implicitDefEqProofs only [Try.ntmps60,Try.results60,Q0,Q1,Q2,Q3,Q4,Q5,Q6,Q7,Q8,Q9,Qa,Qb,Qc,Qd,Qe,Qf,Qg,Qh,Qi,Qj,Qk,Ql,Qm,Qn,Qo,Qp,Qq,Qr,Qs,Qt,Qu,Qv,Qw,Qx,Qy,Qz,QA,QB,QC,QD,QE,QF,QG,QH,QI,QJ,QK,QL,QM,QN,QO,QP,QQ,QR,QS,QT,QU,QV,QW,QX,QY,QZ,X0,X1,X2,X3,X4,X5,X6,X7,X8,X9,Xa,Xb,Xc,Xd,Xe,Xf,Xg,Xh,Xi,Xj,Xk,Xl,Xm,Xn,Xo,Xp,Xq,Xr,Xs,Xt,Xu,Xv,Xw,Xx,Xy,Xz,XA,XB,reduceIte,reduceCtorEq,XC,XD,XE,XF,XG,XH,XI,XJ,XK,XL,XM,XN,XO,XP,XQ,XR,XS,XT,XU,XV,XW,XX,XY,XZ,Y0,Try.q3,Try.q29,Try.underlying37,Try.q37,Try.underlying97,Try.q97]
  refine ACalls.mono (c_stable L hl hD h1 σ id h0) ?_
  rintro r s ⟨Z, z1, z2, rfl⟩
  simp -implicitDefEqProofs only [Q0,Q1,Q2,Q3,Q4,Q5,Q6,Q7,Q8,Q9,Qa,Qb,Qc,Qd,Qe,Qf,Qg,Qh,Qi,Qj,Qk,Ql,Qm,Qn,Qo,Qp,Qq,Qr,Qs,Qt,Qu,Qv,Qw,Qx,Qy,Qz,QA,QB,QC,QD,QE,QF,QG,QH,QI,QJ,QK,QL,QM,QN,QO,QP,QQ,QR,QS,QT,QU,QV,QW,QX,QY,QZ,X0,X1,X2,X3,X4,X5,X6,X7,X8,X9,Xa,Xb,Xc,Xd,Xe,Xf,Xg,Xh,Xi,Xj,Xk,Xl,Xm,Xn,Xo,Xp,Xq,Xr,Xs,Xt,Xu,Xv,Xw,Xx,Xy,Xz,XA,XB,reduceIte,reduceCtorEq,XC,XD,XE,XF,XG,XH,XI,XJ,XK,XL,XM,XN,XO,XP,XQ,XR,XS,XT,XU,XV,XW,XX,XY,XZ,Y0,Try.q3,Try.q29,Try.underlying37,Try.q37,Try.underlying97,Try.q97]
  exact ⟨Z, z1, z2, rfl⟩

end Go.Proofs
