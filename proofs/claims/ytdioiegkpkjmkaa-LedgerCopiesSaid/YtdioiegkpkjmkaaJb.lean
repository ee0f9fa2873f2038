/-
  The ledger: the insertion sort; contract.
-/
import Derived.Test.YtdioiegkpkjmkaaJa
namespace Go.Proofs
open Go.Pa
open Go.Pa renaming VB0 → Q0, VB1 → Q1, VB2 → Q2, VB3 → Q3, VB4 → Q4, VB5 → Q5, VB6 → Q6, VB7 → Q7, VB8 → Q8, VB9 → Q9, condV_bool → Qa, guardV_bool → Qb, vcS → Qc, evA → Qd, evBin → Qe, nilA → Qf, nilOf → Qg, intOp → Qh, strOp → Qi, evUn → Qj, evConv → Qk, evField → Ql, evFieldAddr → Qm, evIndexAddr → Qn, evIndex → Qo, evIndexA → Qp, bnd → Qq, evSlice → Qr, evLen → Qs, evPick → Qt, evExtract → Qu, evNilCheck → Qv, evMin → Qw, evMax → Qx, evLoadI → Qy, partsOne → QA, intsOf → QB, rowsAV → QC, evBuildSlice → QD, evBuild → QE, fillA → QF, splice → QG, evBuiltin → QH, guardD_bool → QI, dOp → QJ, cl → QK, vcLoad → QL, vcStore → QM, vcMake → QN, convA → QO, evIndexArr → QP, retA → QQ, ressA → QR, resA → QS, envOf → QT, condR_bool → QX, asgEnv → QY, parEnv → QZ, dstAt → XI, vcLook → XT, vcPut → XU, vcEnt → XV, vcESt → XW, vcMLen → XX, vcDel → XY, vcClear → XZ, vcLookD → Y0
open Go.Pa.AV renaming cell → Qz
open Go.Pa.Env renaming put → QU
open List renaming set_cons_zero → QV, set_cons_succ → QW, foldl_cons → X0, foldl_nil → X1, map_cons → X2, map_nil → X3, toList_toArray → X4, getElem?_cons_zero → X5, getElem?_cons_succ → X6, nil_append → Xa, append_nil → Xb, cons_append → Xc, singleton_append → Xd, length_cons → Xe, length_nil → Xf, all_cons → Xg, all_nil → Xh, take_succ_cons → Xi, take_zero → Xj, take_nil → Xk, drop_zero → Xl, drop_succ_cons → Xm, drop_nil → Xn, contains_nil → Xo, contains_cons → Xp
open Option renaming bind_some → X7, map_some → X8, map_none → X9
open Bool renaming or_false → Xq, false_or → Xr, or_true → Xs, true_or → Xt, false_eq_true → XC, not_true → XD, not_false → XE, and_true → XF, true_and → XG, and_self → XH
open Nat renaming reduceEqDiff → Xu, reduceAdd → Xv, reduceSub → Xw, reduceMul → Xx, reduceLT → Xy, reduceLeDiff → Xz, reduceBNe → XA, reduceBEq → XB, zero_add → XL, add_zero → XM
open UInt8 renaming reduceToNat → XJ
open Int renaming cast_ofNat_Int → XK, reduceToNat → XN, reduceLT → XO, reduceLE → XP, reduceNeg → XQ, reduceEq → XR, reduceNe → XS
set_option linter.unusedSimpArgs false
set_option linter.unusedVariables false
set_option maxRecDepth 20000
set_option maxHeartbeats 2000000

/-- In the order of days. -/
def Srt (l : List Ent) : Prop := l.Pairwise fun x y => x.day ≤ y.day

theorem srt_ins {S1 S2 : List Ent} {x : Ent} (h : Srt (S1 ++ S2)) (h1 : ∀ s ∈ S1, s.day ≤ x.day) (h2 : ∀ s ∈ S2, x.day ≤ s.day) : Srt (S1 ++ x :: S2) := by
  unfold Srt at h ⊢
  rw [List.pairwise_append] at h ⊢
  refine ⟨h.1, List.pairwise_cons.2 ⟨h2, h.2.1⟩, fun a ha b hb => ?_⟩
  rcases List.mem_cons.1 hb with rfl | hb
  · exact h1 a ha
  · exact h.2.2 a ha b hb

theorem srt_last {S : List Ent} {s : Ent} {d : Int} (h : Srt (S ++ [s])) (hd : s.day ≤ d) : ∀ t ∈ S ++ [s], t.day ≤ d := by
  intro t ht
  rcases List.mem_append.1 ht with h1 | h1
  · have := (List.pairwise_append.1 h).2.2 t h1 s (by simp); omega
  · simp at h1; subst h1; exact hd

abbrev cmpV : AV := .fn 61 [] []

theorem c_insert (A X B : List Ent) {L : List Ent} (hL : L = A ++ X ++ B) (hl : L.length ≤ 1000000) (hD : ∀ e ∈ L, Day e) {n : Nat} {a b : Int} (h1 : n = L.length) (h2 : a = A.length) (h3 : b = ((A ++ X).length : Nat))
    (σ : Store) (id : Nat) (h0 : σ[id]? = some (rowsE L)) :
    ACalls Try.prog 65 [.mvec id 0 n 6, .int .i64 a, .int .i64 b, cmpV] σ
      (fun r s => ∃ Z, Z.Perm X ∧ Srt Z ∧ s = σ.set id (rowsE (A ++ Z ++ B))) := by
  have hid : id < σ.length := (List.getElem?_eq_some_iff.1 h0).1
  have hσ : σ = σ.set id (rowsE (A ++ X ++ B)) := by rw [← hL]; exact (set_same h0).symm
  have hnn : n = A.length + X.length + B.length := by rw [h1, hL]; simp only [List.length_append]
  have hb : b = (A.length + X.length : Nat) := by rw [h3, List.length_append]
  rw [← h1] at hl
  have hDX : ∀ e ∈ X, Day e := fun e he => hD e (by rw [hL]; simp [he])
  clear h1 h3 hD
  subst hb h2
  have w1 : IntKind.i64.wrap ((A.length : Int) + 1) = ((A.length + 1 : Nat) : Int) := by rw [wrap_i64 (by omega) (by omega)]; rfl
  refine acalls_of_vc (fn := Try.f65) Try.call65 Try.func65 rfl (by kernel_rfl) (by simp [Try.ntmps65]) ?_; simp -implicitDefEqProofs only [Try.ntmps65,Try.results65,Q0,Q1,Q2,Q3,Q4,Q5,Q6,Q7,Q8,Q9,Qa,Qb,Qc,Qd,Qe,Qf,Qg,Qh,Qi,Qj,Qk,Ql,Qm,Qn,Qo,Qp,Qq,Qr,Qs,Qt,Qu,Qv,Qw,Qx,Qy,Qz,QA,QB,QC,QD,QE,QF,QG,QH,QI,QJ,QK,QL,QM,QN,QO,QP,QQ,QR,QS,QT,QU,QV,QW,QX,QY,QZ,X0,X1,X2,X3,X4,X5,X6,X7,X8,X9,Xa,Xb,Xc,Xd,Xe,Xf,Xg,Xh,Xi,Xj,Xk,Xl,Xm,Xn,Xo,Xp,Xq,Xr,Xs,Xt,Xu,Xv,Xw,Xx,Xy,Xz,XA,XB,reduceIte,reduceCtorEq,XC,XD,XE,XF,XG,XH,XI,XJ,XK,XL,XM,XN,XO,XP,XQ,XR,XS,XT,XU,XV,XW,XX,XY,XZ,Y0,Try.q3,Try.q4,Try.q29,Try.underlying37,Try.q37,Try.underlying97,Try.q97]
  simp -implicitDefEqProofs only [w1,Q0,Q1,Q2,Q3,Q4,Q5,Q6,Q7,Q8,Q9,Qa,Qb,Qc,Qd,Qe,Qf,Qg,Qh,Qi,Qj,Qk,Ql,Qm,Qn,Qo,Qp,Qq,Qr,Qs,Qt,Qu,Qv,Qw,Qx,Qy,Qz,QA,QB,QC,QD,QE,QF,QG,QH,QI,QJ,QK,QL,QM,QN,QO,QP,QQ,QR,QS,QT,QU,QV,QW,QX,QY,QZ,X0,X1,X2,X3,X4,X5,X6,X7,X8,X9,Xa,Xb,Xc,Xd,Xe,Xf,Xg,Xh,Xi,Xj,Xk,Xl,Xm,Xn,Xo,Xp,Xq,Xr,Xs,Xt,Xu,Xv,Xw,Xx,Xy,Xz,XA,XB,reduceIte,reduceCtorEq,XC,XD,XE,XF,XG,XH,XI,XJ,XK,XL,XM,XN,XO,XP,XQ,XR,XS,XT,XU,XV,XW,XX,XY,XZ,Y0,Try.q3,Try.q4,Try.q29,Try.underlying37,Try.q37,Try.underlying97,Try.q97]
  cases hX : X with
  | nil =>
    subst hX
    refine awp_loop (fun z : Unit => [(8, .int .i64 ((A.length + 1 : Nat) : Int)), (2, .int .i64 (A.length : Nat))]) (fun z s => s = σ) (fun z => 0) () (by kernel_rfl) (by simp [sub_cons, sub_nil, get_cons]) rfl ?_
    rintro _ s rfl
    have d1 : decide (((A.length + 1 : Nat) : Int) < ((A.length : Nat) : Int)) = false := decide_eq_false (by omega)
    simp -implicitDefEqProofs only [d1,Q0,Q1,Q2,Q3,Q4,Q5,Q6,Q7,Q8,Q9,Qa,Qb,Qc,Qd,Qe,Qf,Qg,Qh,Qi,Qj,Qk,Ql,Qm,Qn,Qo,Qp,Qq,Qr,Qs,Qt,Qu,Qv,Qw,Qx,Qy,Qz,QA,QB,QC,QD,QE,QF,QG,QH,QI,QJ,QK,QL,QM,QN,QO,QP,QQ,QR,QS,QT,QU,QV,QW,QX,QY,QZ,X0,X1,X2,X3,X4,X5,X6,X7,X8,X9,Xa,Xb,Xc,Xd,Xe,Xf,Xg,Xh,Xi,Xj,Xk,Xl,Xm,Xn,Xo,Xp,Xq,Xr,Xs,Xt,Xu,Xv,Xw,Xx,Xy,Xz,XA,XB,reduceIte,reduceCtorEq,XC,XD,XE,XF,XG,XH,XI,XJ,XK,XL,XM,XN,XO,XP,XQ,XR,XS,XT,XU,XV,XW,XX,XY,XZ,Y0,Try.q3,Try.q4,Try.q29,Try.underlying37,Try.q37,Try.underlying97,Try.q97]
    exact ⟨[], .refl _, List.Pairwise.nil, hσ⟩
  | cons x0 T0 =>
    rw [← hX]
    refine awp_loop (fun z : List Ent × List Ent => [(8, .int .i64 ((A.length + z.1.length : Nat) : Int)), (0, .mvec id 0 n 6), (1, .int .i64 A.length), (2, .int .i64 (A.length + X.length : Nat)), (3, cmpV)])
      (fun z s => s = σ.set id (rowsE (A ++ (z.1 ++ z.2) ++ B)) ∧ z.1 ≠ [] ∧ Srt z.1 ∧ (z.1 ++ z.2).Perm X) (fun z => z.2.length) ([x0], T0) (by kernel_rfl) (by simp [sub_cons, sub_nil, get_cons])
      ⟨by rw [hσ]; simp [hX], by simp, by simp [Srt], by simp [hX]⟩ ?_
    rintro ⟨S, T⟩ s ⟨hs, hne, hsr, hpm⟩
    simp only at hs hne hsr hpm
    have hpl := hpm.length_eq
    rw [List.length_append] at hpl
    cases T with
    | nil =>
      have d1 : decide (((A.length + S.length : Nat) : Int) < ((A.length + X.length : Nat) : Int)) = false := decide_eq_false (by simp at hpl; omega)
      simp -implicitDefEqProofs only [d1,Q0,Q1,Q2,Q3,Q4,Q5,Q6,Q7,Q8,Q9,Qa,Qb,Qc,Qd,Qe,Qf,Qg,Qh,Qi,Qj,Qk,Ql,Qm,Qn,Qo,Qp,Qq,Qr,Qs,Qt,Qu,Qv,Qw,Qx,Qy,Qz,QA,QB,QC,QD,QE,QF,QG,QH,QI,QJ,QK,QL,QM,QN,QO,QP,QQ,QR,QS,QT,QU,QV,QW,QX,QY,QZ,X0,X1,X2,X3,X4,X5,X6,X7,X8,X9,Xa,Xb,Xc,Xd,Xe,Xf,Xg,Xh,Xi,Xj,Xk,Xl,Xm,Xn,Xo,Xp,Xq,Xr,Xs,Xt,Xu,Xv,Xw,Xx,Xy,Xz,XA,XB,reduceIte,reduceCtorEq,XC,XD,XE,XF,XG,XH,XI,XJ,XK,XL,XM,XN,XO,XP,XQ,XR,XS,XT,XU,XV,XW,XX,XY,XZ,Y0,Try.q3,Try.q4,Try.q29,Try.underlying37,Try.q37,Try.underlying97,Try.q97]
      rw [List.append_nil] at hs hpm
      exact ⟨S, hpm, hsr, hs⟩
    | cons x T =>
      rw [List.length_cons] at hpl
      have d1 : decide (((A.length + S.length : Nat) : Int) < ((A.length + X.length : Nat) : Int)) = true := decide_eq_true (by omega)
      have dx : Day x := hDX x (hpm.subset (by simp))
      have hDS : ∀ e ∈ S, Day e := fun e he => hDX e (hpm.subset (by simp [he]))
      simp -implicitDefEqProofs only [d1,Q0,Q1,Q2,Q3,Q4,Q5,Q6,Q7,Q8,Q9,Qa,Qb,Qc,Qd,Qe,Qf,Qg,Qh,Qi,Qj,Qk,Ql,Qm,Qn,Qo,Qp,Qq,Qr,Qs,Qt,Qu,Qv,Qw,Qx,Qy,Qz,QA,QB,QC,QD,QE,QF,QG,QH,QI,QJ,QK,QL,QM,QN,QO,QP,QQ,QR,QS,QT,QU,QV,QW,QX,QY,QZ,X0,X1,X2,X3,X4,X5,X6,X7,X8,X9,Xa,Xb,Xc,Xd,Xe,Xf,Xg,Xh,Xi,Xj,Xk,Xl,Xm,Xn,Xo,Xp,Xq,Xr,Xs,Xt,Xu,Xv,Xw,Xx,Xy,Xz,XA,XB,reduceIte,reduceCtorEq,XC,XD,XE,XF,XG,XH,XI,XJ,XK,XL,XM,XN,XO,XP,XQ,XR,XS,XT,XU,XV,XW,XX,XY,XZ,Y0,Try.q3,Try.q4,Try.q29,Try.underlying37,Try.q37,Try.underlying97,Try.q97]
      refine awp_loop (fun z : List Ent × List Ent => [(9, .int .i64 ((A.length + z.1.length : Nat) : Int)), (8, .int .i64 ((A.length + S.length : Nat) : Int)), (0, .mvec id 0 n 6), (1, .int .i64 A.length), (2, .int .i64 (A.length + X.length : Nat)), (3, cmpV)])
        (fun z s => s = σ.set id (rowsE (A ++ (z.1 ++ x :: z.2 ++ T) ++ B)) ∧ z.1 ++ z.2 = S ∧ ∀ t ∈ z.2, x.day ≤ t.day) (fun z => z.1.length) (S, []) (by kernel_rfl) (by simp [sub_cons, sub_nil, get_cons])
        ⟨by rw [hs]; simp, by simp, by simp⟩ ?_
      rintro ⟨S1, S2⟩ s1 ⟨hs1, hS, hgt⟩
      simp only at hs1 hS hgt
      have hSl := congrArg List.length hS
      rw [List.length_append] at hSl
      have fin : (∀ t ∈ S1, t.day ≤ x.day) → s1 = σ.set id (rowsE (A ++ ((S1 ++ x :: S2) ++ T) ++ B)) ∧ S1 ++ x :: S2 ≠ [] ∧ Srt (S1 ++ x :: S2) ∧ ((S1 ++ x :: S2) ++ T).Perm X ∧ (S1 ++ x :: S2).length = S.length + 1 := by
        intro hle
        refine ⟨hs1, by simp, srt_ins (by rw [hS]; exact hsr) hle hgt, ?_, ?_⟩
        · refine List.Perm.trans ?_ hpm
          rw [← hS]
          simp only [List.append_assoc, List.cons_append]
          exact List.Perm.append_left _ List.perm_middle.symm
        · rw [List.length_append, List.length_cons]; omega
      have wi : IntKind.i64.wrap (((A.length + S.length : Nat) : Int) + 1) = ((A.length + (S.length + 1) : Nat) : Int) := by rw [wrap_i64 (by omega) (by omega)]; omega
      rcases List.eq_nil_or_concat S1 with hS1 | ⟨S1', t, hS1⟩
      · subst hS1
        have d2 : decide ((A.length : Int) < (A.length : Int)) = false := decide_eq_false (by omega)
        have d20 : A.length + ([] : List Ent).length = A.length := rfl
        refine awp_draws [] Try.mixed (by kernel_rfl) ?_
        simp -implicitDefEqProofs only [d20,d2,wi,Q0,Q1,Q2,Q3,Q4,Q5,Q6,Q7,Q8,Q9,Qa,Qb,Qc,Qd,Qe,Qf,Qg,Qh,Qi,Qj,Qk,Ql,Qm,Qn,Qo,Qp,Qq,Qr,Qs,Qt,Qu,Qv,Qw,Qx,Qy,Qz,QA,QB,QC,QD,QE,QF,QG,QH,QI,QJ,QK,QL,QM,QN,QO,QP,QQ,QR,QS,QT,QU,QV,QW,QX,QY,QZ,X0,X1,X2,X3,X4,X5,X6,X7,X8,X9,Xa,Xb,Xc,Xd,Xe,Xf,Xg,Xh,Xi,Xj,Xk,Xl,Xm,Xn,Xo,Xp,Xq,Xr,Xs,Xt,Xu,Xv,Xw,Xx,Xy,Xz,XA,XB,reduceIte,reduceCtorEq,XC,XD,XE,XF,XG,XH,XI,XJ,XK,XL,XM,XN,XO,XP,XQ,XR,XS,XT,XU,XV,XW,XX,XY,XZ,Y0,Try.q3,Try.q4,Try.q29,Try.underlying37,Try.q37,Try.underlying97,Try.q97]
        obtain ⟨f1, f2, f3, f4, f5⟩ := fin (by simp)
        exact ⟨([] ++ x :: S2, T), by simp only [f5], ⟨f1, f2, f3, f4⟩, by simp⟩
      · rw [List.concat_eq_append] at hS1
        subst hS1
        obtain ⟨U, hU⟩ : ∃ U, U = A ++ S1' := ⟨_, rfl⟩
        obtain ⟨W, hW⟩ : ∃ W, W = S2 ++ T ++ B := ⟨_, rfl⟩
        have e1 : A ++ (S1' ++ [t] ++ x :: S2 ++ T) ++ B = U ++ t :: x :: W := by rw [hU, hW]; simp
        have e2 : A ++ (S1' ++ x :: t :: S2 ++ T) ++ B = U ++ x :: t :: W := by rw [hU, hW]; simp
        have lU : A.length + (S1' ++ [t]).length = U.length + 1 := by rw [hU]; simp; omega
        have lU2 : A.length + S1'.length = U.length := by rw [hU, List.length_append]
        have ln : U.length + 2 ≤ n := by
          simp only [List.length_append, List.length_cons, List.length_nil] at hSl
          omega
        have dt : Day t := hDS t (by rw [← hS]; simp)
        have d2 : decide (((A.length : Nat) : Int) < ((U.length + 1 : Nat) : Int)) = true := decide_eq_true (by rw [hU, List.length_append]; omega)
        have w2 : IntKind.i64.wrap (((U.length + 1 : Nat) : Int) - 1) = (U.length : Int) := by rw [wrap_i64 (by omega) (by omega)]; omega
        have g1 : ((U ++ t :: x :: W).map entA).getD ((U.length + 1 : Nat) : Int).toNat [] = entA x := by
          rw [Int.toNat_natCast, show U ++ t :: x :: W = (U ++ [t]) ++ x :: W by simp]; exact row_at _ W x (by simp)
        have g2 : ((U ++ t :: x :: W).map entA).getD ((U.length : Nat) : Int).toNat [] = entA t := by rw [Int.toNat_natCast]; exact row_at U _ t rfl
        have g3 : ((U ++ t :: x :: W).map entA).set ((U.length + 1 : Nat) : Int).toNat (entA t) = (U ++ t :: t :: W).map entA := by
          rw [Int.toNat_natCast, show U ++ t :: x :: W = (U ++ [t]) ++ x :: W by simp, show U ++ t :: t :: W = (U ++ [t]) ++ t :: W by simp]; exact row_set _ W x t (by simp)
        have g4 : ((U ++ t :: t :: W).map entA).getD ((U.length : Nat) : Int).toNat [] = entA t := by rw [Int.toNat_natCast]; exact row_at U _ t rfl
        have g5 : ((U ++ t :: t :: W).map entA).set ((U.length : Nat) : Int).toNat (entA x) = (U ++ x :: t :: W).map entA := by rw [Int.toNat_natCast]; exact row_set U _ t x rfl
        have gl : ((U ++ t :: x :: W).map entA).length = n := by
          have := congrArg List.length e1
          rw [List.length_map, ← this]
          simp only [List.length_append, List.length_cons, List.length_nil] at hSl ⊢
          omega
        have gl1 : ((U ++ t :: t :: W).map entA).length = n := by rw [← gl]; simp
        rw [e1] at hs1
        have e2' : rowsE (A ++ (S1' ++ x :: t :: S2 ++ T) ++ B) = rowsE (U ++ x :: t :: W) := by rw [e2]
        unfold rowsE at hs1 e2'
        generalize (U ++ t :: x :: W).map entA = RS at *
        generalize (U ++ t :: t :: W).map entA = RT at *
        have hg : s1[id]? = some (.vecR 6 RS) := by rw [hs1]; exact List.getElem?_set_self hid
        have hss : ∀ x, s1.set id x = σ.set id x := by intro x; rw [hs1]; simp
        have hss2 : ∀ x y, (σ.set id x).set id y = σ.set id y := by intro x y; simp
        have hg2 : ∀ x, (σ.set id x)[id]? = some x := fun x => List.getElem?_set_self hid
        have k := c_cmp x t dx dt
        refine awp_draws [] Try.mixed (by kernel_rfl) ?_
        simp only [lU]
        simp -implicitDefEqProofs only [d2,w2,hg,g1,g2,gl,entA_take,entA_six,entA_all,Q0,Q1,Q2,Q3,Q4,Q5,Q6,Q7,Q8,Q9,Qa,Qb,Qc,Qd,Qe,Qf,Qg,Qh,Qi,Qj,Qk,Ql,Qm,Qn,Qo,Qp,Qq,Qr,Qs,Qt,Qu,Qv,Qw,Qx,Qy,Qz,QA,QB,QC,QD,QE,QF,QG,QH,QI,QJ,QK,QL,QM,QN,QO,QP,QQ,QR,QS,QT,QU,QV,QW,QX,QY,QZ,X0,X1,X2,X3,X4,X5,X6,X7,X8,X9,Xa,Xb,Xc,Xd,Xe,Xf,Xg,Xh,Xi,Xj,Xk,Xl,Xm,Xn,Xo,Xp,Xq,Xr,Xs,Xt,Xu,Xv,Xw,Xx,Xy,Xz,XA,XB,reduceIte,reduceCtorEq,XC,XD,XE,XF,XG,XH,XI,XJ,XK,XL,XM,XN,XO,XP,XQ,XR,XS,XT,XU,XV,XW,XX,XY,XZ,Y0,Try.q3,Try.q4,Try.q29,Try.underlying37,Try.q37,Try.underlying97,Try.q97]
        refine ⟨by omega, by omega, by omega, by omega, ?_⟩
        by_cases hlt : x.day < t.day
        · have d3 : decide (x.day - t.day < 0) = true := decide_eq_true (by omega)
          refine dCall_of (k _) (by decide) ?_
          simp -implicitDefEqProofs only [d3,Q0,Q1,Q2,Q3,Q4,Q5,Q6,Q7,Q8,Q9,Qa,Qb,Qc,Qd,Qe,Qf,Qg,Qh,Qi,Qj,Qk,Ql,Qm,Qn,Qo,Qp,Qq,Qr,Qs,Qt,Qu,Qv,Qw,Qx,Qy,Qz,QA,QB,QC,QD,QE,QF,QG,QH,QI,QJ,QK,QL,QM,QN,QO,QP,QQ,QR,QS,QT,QU,QV,QW,QX,QY,QZ,X0,X1,X2,X3,X4,X5,X6,X7,X8,X9,Xa,Xb,Xc,Xd,Xe,Xf,Xg,Xh,Xi,Xj,Xk,Xl,Xm,Xn,Xo,Xp,Xq,Xr,Xs,Xt,Xu,Xv,Xw,Xx,Xy,Xz,XA,XB,reduceIte,reduceCtorEq,XC,XD,XE,XF,XG,XH,XI,XJ,XK,XL,XM,XN,XO,XP,XQ,XR,XS,XT,XU,XV,XW,XX,XY,XZ,Y0,Try.q3,Try.q4,Try.q29,Try.underlying37,Try.q37,Try.underlying97,Try.q97]
          refine awp_draws [15, 17, 100009, 100013] Try.mixed (by kernel_rfl) ?_
          simp -implicitDefEqProofs only [w2,hg,hss,hss2,hg2,g1,g2,g3,g4,g5,gl,gl1,entA_take,entA_six,entA_all,entA_drop,Xb,Q0,Q1,Q2,Q3,Q4,Q5,Q6,Q7,Q8,Q9,Qa,Qb,Qc,Qd,Qe,Qf,Qg,Qh,Qi,Qj,Qk,Ql,Qm,Qn,Qo,Qp,Qq,Qr,Qs,Qt,Qu,Qv,Qw,Qx,Qy,Qz,QA,QB,QC,QD,QE,QF,QG,QH,QI,QJ,QK,QL,QM,QN,QO,QP,QQ,QR,QS,QT,QU,QV,QW,QX,QY,QZ,X0,X1,X2,X3,X4,X5,X6,X7,X8,X9,Xa,Xb,Xc,Xd,Xe,Xf,Xg,Xh,Xi,Xj,Xk,Xl,Xm,Xn,Xo,Xp,Xq,Xr,Xs,Xt,Xu,Xv,Xw,Xx,Xy,Xz,XA,XB,reduceIte,reduceCtorEq,XC,XD,XE,XF,XG,XH,XI,XJ,XK,XL,XM,XN,XO,XP,XQ,XR,XS,XT,XU,XV,XW,XX,XY,XZ,Y0,Try.q3,Try.q4,Try.q29,Try.underlying37,Try.q37,Try.underlying97,Try.q97]
          refine ⟨by omega, by omega, by omega, by omega, by omega, by omega, by omega, by omega, (S1', t :: S2), by simp only; rw [lU2], ⟨?_, ?_, ?_⟩, by simp⟩
          · exact congrArg (fun o => σ.set id o) e2'.symm
          · simp only; rw [← hS]; simp
          · intro z hz
            rcases List.mem_cons.1 hz with rfl | hz
            · omega
            · exact hgt z hz
        · have d3 : decide (x.day - t.day < 0) = false := decide_eq_false (by omega)
          refine dCall_of (k _) (by decide) ?_
          simp -implicitDefEqProofs only [d3,wi,Q0,Q1,Q2,Q3,Q4,Q5,Q6,Q7,Q8,Q9,Qa,Qb,Qc,Qd,Qe,Qf,Qg,Qh,Qi,Qj,Qk,Ql,Qm,Qn,Qo,Qp,Qq,Qr,Qs,Qt,Qu,Qv,Qw,Qx,Qy,Qz,QA,QB,QC,QD,QE,QF,QG,QH,QI,QJ,QK,QL,QM,QN,QO,QP,QQ,QR,QS,QT,QU,QV,QW,QX,QY,QZ,X0,X1,X2,X3,X4,X5,X6,X7,X8,X9,Xa,Xb,Xc,Xd,Xe,Xf,Xg,Xh,Xi,Xj,Xk,Xl,Xm,Xn,Xo,Xp,Xq,Xr,Xs,Xt,Xu,Xv,Xw,Xx,Xy,Xz,XA,XB,reduceIte,reduceCtorEq,XC,XD,XE,XF,XG,XH,XI,XJ,XK,XL,XM,XN,XO,XP,XQ,XR,XS,XT,XU,XV,XW,XX,XY,XZ,Y0,Try.q3,Try.q4,Try.q29,Try.underlying37,Try.q37,Try.underlying97,Try.q97]
          obtain ⟨f1, f2, f3, f4, f5⟩ := fin (srt_last (by rw [← hS] at hsr; unfold Srt at hsr; exact (List.pairwise_append.1 hsr).1) (by omega))
          exact ⟨(S1' ++ [t] ++ x :: S2, T), by simp only [f5], ⟨f1, f2, f3, f4⟩, by simp⟩

end Go.Proofs
