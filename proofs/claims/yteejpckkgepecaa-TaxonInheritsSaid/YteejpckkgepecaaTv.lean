/-
  Taxonomies: the reference's lowest classes; contract.
-/
import Derived.Test.YteejpckkgepecaaTu
import Derived.Test.YteejpckkgepecaaTq
namespace Go.Proofs
open Go.Pa
open Go.Pa renaming VB0 → Q0, VB1 → Q1, VB2 → Q2, VB3 → Q3, VB4 → Q4, VB5 → Q5, VB6 → Q6, VB7 → Q7, condV_bool → Q8, guardV_bool → Q9, vcS → Qa, evA → Qb, evBin → Qc, nilA → Qd, nilOf → Qe, intOp → Qf, strOp → Qg, evUn → Qh, evConv → Qi, evField → Qj, evFieldAddr → Qk, evIndexAddr → Ql, evIndex → Qm, evIndexA → Qn, bnd → Qo, evSlice → Qp, evLen → Qq, evPick → Qr, evExtract → Qs, evNilCheck → Qt, evMin → Qu, evMax → Qv, evLoadI → Qw, partsOne → Qy, intsOf → Qz, rowsAV → QA, evBuildSlice → QB, evBuild → QC, fillA → QD, splice → QE, evBuiltin → QF, guardD_bool → QG, dOp → QH, cl → QI, vcLoad → QJ, vcStore → QK, vcMake → QL, convA → QM, evIndexArr → QN, retA → QO, ressA → QP, resA → QQ, envOf → QR, condR_bool → QV, asgEnv → QW, parEnv → QX, dstAt → XG, vcLook → XR, vcPut → XS, vcEnt → XT, vcESt → XU, vcMLen → XV, vcDel → XW, vcClear → XX, vcLookD → XY
open Go.Pa.AV renaming cell → Qx
open Go.Pa.Env renaming put → QS
open List renaming set_cons_zero → QT, set_cons_succ → QU, foldl_cons → QY, foldl_nil → QZ, map_cons → X0, map_nil → X1, toList_toArray → X2, getElem?_cons_zero → X3, getElem?_cons_succ → X4, nil_append → X8, append_nil → X9, cons_append → Xa, singleton_append → Xb, length_cons → Xc, length_nil → Xd, all_cons → Xe, all_nil → Xf, take_succ_cons → Xg, take_zero → Xh, take_nil → Xi, drop_zero → Xj, drop_succ_cons → Xk, drop_nil → Xl, contains_nil → Xm, contains_cons → Xn
open Option renaming bind_some → X5, map_some → X6, map_none → X7
open Bool renaming or_false → Xo, false_or → Xp, or_true → Xq, true_or → Xr, false_eq_true → XA, not_true → XB, not_false → XC, and_true → XD, true_and → XE, and_self → XF
open Nat renaming reduceEqDiff → Xs, reduceAdd → Xt, reduceSub → Xu, reduceMul → Xv, reduceLT → Xw, reduceLeDiff → Xx, reduceBNe → Xy, reduceBEq → Xz, zero_add → XJ, add_zero → XK
open UInt8 renaming reduceToNat → XH
open Int renaming cast_ofNat_Int → XI, reduceToNat → XL, reduceLT → XM, reduceLE → XN, reduceNeg → XO, reduceEq → XP, reduceNe → XQ
set_option linter.unusedSimpArgs false
set_option linter.unusedVariables false
set_option maxRecDepth 20000
set_option maxHeartbeats 2000000

/-- One of the first k, but the i-th, inherits from the i-th. -/
noncomputable def lowK (p : List (List Int)) (L : List Int) (i k : Nat) : Bool := (List.range k).any fun j => !decide (j = i) && isI p (L.getD j 0) (L.getD i 0)

theorem lowK_succ (p : List (List Int)) (L : List Int) (i k : Nat) : lowK p L i (k + 1) = (lowK p L i k || (!decide (k = i) && isI p (L.getD k 0) (L.getD i 0))) := by
  unfold lowK
  rw [List.range_succ, List.any_append]
  simp

theorem lowK_all {p : List (List Int)} {l : List Int} (hl : l.any (badI p.length) = false) {i : Nat} (hi : i < (filtI p.length fun c => decide (c ∈ l)).length) :
    lowK p (filtI p.length fun c => decide (c ∈ l)) i (filtI p.length fun c => decide (c ∈ l)).length = l.any (lowI p ((filtI p.length fun c => decide (c ∈ l)).getD i 0)) := by
  have hinc : incB (filtI p.length fun c => decide (c ∈ l)) = true := filtI_inc _ _
  have hmem : ∀ x, x ∈ (filtI p.length fun c => decide (c ∈ l)) ↔ x ∈ l := by
    intro x
    rw [filtI_mem, decide_eq_true_iff]
    exact ⟨fun h => h.2, fun h => ⟨good_in hl h, h⟩⟩
  generalize (filtI p.length fun c => decide (c ∈ l)) = L at *
  rw [Bool.eq_iff_iff, List.any_eq_true]
  unfold lowK
  rw [List.any_eq_true]
  constructor
  · rintro ⟨j, hj, h⟩
    rw [Bool.and_eq_true, Bool.not_eq_true', decide_eq_false_iff_not] at h
    have hjl := List.mem_range.1 hj
    refine ⟨L.getD j 0, (hmem _).1 (by rw [getD_get hjl]; exact List.getElem_mem hjl), low_iff.2 ⟨?_, h.2⟩⟩
    rw [getD_get hjl, getD_get hi]
    exact inc_ne hinc hjl hi h.1
  · rintro ⟨d, hd, h⟩
    obtain ⟨h1, h2⟩ := low_iff.1 h
    obtain ⟨j, hj, rfl⟩ := List.getElem_of_mem ((hmem d).2 hd)
    refine ⟨j, List.mem_range.2 hj, ?_⟩
    rw [Bool.and_eq_true, Bool.not_eq_true', decide_eq_false_iff_not, getD_get hj]
    refine ⟨?_, h2⟩
    rintro rfl
    exact h1 (by rw [getD_get hj])

theorem low_filt (p : List (List Int)) (l : List Int) : ((filtI p.length fun c => decide (c ∈ l)).filter fun c => !l.any (lowI p c)) = filtI p.length fun c => decide (c ∈ l) && !l.any (lowI p c) := by
  unfold filtI
  rw [List.filter_filter]
  refine List.filter_congr fun x _ => ?_
  rw [Bool.and_comm]

theorem r_Least (p : List (List Int)) (hp : p.length ≤ 64) (hI : InR p) (hr : ∀ r ∈ p, r.length ≤ 64) (l : List Int) (hl : l.length ≤ 1000) (σ : Store) : ACalls Try.prog 22 [.rows 1 (p.map rowI), .ints .i64 l] σ (fun r s => r = colV p.length l (fun c => decide (c ∈ l) && !l.any (lowI p c)) ∧ s = σ) := by
  have hml : (p.map rowI).length = p.length := by simp
  have kk := r_known p (by omega) l (by omega)
  have kI := fun (c d : Int) σ => r_Is p hp hI hr c d σ
  cases hb : l.any (badI p.length) with
  | true =>
    rw [hb] at kk
    rw [colV_bad hb]
    refine acalls_of_vc (fn := Try.f22) Try.call22 Try.func22 rfl (by kernel_rfl) (by simp [Try.ntmps22]) ?_; simp -implicitDefEqProofs only [Try.ntmps22,Try.results22,Q0,Q1,Q2,Q3,Q4,Q5,Q6,Q7,Q8,Q9,Qa,Qb,Qc,Qd,Qe,Qf,Qg,Qh,Qi,Qj,Qk,Ql,Qm,Qn,Qo,Qp,Qq,Qr,Qs,Qt,Qu,Qv,Qw,Qx,Qy,Qz,QA,QB,QC,QD,QE,QF,QG,QH,QI,QJ,QK,QL,QM,QN,QO,QP,QQ,QR,QS,QT,QU,QV,QW,QX,QY,QZ,X0,X1,X2,X3,X4,X5,X6,X7,X8,X9,Xa,Xb,Xc,Xd,Xe,Xf,Xg,Xh,Xi,Xj,Xk,Xl,Xm,Xn,Xo,Xp,Xq,Xr,Xs,Xt,Xu,Xv,Xw,Xx,Xy,Xz,reduceIte,reduceCtorEq,ite_true,ite_false,if_true,if_false,XA,XB,XC,XD,XE,XF,and_true,true_and,and_self,true_imp_iff,false_imp_iff,eq_self,not_true_eq_false,not_false_eq_true,ne_eq,decide_true,decide_false,XG,XH,XI,XJ,XK,XL,XM,XN,XO,XP,XQ,XR,XS,XT,XU,XV,XW,XX,XY,Try.underlying3,Try.q3,Try.underlying4,Try.q4,Try.underlying22,Try.q22,Try.underlying23,Try.q23,Try.underlying26,Try.q26]
    refine acalls_then (kk _) ?_
    simp -implicitDefEqProofs only [Q0,Q1,Q2,Q3,Q4,Q5,Q6,Q7,Q8,Q9,Qa,Qb,Qc,Qd,Qe,Qf,Qg,Qh,Qi,Qj,Qk,Ql,Qm,Qn,Qo,Qp,Qq,Qr,Qs,Qt,Qu,Qv,Qw,Qx,Qy,Qz,QA,QB,QC,QD,QE,QF,QG,QH,QI,QJ,QK,QL,QM,QN,QO,QP,QQ,QR,QS,QT,QU,QV,QW,QX,QY,QZ,X0,X1,X2,X3,X4,X5,X6,X7,X8,X9,Xa,Xb,Xc,Xd,Xe,Xf,Xg,Xh,Xi,Xj,Xk,Xl,Xm,Xn,Xo,Xp,Xq,Xr,Xs,Xt,Xu,Xv,Xw,Xx,Xy,Xz,reduceIte,reduceCtorEq,ite_true,ite_false,if_true,if_false,XA,XB,XC,XD,XE,XF,and_true,true_and,and_self,true_imp_iff,false_imp_iff,eq_self,not_true_eq_false,not_false_eq_true,ne_eq,decide_true,decide_false,XG,XH,XI,XJ,XK,XL,XM,XN,XO,XP,XQ,XR,XS,XT,XU,XV,XW,XX,XY,Try.underlying3,Try.q3,Try.underlying4,Try.q4,Try.underlying22,Try.q22,Try.underlying23,Try.q23,Try.underlying26,Try.q26]
  | false =>
    rw [hb] at kk
    rw [colV_ok hb]
    refine ACalls.frozen (ACalls.mono (R := fun r s => Ext σ s ∧ ∃ x, r = .tup [x, .int .i64 0] ∧ BufI s σ.length x .i64 (filtI p.length fun c => decide (c ∈ l) && !l.any (lowI p c))) ?_ fun r s ⟨h1, x, h2, h3⟩ => ⟨h1, by
      subst h2
      exact .tup _ _ rfl fun k a b ha hb => by
        match k with
        | 0 => cases ha; cases hb; exact h3.frz
        | 1 => cases ha; cases hb; exact .same _ rfl
        | k + 2 => cases ha⟩)
    have ko := r_ordered l (by omega) p.length (by omega)
    have hall := fun {i : Nat} hi => lowK_all hb (i := i) hi
    have hlf := low_filt p l
    have hol := filtI_len p.length fun c => decide (c ∈ l)
    rw [← hlf]
    clear hlf
    generalize (filtI p.length fun c => decide (c ∈ l)) = L at *
    refine acalls_of_vc (fn := Try.f22) Try.call22 Try.func22 rfl (by kernel_rfl) (by simp [Try.ntmps22]) ?_; simp -implicitDefEqProofs only [Try.ntmps22,Try.results22,Q0,Q1,Q2,Q3,Q4,Q5,Q6,Q7,Q8,Q9,Qa,Qb,Qc,Qd,Qe,Qf,Qg,Qh,Qi,Qj,Qk,Ql,Qm,Qn,Qo,Qp,Qq,Qr,Qs,Qt,Qu,Qv,Qw,Qx,Qy,Qz,QA,QB,QC,QD,QE,QF,QG,QH,QI,QJ,QK,QL,QM,QN,QO,QP,QQ,QR,QS,QT,QU,QV,QW,QX,QY,QZ,X0,X1,X2,X3,X4,X5,X6,X7,X8,X9,Xa,Xb,Xc,Xd,Xe,Xf,Xg,Xh,Xi,Xj,Xk,Xl,Xm,Xn,Xo,Xp,Xq,Xr,Xs,Xt,Xu,Xv,Xw,Xx,Xy,Xz,reduceIte,reduceCtorEq,ite_true,ite_false,if_true,if_false,XA,XB,XC,XD,XE,XF,and_true,true_and,and_self,true_imp_iff,false_imp_iff,eq_self,not_true_eq_false,not_false_eq_true,ne_eq,decide_true,decide_false,XG,XH,XI,XJ,XK,XL,XM,XN,XO,XP,XQ,XR,XS,XT,XU,XV,XW,XX,XY,Try.underlying3,Try.q3,Try.underlying4,Try.q4,Try.underlying22,Try.q22,Try.underlying23,Try.q23,Try.underlying26,Try.q26]
    refine acalls_then (kk _) ?_
    simp -implicitDefEqProofs only [hml,Q0,Q1,Q2,Q3,Q4,Q5,Q6,Q7,Q8,Q9,Qa,Qb,Qc,Qd,Qe,Qf,Qg,Qh,Qi,Qj,Qk,Ql,Qm,Qn,Qo,Qp,Qq,Qr,Qs,Qt,Qu,Qv,Qw,Qx,Qy,Qz,QA,QB,QC,QD,QE,QF,QG,QH,QI,QJ,QK,QL,QM,QN,QO,QP,QQ,QR,QS,QT,QU,QV,QW,QX,QY,QZ,X0,X1,X2,X3,X4,X5,X6,X7,X8,X9,Xa,Xb,Xc,Xd,Xe,Xf,Xg,Xh,Xi,Xj,Xk,Xl,Xm,Xn,Xo,Xp,Xq,Xr,Xs,Xt,Xu,Xv,Xw,Xx,Xy,Xz,reduceIte,reduceCtorEq,ite_true,ite_false,if_true,if_false,XA,XB,XC,XD,XE,XF,and_true,true_and,and_self,true_imp_iff,false_imp_iff,eq_self,not_true_eq_false,not_false_eq_true,ne_eq,decide_true,decide_false,XG,XH,XI,XJ,XK,XL,XM,XN,XO,XP,XQ,XR,XS,XT,XU,XV,XW,XX,XY,Try.underlying3,Try.q3,Try.underlying4,Try.q4,Try.underlying22,Try.q22,Try.underlying23,Try.q23,Try.underlying26,Try.q26]
    refine acalls_then (ko _) ?_
    simp -implicitDefEqProofs only [Q0,Q1,Q2,Q3,Q4,Q5,Q6,Q7,Q8,Q9,Qa,Qb,Qc,Qd,Qe,Qf,Qg,Qh,Qi,Qj,Qk,Ql,Qm,Qn,Qo,Qp,Qq,Qr,Qs,Qt,Qu,Qv,Qw,Qx,Qy,Qz,QA,QB,QC,QD,QE,QF,QG,QH,QI,QJ,QK,QL,QM,QN,QO,QP,QQ,QR,QS,QT,QU,QV,QW,QX,QY,QZ,X0,X1,X2,X3,X4,X5,X6,X7,X8,X9,Xa,Xb,Xc,Xd,Xe,Xf,Xg,Xh,Xi,Xj,Xk,Xl,Xm,Xn,Xo,Xp,Xq,Xr,Xs,Xt,Xu,Xv,Xw,Xx,Xy,Xz,reduceIte,reduceCtorEq,ite_true,ite_false,if_true,if_false,XA,XB,XC,XD,XE,XF,and_true,true_and,and_self,true_imp_iff,false_imp_iff,eq_self,not_true_eq_false,not_false_eq_true,ne_eq,decide_true,decide_false,XG,XH,XI,XJ,XK,XL,XM,XN,XO,XP,XQ,XR,XS,XT,XU,XV,XW,XX,XY,Try.underlying3,Try.q3,Try.underlying4,Try.q4,Try.underlying22,Try.q22,Try.underlying23,Try.q23,Try.underlying26,Try.q26]
    refine awp_loop (fun q : Nat × AV => [(8, .int .i64 q.1), (6, q.2), (7, .ints .i64 L), (0, .rows 1 (p.map rowI))]) (fun q s => q.1 ≤ L.length ∧ Ext σ s ∧ BufI s σ.length q.2 .i64 ((L.take q.1).filter fun c => !l.any (lowI p c))) (fun q => L.length - q.1) (0, .nils) (by kernel_rfl) (by simp [sub_cons, sub_nil, get_cons]) ⟨by simp, .refl _, .inl ⟨.inl rfl, by simp⟩⟩ ?_
    rintro ⟨i, r⟩ s ⟨hi, hx, hbuf⟩
    simp only at hi hbuf
    by_cases hlt : i < L.length
    · have d1 : decide ((i : Int) < (L.length : Int)) = true := decide_eq_true (by omega)
      have wi : IntKind.i64.wrap ((i : Int) + 1) = ((i + 1 : Nat) : Int) := by rw [wrap_i64 (by omega) (by omega)]; rfl
      have bi : (0 : Int) ≤ (i : Int) ∧ (i : Int) < (L.length : Int) := by omega
      simp -implicitDefEqProofs only [d1,Q0,Q1,Q2,Q3,Q4,Q5,Q6,Q7,Q8,Q9,Qa,Qb,Qc,Qd,Qe,Qf,Qg,Qh,Qi,Qj,Qk,Ql,Qm,Qn,Qo,Qp,Qq,Qr,Qs,Qt,Qu,Qv,Qw,Qx,Qy,Qz,QA,QB,QC,QD,QE,QF,QG,QH,QI,QJ,QK,QL,QM,QN,QO,QP,QQ,QR,QS,QT,QU,QV,QW,QX,QY,QZ,X0,X1,X2,X3,X4,X5,X6,X7,X8,X9,Xa,Xb,Xc,Xd,Xe,Xf,Xg,Xh,Xi,Xj,Xk,Xl,Xm,Xn,Xo,Xp,Xq,Xr,Xs,Xt,Xu,Xv,Xw,Xx,Xy,Xz,reduceIte,reduceCtorEq,ite_true,ite_false,if_true,if_false,XA,XB,XC,XD,XE,XF,and_true,true_and,and_self,true_imp_iff,false_imp_iff,eq_self,not_true_eq_false,not_false_eq_true,ne_eq,decide_true,decide_false,XG,XH,XI,XJ,XK,XL,XM,XN,XO,XP,XQ,XR,XS,XT,XU,XV,XW,XX,XY,Try.underlying3,Try.q3,Try.underlying4,Try.q4,Try.underlying22,Try.q22,Try.underlying23,Try.q23,Try.underlying26,Try.q26]
      refine awp_loop (fun k : Nat => [(10, .int .i64 k), (9, .bool (!lowK p L i k)), (8, .int .i64 i), (6, r), (7, .ints .i64 L), (0, .rows 1 (p.map rowI))]) (fun k s' => k ≤ L.length ∧ s' = s) (fun k => L.length - k) 0 (by kernel_rfl) (by simp [sub_cons, sub_nil, get_cons, lowK]) ⟨by simp, rfl⟩ ?_
      rintro k s' ⟨hk, rfl⟩
      by_cases hlk : k < L.length
      · have d2 : decide ((k : Int) < (L.length : Int)) = true := decide_eq_true (by omega)
        have wk : IntKind.i64.wrap ((k : Int) + 1) = ((k + 1 : Nat) : Int) := by rw [wrap_i64 (by omega) (by omega)]; rfl
        have bk : (0 : Int) ≤ (k : Int) ∧ (k : Int) < (L.length : Int) := by omega
        have hsu := lowK_succ p L i k
        have kik := kI (L.getD k 0) (L.getD i 0)
        have hgk : L.getD ((k : Int).toNat) 0 = L.getD k 0 := by rw [Int.toNat_natCast]
        have hgi : L.getD ((i : Int).toNat) 0 = L.getD i 0 := by rw [Int.toNat_natCast]
        generalize L.getD k 0 = y at *
        generalize L.getD i 0 = x at *
        generalize lowK p L i k = b0 at *
        simp -implicitDefEqProofs only [d2,Q0,Q1,Q2,Q3,Q4,Q5,Q6,Q7,Q8,Q9,Qa,Qb,Qc,Qd,Qe,Qf,Qg,Qh,Qi,Qj,Qk,Ql,Qm,Qn,Qo,Qp,Qq,Qr,Qs,Qt,Qu,Qv,Qw,Qx,Qy,Qz,QA,QB,QC,QD,QE,QF,QG,QH,QI,QJ,QK,QL,QM,QN,QO,QP,QQ,QR,QS,QT,QU,QV,QW,QX,QY,QZ,X0,X1,X2,X3,X4,X5,X6,X7,X8,X9,Xa,Xb,Xc,Xd,Xe,Xf,Xg,Xh,Xi,Xj,Xk,Xl,Xm,Xn,Xo,Xp,Xq,Xr,Xs,Xt,Xu,Xv,Xw,Xx,Xy,Xz,reduceIte,reduceCtorEq,ite_true,ite_false,if_true,if_false,XA,XB,XC,XD,XE,XF,and_true,true_and,and_self,true_imp_iff,false_imp_iff,eq_self,not_true_eq_false,not_false_eq_true,ne_eq,decide_true,decide_false,XG,XH,XI,XJ,XK,XL,XM,XN,XO,XP,XQ,XR,XS,XT,XU,XV,XW,XX,XY,Try.underlying3,Try.q3,Try.underlying4,Try.q4,Try.underlying22,Try.q22,Try.underlying23,Try.q23,Try.underlying26,Try.q26]
        refine awp_draws [] Try.mixed (by kernel_rfl) ?_
        by_cases hki : k = i
        · have d3 : decide ((k : Int) = (i : Int)) = true := decide_eq_true (by omega)
          rw [decide_eq_true hki, Bool.not_true, Bool.false_and, Bool.or_false] at hsu
          simp -implicitDefEqProofs only [d3,wk,Q0,Q1,Q2,Q3,Q4,Q5,Q6,Q7,Q8,Q9,Qa,Qb,Qc,Qd,Qe,Qf,Qg,Qh,Qi,Qj,Qk,Ql,Qm,Qn,Qo,Qp,Qq,Qr,Qs,Qt,Qu,Qv,Qw,Qx,Qy,Qz,QA,QB,QC,QD,QE,QF,QG,QH,QI,QJ,QK,QL,QM,QN,QO,QP,QQ,QR,QS,QT,QU,QV,QW,QX,QY,QZ,X0,X1,X2,X3,X4,X5,X6,X7,X8,X9,Xa,Xb,Xc,Xd,Xe,Xf,Xg,Xh,Xi,Xj,Xk,Xl,Xm,Xn,Xo,Xp,Xq,Xr,Xs,Xt,Xu,Xv,Xw,Xx,Xy,Xz,reduceIte,reduceCtorEq,ite_true,ite_false,if_true,if_false,XA,XB,XC,XD,XE,XF,and_true,true_and,and_self,true_imp_iff,false_imp_iff,eq_self,not_true_eq_false,not_false_eq_true,ne_eq,decide_true,decide_false,XG,XH,XI,XJ,XK,XL,XM,XN,XO,XP,XQ,XR,XS,XT,XU,XV,XW,XX,XY,Try.underlying3,Try.q3,Try.underlying4,Try.q4,Try.underlying22,Try.q22,Try.underlying23,Try.q23,Try.underlying26,Try.q26]
          exact ⟨k + 1, ⟨rfl, by rw [hsu]⟩, by omega, by omega⟩
        · have d3 : decide ((k : Int) = (i : Int)) = false := decide_eq_false (by omega)
          rw [decide_eq_false hki, Bool.not_false, Bool.true_and] at hsu
          generalize isI p y x = v at *
          simp -implicitDefEqProofs only [d3,hgk,hgi,Q0,Q1,Q2,Q3,Q4,Q5,Q6,Q7,Q8,Q9,Qa,Qb,Qc,Qd,Qe,Qf,Qg,Qh,Qi,Qj,Qk,Ql,Qm,Qn,Qo,Qp,Qq,Qr,Qs,Qt,Qu,Qv,Qw,Qx,Qy,Qz,QA,QB,QC,QD,QE,QF,QG,QH,QI,QJ,QK,QL,QM,QN,QO,QP,QQ,QR,QS,QT,QU,QV,QW,QX,QY,QZ,X0,X1,X2,X3,X4,X5,X6,X7,X8,X9,Xa,Xb,Xc,Xd,Xe,Xf,Xg,Xh,Xi,Xj,Xk,Xl,Xm,Xn,Xo,Xp,Xq,Xr,Xs,Xt,Xu,Xv,Xw,Xx,Xy,Xz,reduceIte,reduceCtorEq,ite_true,ite_false,if_true,if_false,XA,XB,XC,XD,XE,XF,and_true,true_and,and_self,true_imp_iff,false_imp_iff,eq_self,not_true_eq_false,not_false_eq_true,ne_eq,decide_true,decide_false,XG,XH,XI,XJ,XK,XL,XM,XN,XO,XP,XQ,XR,XS,XT,XU,XV,XW,XX,XY,Try.underlying3,Try.q3,Try.underlying4,Try.q4,Try.underlying22,Try.q22,Try.underlying23,Try.q23,Try.underlying26,Try.q26]
          refine ⟨bk, bi, ?_⟩
          cases v with
          | true =>
            rw [Bool.or_true] at hsu
            refine dCall_of (kik _) (by decide) ?_
            simp -implicitDefEqProofs only [wk,Q0,Q1,Q2,Q3,Q4,Q5,Q6,Q7,Q8,Q9,Qa,Qb,Qc,Qd,Qe,Qf,Qg,Qh,Qi,Qj,Qk,Ql,Qm,Qn,Qo,Qp,Qq,Qr,Qs,Qt,Qu,Qv,Qw,Qx,Qy,Qz,QA,QB,QC,QD,QE,QF,QG,QH,QI,QJ,QK,QL,QM,QN,QO,QP,QQ,QR,QS,QT,QU,QV,QW,QX,QY,QZ,X0,X1,X2,X3,X4,X5,X6,X7,X8,X9,Xa,Xb,Xc,Xd,Xe,Xf,Xg,Xh,Xi,Xj,Xk,Xl,Xm,Xn,Xo,Xp,Xq,Xr,Xs,Xt,Xu,Xv,Xw,Xx,Xy,Xz,reduceIte,reduceCtorEq,ite_true,ite_false,if_true,if_false,XA,XB,XC,XD,XE,XF,and_true,true_and,and_self,true_imp_iff,false_imp_iff,eq_self,not_true_eq_false,not_false_eq_true,ne_eq,decide_true,decide_false,XG,XH,XI,XJ,XK,XL,XM,XN,XO,XP,XQ,XR,XS,XT,XU,XV,XW,XX,XY,Try.underlying3,Try.q3,Try.underlying4,Try.q4,Try.underlying22,Try.q22,Try.underlying23,Try.q23,Try.underlying26,Try.q26]
            exact ⟨k + 1, ⟨rfl, by rw [hsu]; rfl⟩, by omega, by omega⟩
          | false =>
            rw [Bool.or_false] at hsu
            refine dCall_of (kik _) (by decide) ?_
            simp -implicitDefEqProofs only [wk,Q0,Q1,Q2,Q3,Q4,Q5,Q6,Q7,Q8,Q9,Qa,Qb,Qc,Qd,Qe,Qf,Qg,Qh,Qi,Qj,Qk,Ql,Qm,Qn,Qo,Qp,Qq,Qr,Qs,Qt,Qu,Qv,Qw,Qx,Qy,Qz,QA,QB,QC,QD,QE,QF,QG,QH,QI,QJ,QK,QL,QM,QN,QO,QP,QQ,QR,QS,QT,QU,QV,QW,QX,QY,QZ,X0,X1,X2,X3,X4,X5,X6,X7,X8,X9,Xa,Xb,Xc,Xd,Xe,Xf,Xg,Xh,Xi,Xj,Xk,Xl,Xm,Xn,Xo,Xp,Xq,Xr,Xs,Xt,Xu,Xv,Xw,Xx,Xy,Xz,reduceIte,reduceCtorEq,ite_true,ite_false,if_true,if_false,XA,XB,XC,XD,XE,XF,and_true,true_and,and_self,true_imp_iff,false_imp_iff,eq_self,not_true_eq_false,not_false_eq_true,ne_eq,decide_true,decide_false,XG,XH,XI,XJ,XK,XL,XM,XN,XO,XP,XQ,XR,XS,XT,XU,XV,XW,XX,XY,Try.underlying3,Try.q3,Try.underlying4,Try.q4,Try.underlying22,Try.q22,Try.underlying23,Try.q23,Try.underlying26,Try.q26]
            exact ⟨k + 1, ⟨rfl, by rw [hsu]⟩, by omega, by omega⟩
      · have d2 : decide ((k : Int) < (L.length : Int)) = false := decide_eq_false (by omega)
        have hkL : k = L.length := by omega
        subst hkL
        have hft := filter_take (f := fun c => !l.any (lowI p c)) hlt
        have hlf : ((L.take i).filter fun c => !l.any (lowI p c)).length ≤ 64 := by
          refine Nat.le_trans (List.length_filter_le _ _) ?_
          rw [List.length_take]; omega
        rw [hall hlt]
        rw [getD_get hlt]
        have hgi : L.getD ((i : Int).toNat) 0 = L[i] := by rw [Int.toNat_natCast, getD_get hlt]
        generalize L[i] = x at *
        generalize l.any (lowI p x) = v at *
        cases v with
        | true =>
          simp only [Bool.not_true, Bool.false_eq_true, if_false, List.append_nil] at hft
          simp -implicitDefEqProofs only [d2,wi,Q0,Q1,Q2,Q3,Q4,Q5,Q6,Q7,Q8,Q9,Qa,Qb,Qc,Qd,Qe,Qf,Qg,Qh,Qi,Qj,Qk,Ql,Qm,Qn,Qo,Qp,Qq,Qr,Qs,Qt,Qu,Qv,Qw,Qx,Qy,Qz,QA,QB,QC,QD,QE,QF,QG,QH,QI,QJ,QK,QL,QM,QN,QO,QP,QQ,QR,QS,QT,QU,QV,QW,QX,QY,QZ,X0,X1,X2,X3,X4,X5,X6,X7,X8,X9,Xa,Xb,Xc,Xd,Xe,Xf,Xg,Xh,Xi,Xj,Xk,Xl,Xm,Xn,Xo,Xp,Xq,Xr,Xs,Xt,Xu,Xv,Xw,Xx,Xy,Xz,reduceIte,reduceCtorEq,ite_true,ite_false,if_true,if_false,XA,XB,XC,XD,XE,XF,and_true,true_and,and_self,true_imp_iff,false_imp_iff,eq_self,not_true_eq_false,not_false_eq_true,ne_eq,decide_true,decide_false,XG,XH,XI,XJ,XK,XL,XM,XN,XO,XP,XQ,XR,XS,XT,XU,XV,XW,XX,XY,Try.underlying3,Try.q3,Try.underlying4,Try.q4,Try.underlying22,Try.q22,Try.underlying23,Try.q23,Try.underlying26,Try.q26]
          exact ⟨(i + 1, r), ⟨rfl, rfl⟩, ⟨by simp only; omega, hx, by simp only; rw [hft]; exact hbuf⟩, by simp only; omega⟩
        | false =>
          simp only [Bool.not_false, if_true] at hft
          simp -implicitDefEqProofs only [d2,hgi,Q0,Q1,Q2,Q3,Q4,Q5,Q6,Q7,Q8,Q9,Qa,Qb,Qc,Qd,Qe,Qf,Qg,Qh,Qi,Qj,Qk,Ql,Qm,Qn,Qo,Qp,Qq,Qr,Qs,Qt,Qu,Qv,Qw,Qx,Qy,Qz,QA,QB,QC,QD,QE,QF,QG,QH,QI,QJ,QK,QL,QM,QN,QO,QP,QQ,QR,QS,QT,QU,QV,QW,QX,QY,QZ,X0,X1,X2,X3,X4,X5,X6,X7,X8,X9,Xa,Xb,Xc,Xd,Xe,Xf,Xg,Xh,Xi,Xj,Xk,Xl,Xm,Xn,Xo,Xp,Xq,Xr,Xs,Xt,Xu,Xv,Xw,Xx,Xy,Xz,reduceIte,reduceCtorEq,ite_true,ite_false,if_true,if_false,XA,XB,XC,XD,XE,XF,and_true,true_and,and_self,true_imp_iff,false_imp_iff,eq_self,not_true_eq_false,not_false_eq_true,ne_eq,decide_true,decide_false,XG,XH,XI,XJ,XK,XL,XM,XN,XO,XP,XQ,XR,XS,XT,XU,XV,XW,XX,XY,Try.underlying3,Try.q3,Try.underlying4,Try.q4,Try.underlying22,Try.q22,Try.underlying23,Try.q23,Try.underlying26,Try.q26]
          refine ⟨bi, ?_⟩
          refine append_buf Try.sl22 (by simp [Try.bt3]) hx hbuf (.inl rfl) (by simp only [appFits, Try.bt3, List.length_cons, List.length_nil]; omega) fun r2 s2 hx2 hb2 => ?_
          simp -implicitDefEqProofs only [wi,Q0,Q1,Q2,Q3,Q4,Q5,Q6,Q7,Q8,Q9,Qa,Qb,Qc,Qd,Qe,Qf,Qg,Qh,Qi,Qj,Qk,Ql,Qm,Qn,Qo,Qp,Qq,Qr,Qs,Qt,Qu,Qv,Qw,Qx,Qy,Qz,QA,QB,QC,QD,QE,QF,QG,QH,QI,QJ,QK,QL,QM,QN,QO,QP,QQ,QR,QS,QT,QU,QV,QW,QX,QY,QZ,X0,X1,X2,X3,X4,X5,X6,X7,X8,X9,Xa,Xb,Xc,Xd,Xe,Xf,Xg,Xh,Xi,Xj,Xk,Xl,Xm,Xn,Xo,Xp,Xq,Xr,Xs,Xt,Xu,Xv,Xw,Xx,Xy,Xz,reduceIte,reduceCtorEq,ite_true,ite_false,if_true,if_false,XA,XB,XC,XD,XE,XF,and_true,true_and,and_self,true_imp_iff,false_imp_iff,eq_self,not_true_eq_false,not_false_eq_true,ne_eq,decide_true,decide_false,XG,XH,XI,XJ,XK,XL,XM,XN,XO,XP,XQ,XR,XS,XT,XU,XV,XW,XX,XY,Try.underlying3,Try.q3,Try.underlying4,Try.q4,Try.underlying22,Try.q22,Try.underlying23,Try.q23,Try.underlying26,Try.q26]
          exact ⟨(i + 1, r2), ⟨rfl, rfl⟩, ⟨by simp only; omega, hx2, by simp only; rw [hft]; exact hb2⟩, by simp only; omega⟩
    · have d1 : decide ((i : Int) < (L.length : Int)) = false := decide_eq_false (by omega)
      rw [List.take_of_length_le (by omega)] at hbuf
      simp -implicitDefEqProofs only [d1,Q0,Q1,Q2,Q3,Q4,Q5,Q6,Q7,Q8,Q9,Qa,Qb,Qc,Qd,Qe,Qf,Qg,Qh,Qi,Qj,Qk,Ql,Qm,Qn,Qo,Qp,Qq,Qr,Qs,Qt,Qu,Qv,Qw,Qx,Qy,Qz,QA,QB,QC,QD,QE,QF,QG,QH,QI,QJ,QK,QL,QM,QN,QO,QP,QQ,QR,QS,QT,QU,QV,QW,QX,QY,QZ,X0,X1,X2,X3,X4,X5,X6,X7,X8,X9,Xa,Xb,Xc,Xd,Xe,Xf,Xg,Xh,Xi,Xj,Xk,Xl,Xm,Xn,Xo,Xp,Xq,Xr,Xs,Xt,Xu,Xv,Xw,Xx,Xy,Xz,reduceIte,reduceCtorEq,ite_true,ite_false,if_true,if_false,XA,XB,XC,XD,XE,XF,and_true,true_and,and_self,true_imp_iff,false_imp_iff,eq_self,not_true_eq_false,not_false_eq_true,ne_eq,decide_true,decide_false,XG,XH,XI,XJ,XK,XL,XM,XN,XO,XP,XQ,XR,XS,XT,XU,XV,XW,XX,XY,Try.underlying3,Try.q3,Try.underlying4,Try.q4,Try.underlying22,Try.q22,Try.underlying23,Try.q23,Try.underlying26,Try.q26]
      exact ⟨hx, r, rfl, hbuf⟩

end Go.Proofs
